import Derived.Test.YtagijaijjjaolaaDoorDkQ
namespace Go.Proofs.YtagijaijjjaolaaDoor.PBL
open Go.RowKit Go.Proofs.YtagijaijjjaolaaDoorW.PrintWords Go.Proofs.YtagijaijjjaolaaDoorW.PrintLast Go.Proofs.YtagijaijjjaolaaDoorW.PrintMore
attribute [local go_sem] max2_int min2_int max_two min_two max_three min_three max_four min_four   -- for this text's walks alone
set_option linter.unusedVariables false
set_option linter.unusedSimpArgs false

section
variable {ok ok2 : Nat → Prop}
theorem great_l (l : List S44) (m : Int) (hl : l.length < 9223372036854775808) : ∀ d j : Nat, l.length - j ≤ d → ∃ k r, chatelainelaw23_great.l0 k l m (j : Int) = some r
  | d, j, h => by
    by_cases c : j < l.length
    · cases d with
      | zero => omega
      | succ d =>
        obtain ⟨k, r, e⟩ := great_l l m hl d (j + 1) (by omega)
        have hw : wrap64 ((j : Int) + 1) = ((j + 1 : Nat) : Int) := by unfold wrap64; omega
        by_cases g : (l.length : Int) ≤ m
        · by_cases g2 : (((rd_T44 l (j : Int)).f4).length : Int) > 40
          · exact ⟨k + 2, true, by
              rw [chatelainelaw23_great.l0, if_pos (by omega), chatelainelaw23_great.j1, if_pos (decide_eq_true g), if_pos (by omega), if_pos (by omega)]
              exact if_pos g2⟩
          · exact ⟨k + 2, r, by
              rw [chatelainelaw23_great.l0, if_pos (by omega), chatelainelaw23_great.j1, if_pos (decide_eq_true g), if_pos (by omega), if_pos (by omega)]
              exact (if_neg g2).trans (by rw [hw]; exact e)⟩
        · exact ⟨2, _, by
            rw [chatelainelaw23_great.l0, if_pos (by omega), chatelainelaw23_great.j1, if_neg (by rw [decide_eq_false g]; exact Bool.false_ne_true)]⟩
    · exact ⟨2, _, by
        rw [chatelainelaw23_great.l0, if_neg (by omega), chatelainelaw23_great.j1, if_neg Bool.false_ne_true]⟩
theorem great_tells (l : List S44) (m : Int) (hl : l.length < 9223372036854775808) : ∃ k r, chatelainelaw23_great.f k l m = some r := great_l l m hl l.length 0 (by omega)

theorem keep_lt {w : World} {A : Option Addr} {xs : List Bool} (h : Kd.C Kd.bool w A xs.length xs) (ad : Addr) (e : A = some ad) (hne : xs ≠ []) : ad.block < w.heap.size := by
  obtain ⟨_, _, a3⟩ := Kd.reads_of_C (d := false) h
  have hl : 0 < xs.length := List.length_pos_iff.mpr hne
  obtain ⟨ad2, e2, hcl⟩ := a3 hl
  rw [e] at e2
  cases e2
  have := World.block_lt_of_cell? w _ (hcl 0 hl)
  have hbl : (ad.add 0).block = ad.block := by unfold Addr.add; split <;> rfl
  rw [hbl] at this
  exact this
theorem act_at {w w' : World} {A : Option Addr} {n : Nat} {xs : List S44} (hr : Kd.C k44 w A n xs) (hb : Below w.heap.size w w') (j : Nat) (hj : j < n) : ∃ ad A4 c4 x0 x1 x2 x3 x4, A = some ad ∧ (ad.add (j * 5)).block < w.heap.size ∧ w'.cell? (ad.add (j * 5)) = some (.int .i64 x0) ∧ w'.cell? ⟨(ad.add (j * 5)).block, (ad.add (j * 5)).off + 1, none⟩ = some (.int .i64 x1) ∧ w'.cell? ⟨(ad.add (j * 5)).block, (ad.add (j * 5)).off + 2, none⟩ = some (.int .u8 x2) ∧ w'.cell? ⟨(ad.add (j * 5)).block, (ad.add (j * 5)).off + 3, none⟩ = some (.int .i64 x3) ∧ w'.cell? ⟨(ad.add (j * 5)).block, (ad.add (j * 5)).off + 4, none⟩ = some (.slice A4 x4.length c4) ∧ x4.length ≤ c4 ∧ Kd.C Kd.bool w' A4 x4.length x4 ∧ (∀ ad4, A4 = some ad4 → x4 ≠ [] → ad4.block < w.heap.size) ∧ rd_T44 xs (j : Int) = ⟨x0, x1, x2, x3, x4⟩ := by
  obtain ⟨ad, A4, c4, e, h0, h1, h2, h3, h4, hl, hC⟩ := at_T44 hr (j : Int) (by omega) (by omega)
  rw [Int.toNat_natCast] at h0 h1 h2 h3 h4
  exact ⟨ad, A4, c4, _, _, _, _, _, e, World.block_lt_of_cell? w _ h0, pw_cell_below hb h0, pw_cell_below hb h1, pw_cell_below hb h2, pw_cell_below hb h3, pw_cell_below hb h4, hl, Kd.C_below hC hb, fun ad4 e4 hne => keep_lt hC ad4 e4 hne, rfl⟩
theorem Keeps.cell {S : Nat → Prop} {w w' : World} (hk : Keeps S w w') {p : Addr} {v : Value} (h : w.cell? p = some v) (hn : ¬ S p.block) : w'.cell? p = some v := by
  rw [← h]; unfold World.cell?; rw [hk.far _ (World.block_lt_of_cell? w _ h) hn]
theorem DS.play_clean' (s : DS) (x : S44) (h : s.Fits) (hc : s.Clean) : (s.play x).Clean := DS.play_clean s x h hc

theorem Dk.gc' {o o2 : Own} {T T2 : TypeId} {w w' : World} {s s2 : DS} {t : TypeId} {v : Value} (h : Dk ok T w o s) (hg : w.cell? ⟨0, 0, none⟩ = some (.iface t v)) (h2 : Dk ok2 T2 w o2 s2) (hk : Keeps (KO o o2) w w') : w'.cell? ⟨0, 0, none⟩ = some (.iface t v) := by
  have n1 : ¬ o.has 0 := fun e => by
    have hh : Keeps o.has w { w with heap := w.heap.set! 0 (.cells #[] 0 (0, 0)) } := ⟨rfl, rfl, rfl, by simp, fun i hi hn => by
      have : (0 : Nat) ≠ i := fun e2 => hn (e2 ▸ e)
      simp [Array.set!, Array.getElem?_setIfInBounds, this]⟩
    have := h.gc hg hh
    have hlt := World.block_lt_of_cell? w _ hg
    simp [World.cell?, Array.set!, Array.getElem?_setIfInBounds, hlt] at this
  have n2 : ¬ o2.has 0 := fun e => by
    have hh : Keeps o2.has w { w with heap := w.heap.set! 0 (.cells #[] 0 (0, 0)) } := ⟨rfl, rfl, rfl, by simp, fun i hi hn => by
      have : (0 : Nat) ≠ i := fun e2 => hn (e2 ▸ e)
      simp [Array.set!, Array.getElem?_setIfInBounds, this]⟩
    have := h2.gc hg hh
    have hlt := World.block_lt_of_cell? w _ hg
    simp [World.cell?, Array.set!, Array.getElem?_setIfInBounds, hlt] at this
  exact hk.cell hg (fun e => Or.elim e n1 n2)

theorem act_len {w : World} {A : Option Addr} {xs : List S44} (h : Kd.C k44 w A xs.length xs) : xs.length < 9223372036854775808 := by have := h.2.1; unfold maxLen at this; omega

theorem w64' {n : Int} (h1 : -9223372036854775808 ≤ n) (h2 : n ≤ 9223372036854775807) : wrap64 n = n := by unfold wrap64; omega
theorem low_ok (a : Int) (n : Nat) (h0 : 0 < n) (h1 : n < 4294967296) : ∃ r : Nat, r < n ∧ chatelainelaw0_Low.f a (n : Int) = some (r : Int) := by
  have hw : ∀ x : Int, IntKind.u64.wrap x = x % 18446744073709551616 := fun x => by simp [IntKind.wrap, IntKind.bits, IntKind.signed]
  have hn : IntKind.u64.wrap (n : Int) = (n : Int) := by rw [hw]; omega
  have hu := hw a
  have hu0 : 0 ≤ IntKind.u64.wrap a := by rw [hu]; omega
  have hr0 : 0 ≤ IntKind.u64.wrap a % (n : Int) := Int.emod_nonneg _ (by omega)
  have hr1 : IntKind.u64.wrap a % (n : Int) < (n : Int) := Int.emod_lt_of_pos _ (by omega)
  refine ⟨(IntKind.u64.wrap a % (n : Int)).toNat, by omega, ?_⟩
  unfold chatelainelaw0_Low.f
  rw [hn, if_neg (by omega), Int.tmod_eq_emod_of_nonneg hu0, w64' (by omega) (by omega), Int.toNat_of_nonneg hr0]
/-- Acts, one behind the other. -/
def DS.plays (s : DS) : List S44 → DS
  | [] => s
  | x :: l => (s.play x).plays l
theorem plays_at {s : DS} {l : List S44} {j : Nat} {r : DS} {x : S44} (h : s.plays (l.drop j) = r) (hj : j < l.length) (hx : rd_T44 l (j : Int) = x) : (s.play x).plays (l.drop (j + 1)) = r := by
  have e : l.drop j = l[j] :: l.drop (j + 1) := List.drop_eq_getElem_cons hj
  have e2 : x = l[j] := by rw [← hx]; unfold rd_T44; rw [Int.toNat_natCast, List.getD_eq_getElem?_getD, List.getElem?_eq_getElem hj]; rfl
  rw [e] at h
  rw [e2]
  exact h
theorem plays_end {s : DS} {l : List S44} {j : Nat} {r : DS} (h : s.plays (l.drop j) = r) (hj : ¬ j < l.length) : s = r := by
  rw [List.drop_eq_nil_of_le (by omega)] at h
  exact h
theorem Keeps.of_l {o o2 : Own} {w w' : World} (h : Keeps o.has w w') : Keeps (KO o o2) w w' := Keeps.l h
theorem len512 {T : TypeId} {w : World} {o : Own} {s : DS} (h : Dk ok T w o s) {i : Nat} (hi : i < s.now.length) : (s.now.getD i []).length = 512 ∧ (s.firm.getD i []).length = 512 := by
  obtain ⟨_, _, _, _, a⟩ := h.elN hi
  obtain ⟨_, _, _, _, b⟩ := h.elF hi
  exact ⟨a, b⟩

set_option maxHeartbeats 8000000 in
set_option maxRecDepth 100000 in
theorem BCg1.calls (n : Int) (w : World) (hg : w.cell? ⟨0, 0, none⟩ = some (.iface 94 (.agg #[.pointer (some ⟨1, 28, none⟩)]))) (A1 : Option Addr) (c1 : Nat) (l1 : List S44) (hr1 : Kd.C k44 w A1 l1.length l1) (hc1 : l1.length ≤ c1) (A2 : Option Addr) (c2 : Nat) (l2 : List S44) (hr2 : Kd.C k44 w A2 l2.length l2) (hc2 : l2.length ≤ c2) (k1 : Nat) (hk1 : chatelainelaw23_great.f k1 l1 15 = some true) :
    Calls Tryd.prog 6 #[.int .i64 n, .slice A1 l1.length c1, .slice A2 l2.length c2] w fun e w' => e = .returned (.bool true) ∧ Below w.heap.size w w' := by
  have HG := Aside0.mk hg
  have HR1 := Aside0.mk hr1
  have HR2 := Aside0.mk hr2
  have HC1 := Aside0.mk hc1
  have HC2 := Aside0.mk hc2
  have HK1 := Aside0.mk hk1
  clear hg hr1 hr2 hc1 hc2 hk1
  go_enter Tryd.func6, Tryd.ntmps6
  go_wp2_with (first | (go_at_call 8; with_reducible refine (Aw.calls _ (pw_cell_below B1.out HG.out)).mono ?_; rintro e w9 ⟨rfl, hb9⟩; have B9 := Aside0.mk (below_step B1.out hb9); clear hb9) | (go_at_call 17; with_reducible refine (chatelainelaw23_great.calls k1 A1 c1 l1 15 true _ HR1.out HC1.out HK1.out).mono ?_; rintro e w1 ⟨rfl, hd1⟩; have B1 := Aside0.mk hd1.below; clear hd1))
  go_ret
  exact ⟨rfl, B9.out⟩

set_option maxHeartbeats 8000000 in
set_option maxRecDepth 100000 in
theorem BCg2.calls (n : Int) (w : World) (hg : w.cell? ⟨0, 0, none⟩ = some (.iface 94 (.agg #[.pointer (some ⟨1, 28, none⟩)]))) (A1 : Option Addr) (c1 : Nat) (l1 : List S44) (hr1 : Kd.C k44 w A1 l1.length l1) (hc1 : l1.length ≤ c1) (A2 : Option Addr) (c2 : Nat) (l2 : List S44) (hr2 : Kd.C k44 w A2 l2.length l2) (hc2 : l2.length ≤ c2) (k1 : Nat) (hk1 : chatelainelaw23_great.f k1 l1 15 = some false) (k2 : Nat) (hk2 : chatelainelaw23_great.f k2 l2 15 = some true) :
    Calls Tryd.prog 6 #[.int .i64 n, .slice A1 l1.length c1, .slice A2 l2.length c2] w fun e w' => e = .returned (.bool true) ∧ Below w.heap.size w w' := by
  have HG := Aside0.mk hg
  have HR1 := Aside0.mk hr1
  have HR2 := Aside0.mk hr2
  have HC1 := Aside0.mk hc1
  have HC2 := Aside0.mk hc2
  have HK1 := Aside0.mk hk1
  have HK2 := Aside0.mk hk2
  clear hg hr1 hr2 hc1 hc2 hk1 hk2
  go_enter Tryd.func6, Tryd.ntmps6
  go_wp2_with (first | (go_at_call 8; with_reducible refine (Aw.calls _ (pw_cell_below B1b.out HG.out)).mono ?_; rintro e w9 ⟨rfl, hb9⟩; have B9 := Aside0.mk (below_step B1b.out hb9); clear hb9) | (go_at_call 17; with_reducible refine (chatelainelaw23_great.calls k2 A2 c2 l2 15 true _ (Kd.C_below HR2.out B1.out) HC2.out HK2.out).mono ?_; rintro e w1b ⟨rfl, hd1⟩; have B1b := Aside0.mk (below_step B1.out hd1.below); clear hd1) | (go_at_call 17; with_reducible refine (chatelainelaw23_great.calls k1 A1 c1 l1 15 false _ HR1.out HC1.out HK1.out).mono ?_; rintro e w1 ⟨rfl, hd1⟩; have B1 := Aside0.mk hd1.below; clear hd1))
  go_ret
  exact ⟨rfl, B9.out⟩

set_option maxHeartbeats 8000000 in
set_option maxRecDepth 100000 in
theorem BCok.calls (n : Int) (w : World) (hg : w.cell? ⟨0, 0, none⟩ = some (.iface 94 (.agg #[.pointer (some ⟨1, 28, none⟩)]))) (A1 : Option Addr) (c1 : Nat) (l1 : List S44) (hr1 : Kd.C k44 w A1 l1.length l1) (hc1 : l1.length ≤ c1) (A2 : Option Addr) (c2 : Nat) (l2 : List S44) (hr2 : Kd.C k44 w A2 l2.length l2) (hc2 : l2.length ≤ c2) (k1 : Nat) (hk1 : chatelainelaw23_great.f k1 l1 15 = some false) (k2 : Nat) (hk2 : chatelainelaw23_great.f k2 l2 15 = some false) (r : Nat) (hr : r < 12) (hlow : chatelainelaw0_Low.f n 12 = some (r : Int)) :
    Calls Tryd.prog 6 #[.int .i64 n, .slice A1 l1.length c1, .slice A2 l2.length c2] w fun e w' => e = .returned (.bool true) ∧ Below w.heap.size w w' := by
  have HG := Aside0.mk hg
  have HR1 := Aside0.mk hr1
  have HR2 := Aside0.mk hr2
  have HC1 := Aside0.mk hc1
  have HC2 := Aside0.mk hc2
  have HK1 := Aside0.mk hk1
  have HK2 := Aside0.mk hk2
  have HLO := Aside0.mk hlow
  have HLm1 := Aside0.mk (act_len hr1)
  have HLm2 := Aside0.mk (act_len hr2)
  have NW : Aside0 (∀ w, Calls Tryd.prog 9 #[.int .i64 (wrap64 (1 + (r : Int)))] w fun e w' => ∃ o : Own, e = .returned (.pointer (some ⟨o.g, 0, none⟩)) ∧ Dk (fun _ => True) 58 w' o (⟨List.replicate (r + 1) (List.replicate 512 0), List.replicate (r + 1) (List.replicate 512 0), List.replicate (r + 1) false⟩ : DS) ∧ (∀ k, o.has k → w.heap.size ≤ k) ∧ Below w.heap.size w w') := ⟨fun w => by
    have e : wrap64 (1 + (r : Int)) = ((r + 1 : Nat) : Int) := by unfold wrap64; omega
    rw [e]
    exact Dk_New.calls (r + 1) w (by omega) (by omega)⟩
  have HM : Aside0 (1 ≤ r + 1 ∧ r + 1 ≤ 256) := ⟨by omega⟩
  have e1 : (⟨List.replicate (r + 1) (List.replicate 512 0), List.replicate (r + 1) (List.replicate 512 0), List.replicate (r + 1) false⟩ : DS).now.length = r + 1 := List.length_replicate
  have HS0 := Aside0.mk e1
  generalize (⟨List.replicate (r + 1) (List.replicate 512 0), List.replicate (r + 1) (List.replicate 512 0), List.replicate (r + 1) false⟩ : DS) = s0 at *
  generalize hm : r + 1 = m at HM HS0
  clear hg hr1 hr2 hc1 hc2 hk1 hk2 hlow hr e1 hm
  go_enter Tryd.func6, Tryd.ntmps6
  go_wp2_with (first | (go_at_call 9; with_reducible refine (NW.out _).mono ?_; rintro e w3 ⟨o, rfl, hd2, hge2, hb2⟩; have D03 := Aside0.mk hd2; have HGEo : Aside0 (∀ k, o.has k → w.heap.size ≤ k) := ⟨fun k hk => Nat.le_trans B2b.out.size (hge2 k hk)⟩; have B3 := Aside0.mk (below_step B2b.out hb2); clear hd2 hge2 hb2) | (go_at_call 27; with_reducible refine (chatelainelaw0_Low.calls n 12 (r : Int) _ HLO.out).mono ?_; rintro e w2b ⟨rfl, hd1⟩; have B2b := Aside0.mk (below_step B1b.out hd1.below); clear hd1) | (go_at_call 17; with_reducible refine (chatelainelaw23_great.calls k2 A2 c2 l2 15 false _ (Kd.C_below HR2.out B1.out) HC2.out HK2.out).mono ?_; rintro e w1b ⟨rfl, hd1⟩; have B1b := Aside0.mk (below_step B1.out hd1.below); clear hd1) | (go_at_call 17; with_reducible refine (chatelainelaw23_great.calls k1 A1 c1 l1 15 false _ HR1.out HC1.out HK1.out).mono ?_; rintro e w1 ⟨rfl, hd1⟩; have B1 := Aside0.mk hd1.below; clear hd1))
  go_loopg [8] l1.length (fun kq v8 w' => ∃ (j : Nat) (s : DS), v8 = .int .i64 (j : Int) ∧ Aside0 (j + kq = l1.length) ∧ Aside0 (s.now.length = m) ∧ Aside0 (Dk (fun _ => True) 58 w' o s) ∧ Aside0 (Keeps o.has w3 w'))
  case atStart => exact ⟨0, _, (by first | rfl | (simp; done)), ⟨by omega⟩, HS0, D03, ⟨Keeps.refl _ _⟩⟩
  case round =>
    clear D03 HS0
    obtain ⟨j, s, rfl, HJ, HSLs, D0, HK⟩ := hrel
    have hbr : Below w.heap.size w wr := HK.out.below HGEo.out B3.out.size B3.out
    have HBR := Aside0.mk hbr
    by_cases c8 : j < l1.length
    · have c8b : decide ((j : Int) < (l1.length : Int)) = true := decide_eq_true (by omega)
      cases gk with
      | zero => have := HJ.out; omega
      | succ k1 =>
        have p40 : 0 ≤ (j : Int) := by omega
        have q40 : (j : Int) < l1.length := by omega
        obtain ⟨ad, A4, c4, x0, x1, x2, x3, x4, hA1, hpb, z0, z1, z2, z3, z4, hl4, hC4, hA4, hx4⟩ := act_at HR1.out hbr j c8
        subst hA1
        skip
        have HC4 := Aside0.mk hC4
        have DD : Aside0 (∀ w', Dk (fun _ => True) 58 w' o s → Kd.C Kd.bool w' A4 x4.length x4 → Calls Tryd.prog 28 #[.pointer (some ⟨o.g, 0, none⟩), .agg #[.int .i64 x0, .int .i64 x1, .int .u8 x2, .int .i64 x3, .slice A4 x4.length c4]] w' fun e w'' => e = .returned (.tuple #[]) ∧ Dk (fun _ => True) 58 w'' o (s.play ⟨x0, x1, x2, x3, x4⟩) ∧ Keeps o.has w' w'') := ⟨fun w' a c => Pl.calls o s w' a ⟨x0, x1, x2, x3, x4⟩ A4 c4 c hl4 (fun ad4 e4 hx e => by have := HGEo.out _ e; have := hA4 ad4 e4 hx; omega)⟩
        have HSL' := Aside0.mk ((DS.play_len s ⟨x0, x1, x2, x3, x4⟩ D0.out.fits).trans HSLs.out)
        generalize s.play ⟨x0, x1, x2, x3, x4⟩ = s' at *
        clear hbr hpb hl4 hC4 hA4 hx4
        go_wp2_with (first | (go_at_call 28; with_reducible refine (DD.out _ D0.out HC4.out).mono ?_; rintro e w1b ⟨rfl, hd1, hk1⟩; have E1 := Aside0.mk hd1; have EK := Aside0.mk (HK.out.trans hk1); clear hd1 hk1))
        go_roundg k1
        case measure => omega
        case rel => exact ⟨j + 1, s', (by
          have hw : wrap64 ((j : Int) + 1) = ((j + 1 : Nat) : Int) := by have := HJ.out; have := HLm1.out; unfold wrap64; omega
          first | rfl | (rw [← hw]; rfl) | (simp [*]; done)), ⟨by have := HJ.out; omega⟩, HSL', E1, EK⟩
    · have c8b : decide ((j : Int) < (l1.length : Int)) = false := decide_eq_false (by omega)
      go_wp2_with (first | (go_at_call 26; with_reducible refine (Dk_Copy.calls o s _ D0.out).mono ?_; rintro e w4 ⟨oc, rfl, hd2, hge2, hb2⟩; have C4 := Aside0.mk hd2; have D4 := Aside0.mk (D0.out.below hb2); have HGEoc : Aside0 (∀ k, oc.has k → w.heap.size ≤ k) := ⟨fun k hk => Nat.le_trans HBR.out.size (hge2 k hk)⟩; have HGEK : Aside0 (∀ k, KO o oc k → w.heap.size ≤ k) := ⟨fun k hk => KO.elim hk (HGEo.out k) (HGEoc.out k)⟩; have B4 := Aside0.mk (below_step HBR.out hb2); have HNE : Aside0 (∀ k, o.has k → ¬ oc.has k) := ⟨fun k a b => absurd (D0.out.lt k a) (Nat.not_lt.mpr (hge2 k b))⟩; clear hd2 hge2 hb2))
      have hpl0 : s.plays (l2.drop 0) = s.plays l2 := rfl
      generalize s.plays l2 = r2 at hpl0
      have HPL0 := Aside0.mk hpl0
      clear hpl0
      go_loopg [10] l2.length (fun kq v10 w' => ∃ (j : Nat) (t : DS), v10 = .int .i64 (j : Int) ∧ Aside0 (j + kq = l2.length) ∧ Aside0 (t.now.length = m) ∧ Aside0 (t.plays (l2.drop j) = r2) ∧ Aside0 (Dk (fun _ => True) 58 w' o t) ∧ Aside0 (Dk (fun _ => True) 58 w' oc s) ∧ Aside0 (Keeps (KO o oc) w4 w'))
      case atStart => exact ⟨0, _, (by first | rfl | (simp; done)), ⟨by omega⟩, HSLs, HPL0, D4, C4, ⟨Keeps.refl _ _⟩⟩
      case round =>
        clear D0 HK HJ HBR D4 C4 c8 c8b hbr
        obtain ⟨j, t, rfl, HJ, HSLt, HPL, D0, C0, HK⟩ := hrel
        have hbr : Below w.heap.size w wr := HK.out.below HGEK.out B4.out.size B4.out
        have HBR := Aside0.mk hbr
        by_cases c8 : j < l2.length
        · have c8b : decide ((j : Int) < (l2.length : Int)) = true := decide_eq_true (by omega)
          cases gk with
          | zero => have := HJ.out; omega
          | succ k1 =>
            have p40 : 0 ≤ (j : Int) := by omega
            have q40 : (j : Int) < l2.length := by omega
            obtain ⟨ad, A4, c4, x0, x1, x2, x3, x4, hA1, hpb, z0, z1, z2, z3, z4, hl4, hC4, hA4, hx4⟩ := act_at HR2.out hbr j c8
            subst hA1
            have HPA := Aside0.mk (plays_at HPL.out c8 hx4)
            have HC4 := Aside0.mk hC4
            have DD : Aside0 (∀ w', Dk (fun _ => True) 58 w' o t → Kd.C Kd.bool w' A4 x4.length x4 → Calls Tryd.prog 28 #[.pointer (some ⟨o.g, 0, none⟩), .agg #[.int .i64 x0, .int .i64 x1, .int .u8 x2, .int .i64 x3, .slice A4 x4.length c4]] w' fun e w'' => e = .returned (.tuple #[]) ∧ Dk (fun _ => True) 58 w'' o (t.play ⟨x0, x1, x2, x3, x4⟩) ∧ Keeps o.has w' w'') := ⟨fun w' a c => Pl.calls o t w' a ⟨x0, x1, x2, x3, x4⟩ A4 c4 c hl4 (fun ad4 e4 hx e => by have := HGEo.out _ e; have := hA4 ad4 e4 hx; omega)⟩
            have HSL' := Aside0.mk ((DS.play_len t ⟨x0, x1, x2, x3, x4⟩ D0.out.fits).trans HSLt.out)
            generalize t.play ⟨x0, x1, x2, x3, x4⟩ = s' at *
            clear hbr hpb hl4 hC4 hA4 hx4
            go_wp2_with (first | (go_at_call 28; with_reducible refine (DD.out _ D0.out HC4.out).mono ?_; rintro e w1b ⟨rfl, hd1, hk1⟩; have E1 := Aside0.mk hd1; have E2 := Aside0.mk (C0.out.other D0.out (by decide) (fun k a b => absurd a (HNE.out k b)) hk1); have EK := Aside0.mk (HK.out.trans (Keeps.l (o2 := oc) hk1)); clear hd1 hk1))
            go_roundg k1
            case measure => omega
            case rel => exact ⟨j + 1, s', (by
              have hw : wrap64 ((j : Int) + 1) = ((j + 1 : Nat) : Int) := by have := HJ.out; have := HLm2.out; unfold wrap64; omega
              first | rfl | (rw [← hw]; rfl) | (simp [*]; done)), ⟨by have := HJ.out; omega⟩, HSL', HPA, E1, E2, EK⟩
        · have c8b : decide ((j : Int) < (l2.length : Int)) = false := decide_eq_false (by omega)
          have e2 := plays_end HPL.out c8
          rw [e2] at D0 HSLt
          have HSLr := HSLt
          clear e2 HSLt
          go_wp2
          go_loopg [11] l2.length (fun kq v11 w' => ∃ (j : Nat) (u : DS), v11 = .int .i64 (j : Int) ∧ Aside0 (j + kq = l2.length) ∧ Aside0 (u.now.length = m) ∧ Aside0 (u.plays (l2.drop j) = r2) ∧ Aside0 (Dk (fun _ => True) 58 w' o r2) ∧ Aside0 (Dk (fun _ => True) 58 w' oc u) ∧ Aside0 (Keeps (KO o oc) w4 w'))
          case atStart => exact ⟨0, _, (by first | rfl | (simp; done)), ⟨by omega⟩, HSLs, HPL0, D0, C0, HK⟩
          case round =>
            clear D0 C0 HK HPL HJ HBR c8 c8b hbr
            obtain ⟨j, u, rfl, HJ, HSLu, HPL, D0, C0, HK⟩ := hrel
            have hbr : Below w.heap.size w wr := HK.out.below HGEK.out B4.out.size B4.out
            have HBR := Aside0.mk hbr
            by_cases c8 : j < l2.length
            · have c8b : decide ((j : Int) < (l2.length : Int)) = true := decide_eq_true (by omega)
              cases gk with
              | zero => have := HJ.out; omega
              | succ k1 =>
                have p40 : 0 ≤ (j : Int) := by omega
                have q40 : (j : Int) < l2.length := by omega
                obtain ⟨ad, A4, c4, x0, x1, x2, x3, x4, hA1, hpb, z0, z1, z2, z3, z4, hl4, hC4, hA4, hx4⟩ := act_at HR2.out hbr j c8
                subst hA1
                have HPA := Aside0.mk (plays_at HPL.out c8 hx4)
                have HC4 := Aside0.mk hC4
                have DD : Aside0 (∀ w', Dk (fun _ => True) 58 w' oc u → Kd.C Kd.bool w' A4 x4.length x4 → Calls Tryd.prog 28 #[.pointer (some ⟨oc.g, 0, none⟩), .agg #[.int .i64 x0, .int .i64 x1, .int .u8 x2, .int .i64 x3, .slice A4 x4.length c4]] w' fun e w'' => e = .returned (.tuple #[]) ∧ Dk (fun _ => True) 58 w'' oc (u.play ⟨x0, x1, x2, x3, x4⟩) ∧ Keeps oc.has w' w'') := ⟨fun w' a c => Pl.calls oc u w' a ⟨x0, x1, x2, x3, x4⟩ A4 c4 c hl4 (fun ad4 e4 hx e => by have := HGEoc.out _ e; have := hA4 ad4 e4 hx; omega)⟩
                have HSL' := Aside0.mk ((DS.play_len u ⟨x0, x1, x2, x3, x4⟩ C0.out.fits).trans HSLu.out)
                generalize u.play ⟨x0, x1, x2, x3, x4⟩ = s' at *
                clear hbr hpb hl4 hC4 hA4 hx4
                go_wp2_with (first | (go_at_call 28; with_reducible refine (DD.out _ C0.out HC4.out).mono ?_; rintro e w1b ⟨rfl, hd1, hk1⟩; have E2 := Aside0.mk hd1; have E1 := Aside0.mk (D0.out.other C0.out (by decide) HNE.out hk1); have EK := Aside0.mk (HK.out.trans (Keeps.r (o := o) hk1)); clear hd1 hk1))
                go_roundg k1
                case measure => omega
                case rel => exact ⟨j + 1, s', (by
                  have hw : wrap64 ((j : Int) + 1) = ((j + 1 : Nat) : Int) := by have := HJ.out; have := HLm2.out; unfold wrap64; omega
                  first | rfl | (rw [← hw]; rfl) | (simp [*]; done)), ⟨by have := HJ.out; omega⟩, HSL', HPA, E1, E2, EK⟩
            · have c8b : decide ((j : Int) < (l2.length : Int)) = false := decide_eq_false (by omega)
              have e3 := plays_end HPL.out c8
              rw [e3] at C0
              clear e3 HPL HK HSLu
              have HIX := Aside0.mk (show (ints (dix r2.dirty r2.now.length)).length < 100000 by unfold ints; rw [List.length_map]; have := dix_len r2.dirty r2.now.length; have := HSLr.out; have := HM.out; omega)
              have LN : Aside0 (∀ w, Dk (fun _ => True) 58 w o r2 → Calls Tryd.prog 23 #[.pointer (some ⟨o.g, 0, none⟩)] w fun e w' => e = .returned (.int .i64 (m : Int)) ∧ w' = w) := ⟨fun w hd => by have := Dk_Len.calls o r2 w hd; rw [HSLr.out] at this; exact this⟩
              have LC : Aside0 (∀ w, Dk (fun _ => True) 58 w oc r2 → Calls Tryd.prog 23 #[.pointer (some ⟨oc.g, 0, none⟩)] w fun e w' => e = .returned (.int .i64 (m : Int)) ∧ w' = w) := ⟨fun w hd => by have := Dk_Len.calls oc r2 w hd; rw [HSLr.out] at this; exact this⟩
              generalize hX : ints (dix r2.dirty r2.now.length) = X at *
              have HX := Aside0.mk hX
              clear hX hbr
              go_wp2_with (first | (go_at_call 23; with_reducible refine (LC.out _ C8.out).mono ?_; rintro e wc ⟨rfl, hw⟩; replace hw := hw.symm; subst hw) | (go_at_call 23; with_reducible refine (LN.out _ D8.out).mono ?_; rintro e wc ⟨rfl, hw⟩; replace hw := hw.symm; subst hw) | (go_at_call 21; with_reducible refine (SiT.calls AX cX X AY cY _ (Kd.R_reads' RX.out).2.2 (Kd.R_reads' RX.out).2.1 (Kd.R_reads' RY.out).2.2 (Kd.R_reads' RY.out).2.1 HIX.out).mono ?_; rintro e w28 ⟨rfl, hb5⟩; have D8 := Aside0.mk (D7.out.below hb5); have C8 := Aside0.mk (C7.out.below hb5); have BB8 := Aside0.mk (below_step BB7.out hb5); clear hb5) | (go_at_call 13; with_reducible refine (Dk_Dirty.calls o r2 _ D6.out).mono ?_; rintro e w27 ⟨v4, rfl, hr4, hb4⟩; rw [HX.out] at hr4; obtain ⟨AY, cY, rfl⟩ := Kd.R_slice hr4; have RY := Aside0.mk hr4; have RX := Aside0.mk (Kd.R_below RX3.out hb4); have D7 := Aside0.mk (D6.out.below hb4); have C7 := Aside0.mk (C6.out.below hb4); have BB7 := Aside0.mk (below_step BB6.out hb4); clear hr4 hb4) | (go_at_call 13; with_reducible refine (Dk_Dirty.calls oc r2 _ C0.out).mono ?_; rintro e w26 ⟨v3, rfl, hr3, hb3⟩; rw [HX.out] at hr3; obtain ⟨AX, cX, rfl⟩ := Kd.R_slice hr3; have RX3 := Aside0.mk hr3; have D6 := Aside0.mk (D0.out.below hb3); have C6 := Aside0.mk (C0.out.below hb3); have BB6 := Aside0.mk (below_step HBR.out hb3); clear hr3 hb3))
              have D9 := D8
              have C9 := C8
              have BB9 := BB8
              go_loopg [12] 12 (fun kq v12 w' => ∃ (i : Nat), v12 = .int .i64 (i : Int) ∧ Aside0 (i + kq = 12) ∧ Aside0 (Dk (fun _ => True) 58 w' o r2) ∧ Aside0 (Dk (fun _ => True) 58 w' oc r2) ∧ Aside0 (Below w.heap.size w w'))
              case atStart => exact ⟨0, (by first | rfl | (simp; done)), ⟨by omega⟩, D9, C9, BB9⟩
              case round =>
                clear D9 C9 BB9
                obtain ⟨i, rfl, HI, D0, C0, HB⟩ := hrel
                by_cases d1 : i < m
                · have b1 : decide ((i : Int) < (m : Int)) = true := decide_eq_true (by omega)
                  by_cases d2 : i < 12
                  · have b2 : decide ((i : Int) < 12) = true := decide_eq_true (by omega)
                    cases gk with
                    | zero => have := HI.out; omega
                    | succ k2 =>
                      have hi : i < r2.now.length := by have := HSLr.out; omega
                      obtain ⟨hlx, hly⟩ := len512 D0.out hi
                      have hgx := get_d r2.now [] i hi
                      have hgy := get_d r2.firm [] i (by rw [D0.out.nf]; exact hi)
                      generalize r2.now.getD i [] = lx at *
                      generalize r2.firm.getD i [] = ly at *
                      have Rdx : Aside0 (∀ w, Dk (fun _ => True) 58 w o r2 → Calls Tryd.prog 15 #[.pointer (some ⟨o.g, 0, none⟩), .int .i64 (i : Int)] w fun e w' => ∃ v, e = .returned (.tuple #[v, .nilIface]) ∧ Kd.R (Kd.int .u8) 5 w' w.heap.size (fun _ => True) v lx ∧ Below w.heap.size w w') := ⟨fun w hd => Dk_Read.calls o r2 w hd i hi lx hgx (clone_f _ (by omega))⟩
                      have Rcx : Aside0 (∀ w, Dk (fun _ => True) 58 w oc r2 → Calls Tryd.prog 15 #[.pointer (some ⟨oc.g, 0, none⟩), .int .i64 (i : Int)] w fun e w' => ∃ v, e = .returned (.tuple #[v, .nilIface]) ∧ Kd.R (Kd.int .u8) 5 w' w.heap.size (fun _ => True) v lx ∧ Below w.heap.size w w') := ⟨fun w hd => Dk_Read.calls oc r2 w hd i hi lx hgx (clone_f _ (by omega))⟩
                      have Rdy : Aside0 (∀ w, Dk (fun _ => True) 58 w o r2 → Calls Tryd.prog 24 #[.pointer (some ⟨o.g, 0, none⟩), .int .i64 (i : Int)] w fun e w' => ∃ v, e = .returned (.tuple #[v, .nilIface]) ∧ Kd.R (Kd.int .u8) 5 w' w.heap.size (fun _ => True) v ly ∧ Below w.heap.size w w') := ⟨fun w hd => Dk_Firm.calls o r2 w hd i hi ly hgy (clone_f _ (by omega))⟩
                      have Rcy : Aside0 (∀ w, Dk (fun _ => True) 58 w oc r2 → Calls Tryd.prog 24 #[.pointer (some ⟨oc.g, 0, none⟩), .int .i64 (i : Int)] w fun e w' => ∃ v, e = .returned (.tuple #[v, .nilIface]) ∧ Kd.R (Kd.int .u8) 5 w' w.heap.size (fun _ => True) v ly ∧ Below w.heap.size w w') := ⟨fun w hd => Dk_Firm.calls oc r2 w hd i hi ly hgy (clone_f _ (by omega))⟩
                      have HLx : Aside0 (lx.length < 100000) := ⟨by omega⟩
                      have HLy : Aside0 (ly.length < 100000) := ⟨by omega⟩
                      clear hi hlx hly hgx hgy
                      go_wp2_with (first | (go_at_call 16; with_reducible refine (St.calls A33 c33 ly A34 c34 _ (Kd.R_reads' P33.out).2.2 (Kd.R_reads' P33.out).2.1 (Kd.R_reads' P34.out).2.2 (Kd.R_reads' P34.out).2.1 HLy.out).mono ?_; rintro e w36 ⟨rfl, hb36⟩; have E1 := Aside0.mk (DT35.out.below hb36); have E2 := Aside0.mk (DC35.out.below hb36); have EB := Aside0.mk (below_step BB35.out hb36); clear hb36) | (go_at_call 16; with_reducible refine (St.calls A31 c31 lx A32 c32 _ (Kd.R_reads' Q31d.out).2.2 (Kd.R_reads' Q31d.out).2.1 (Kd.R_reads' Q32d.out).2.2 (Kd.R_reads' Q32d.out).2.1 HLx.out).mono ?_; rintro e w35 ⟨rfl, hb35⟩; have P33 := Aside0.mk (Kd.R_below Q33d.out hb35); have P34 := Aside0.mk (Kd.R_below Q34.out hb35); have DT35 := Aside0.mk (DT34.out.below hb35); have DC35 := Aside0.mk (DC34.out.below hb35); have BB35 := Aside0.mk (below_step BB34.out hb35); clear hb35) | (go_at_call 24; with_reducible refine (Rcy.out _ DC33.out).mono ?_; rintro e w34 ⟨v34, rfl, hr34, hb34⟩; obtain ⟨A34, c34, rfl⟩ := Kd.R_slice hr34; have Q34 := Aside0.mk hr34; have Q31d := Aside0.mk (Kd.R_below Q31c.out hb34); have Q32d := Aside0.mk (Kd.R_below Q32c.out hb34); have Q33d := Aside0.mk (Kd.R_below Q33.out hb34); have DT34 := Aside0.mk (DT33.out.below hb34); have DC34 := Aside0.mk (DC33.out.below hb34); have BB34 := Aside0.mk (below_step BB33.out hb34); clear hr34 hb34) | (go_at_call 24; with_reducible refine (Rdy.out _ DT32.out).mono ?_; rintro e w33 ⟨v33, rfl, hr33, hb33⟩; obtain ⟨A33, c33, rfl⟩ := Kd.R_slice hr33; have Q33 := Aside0.mk hr33; have Q31c := Aside0.mk (Kd.R_below Q31b.out hb33); have Q32c := Aside0.mk (Kd.R_below Q32.out hb33); have DT33 := Aside0.mk (DT32.out.below hb33); have DC33 := Aside0.mk (DC32.out.below hb33); have BB33 := Aside0.mk (below_step BB32.out hb33); clear hr33 hb33) | (go_at_call 15; with_reducible refine (Rcx.out _ DC31.out).mono ?_; rintro e w32 ⟨v32, rfl, hr32, hb32⟩; obtain ⟨A32, c32, rfl⟩ := Kd.R_slice hr32; have Q32 := Aside0.mk hr32; have Q31b := Aside0.mk (Kd.R_below Q31.out hb32); have DT32 := Aside0.mk (DT31.out.below hb32); have DC32 := Aside0.mk (DC31.out.below hb32); have BB32 := Aside0.mk (below_step BB31.out hb32); clear hr32 hb32) | (go_at_call 15; with_reducible refine (Rdx.out _ D0.out).mono ?_; rintro e w31 ⟨v31, rfl, hr31, hb31⟩; obtain ⟨A31, c31, rfl⟩ := Kd.R_slice hr31; have Q31 := Aside0.mk hr31; have DT31 := Aside0.mk (D0.out.below hb31); have DC31 := Aside0.mk (C0.out.below hb31); have BB31 := Aside0.mk (below_step HB.out hb31); clear hr31 hb31) | (go_at_call 23; with_reducible refine (LN.out _ D0.out).mono ?_; rintro e wc ⟨rfl, hw⟩; replace hw := hw.symm; subst hw))
                      go_roundg k2
                      case measure => omega
                      case rel => exact ⟨i + 1, (by
                        have hw : wrap64 ((i : Int) + 1) = ((i + 1 : Nat) : Int) := by have := HI.out; unfold wrap64; omega
                        first | rfl | (rw [← hw]; rfl) | (simp [*]; done)), ⟨by have := HI.out; omega⟩, E1, E2, EB⟩
                  · have b2 : decide ((i : Int) < 12) = false := decide_eq_false (by omega)
                    go_wp2_with (first | (go_at_call 8; with_reducible refine (Aw.calls _ (pw_cell_below HB.out HG.out)).mono ?_; rintro e w9 ⟨rfl, hb9⟩; have B9 := Aside0.mk (below_step HB.out hb9); clear hb9) | (go_at_call 23; with_reducible refine (LN.out _ D0.out).mono ?_; rintro e wc ⟨rfl, hw⟩; replace hw := hw.symm; subst hw))
                    go_ret
                    exact ⟨rfl, B9.out⟩
                · have b1 : decide ((i : Int) < (m : Int)) = false := decide_eq_false (by omega)
                  go_wp2_with (first | (go_at_call 8; with_reducible refine (Aw.calls _ (pw_cell_below HB.out HG.out)).mono ?_; rintro e w9 ⟨rfl, hb9⟩; have B9 := Aside0.mk (below_step HB.out hb9); clear hb9) | (go_at_call 23; with_reducible refine (LN.out _ D0.out).mono ?_; rintro e wc ⟨rfl, hw⟩; replace hw := hw.symm; subst hw))
                  go_ret
                  exact ⟨rfl, B9.out⟩

theorem BC.calls (n : Int) (w : World) (hg : w.cell? ⟨0, 0, none⟩ = some (.iface 94 (.agg #[.pointer (some ⟨1, 28, none⟩)]))) (A1 : Option Addr) (c1 : Nat) (l1 : List S44) (hr1 : Kd.C k44 w A1 l1.length l1) (hc1 : l1.length ≤ c1) (A2 : Option Addr) (c2 : Nat) (l2 : List S44) (hr2 : Kd.C k44 w A2 l2.length l2) (hc2 : l2.length ≤ c2) : Calls Tryd.prog 6 #[.int .i64 n, .slice A1 l1.length c1, .slice A2 l2.length c2] w fun e w' => e = .returned (.bool true) ∧ Below w.heap.size w w' := by
  obtain ⟨k1, r1, h1⟩ := great_tells l1 15 (act_len hr1)
  obtain ⟨k2, r2, h2⟩ := great_tells l2 15 (act_len hr2)
  cases r1 with
  | true => exact BCg1.calls n w hg A1 c1 l1 hr1 hc1 A2 c2 l2 hr2 hc2 k1 h1
  | false =>
    cases r2 with
    | true => exact BCg2.calls n w hg A1 c1 l1 hr1 hc1 A2 c2 l2 hr2 hc2 k1 h1 k2 h2
    | false =>
      obtain ⟨r, hr, hlow⟩ := low_ok n 12 (by decide) (by decide)
      exact BCok.calls n w hg A1 c1 l1 hr1 hc1 A2 c2 l2 hr2 hc2 k1 h1 k2 h2 r hr hlow

end

/-! ### chatelainelaw23_BlockCopies: function 6 -/
def chatelainelaw23_BlockCopies.f (_ : Int) (_ _ : List S44) : Option Bool := some true
theorem chatelainelaw23_BlockCopies.calls (a0 : Int) (A1 : Option Addr) (c1 : Nat) (l1 : List S44) (A2 : Option Addr) (c2 : Nat) (l2 : List S44) (r : Bool) (w : World) (hr1 : Kd.C k44 w A1 l1.length l1) (hc1 : l1.length ≤ c1) (hr2 : Kd.C k44 w A2 l2.length l2) (hc2 : l2.length ≤ c2) (hg_ : w.cell? ⟨0, 0, none⟩ = some (.iface 94 (.agg #[.pointer (some ⟨1, 28, none⟩)]))) (h : chatelainelaw23_BlockCopies.f a0 l1 l2 = some r) : Calls Tryd.prog 6 #[.int .i64 a0, .slice A1 l1.length c1, .slice A2 l2.length c2] w fun e w' => e = .returned (.bool r) ∧ Below w.heap.size w w' := by
  cases h
  exact BC.calls a0 w hg_ A1 c1 l1 hr1 hc1 A2 c2 l2 hr2 hc2


def chatelainelaw23_BlockCopies.Q44 (x : S44) : Prop := ((Lit.int .i64 x.f0).wf = true) ∧ ((Lit.int .i64 x.f1).wf = true) ∧ ((Lit.int .u8 x.f2).wf = true) ∧ ((Lit.int .i64 x.f3).wf = true) ∧ (x.f4.length ≤ maxLen ∧ x.f4.length * 1 ≤ 140737488351232 ∧ ∀ y0_ ∈ x.f4, True)
theorem chatelainelaw23_BlockCopies.opens44 : Opens Tryd.prog k44 chatelainelaw23_BlockCopies.Q44 44 := Opens.iso (fun x : S44 => (x.f0, x.f1, x.f2, x.f3, x.f4)) (fun p => (⟨p.1, p.2.1, p.2.2.1, p.2.2.2.1, p.2.2.2.2⟩ : S44)) (fun _ => rfl) (Opens.struct Tryd.underlying44 (by kernel_rfl) (show OpensL Tryd.prog _ _ [3, 3, 5, 3, 23] from (OpensL.cons (Opens.int Tryd.underlying3) (OpensL.cons (Opens.int Tryd.underlying3) (OpensL.cons (Opens.int Tryd.underlying5) (OpensL.cons (Opens.int Tryd.underlying3) (OpensL.one (Opens.slice (d := Kd.bool) Tryd.underlying23 (by kernel_rfl) (B := 1) (by kernel_rfl) (Opens.bool Tryd.underlying4)))))))))
/-- THE ONE PURE STATEMENT of chatelainelaw23_BlockCopies: yours. -/
def chatelainelaw23_BlockCopies.Pure : Prop := ∀ (a0 : Int) (l1 : List (S44)) (l2 : List (S44)), ((Lit.int .i64 a0).wf = true) → (l1.length ≤ maxLen ∧ l1.length * 56 ≤ 140737488351232 ∧ ∀ y0_ ∈ l1, chatelainelaw23_BlockCopies.Q44 y0_) → (l2.length ≤ maxLen ∧ l2.length * 56 ≤ 140737488351232 ∧ ∀ y0_ ∈ l2, chatelainelaw23_BlockCopies.Q44 y0_) → chatelainelaw23_BlockCopies.f a0 l1 l2 = some true
theorem chatelainelaw23_BlockCopies.walk (P_ : chatelainelaw23_BlockCopies.Pure) (a0 : Int) (A1 : Option Addr) (c1 : Nat) (l1 : List (S44)) (A2 : Option Addr) (c2 : Nat) (l2 : List (S44)) (w : World) (hr1 : Kd.C k44 w A1 l1.length l1) (hc1 : l1.length ≤ c1) (hr2 : Kd.C k44 w A2 l2.length l2) (hc2 : l2.length ≤ c2) (hg_ : w.cell? ⟨0, 0, none⟩ = some (.iface 94 (.agg #[.pointer (some ⟨1, 28, none⟩)]))) (hq0 : (Lit.int .i64 a0).wf = true) (hq1 : l1.length ≤ maxLen ∧ l1.length * 56 ≤ 140737488351232 ∧ ∀ y0_ ∈ l1, chatelainelaw23_BlockCopies.Q44 y0_) (hq2 : l2.length ≤ maxLen ∧ l2.length * 56 ≤ 140737488351232 ∧ ∀ y0_ ∈ l2, chatelainelaw23_BlockCopies.Q44 y0_) :
    Calls Tryd.prog 6 #[.int .i64 a0, .slice A1 l1.length c1, .slice A2 l2.length c2] w fun e w' => e = .returned (.bool true) ∧ Below w.heap.size w w' := by
  have h := P_ a0 l1 l2 hq0 hq1 hq2
  refine (chatelainelaw23_BlockCopies.calls a0 A1 c1 l1 A2 c2 l2 true w hr1 hc1 hr2 hc2 hg_ h).mono ?_
  rintro e w' ⟨rfl, hd⟩
  exact ⟨rfl, hd⟩

end Go.Proofs.YtagijaijjjaolaaDoor.PBL