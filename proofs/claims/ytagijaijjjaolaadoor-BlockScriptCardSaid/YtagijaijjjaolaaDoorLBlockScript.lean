import Derived.Test.YtagijaijjjaolaaDoorDkQ
namespace Go.Proofs.YtagijaijjjaolaaDoor.PBL
open Go.RowKit Go.Proofs.YtagijaijjjaolaaDoorW.PrintWords Go.Proofs.YtagijaijjjaolaaDoorW.PrintLast Go.Proofs.YtagijaijjjaolaaDoorW.PrintMore
attribute [local go_sem] max2_int min2_int max_two min_two max_three min_three max_four min_four   -- for this text's walks alone
set_option linter.unusedVariables false
set_option linter.unusedSimpArgs false

section
variable {ok ok2 : Nat → Prop}
theorem great_l (l : List S44) (m : Int) (hl : l.length < 9223372036854775808) : ∀ d j : Nat, l.length - j ≤ d → ∃ k r, chatelainelaw23_great.l0 k l m (j : Int) = some r
  | d, j, h => by
    by_cases c : j < l.length
    · cases d with
      | zero => omega
      | succ d =>
        obtain ⟨k, r, e⟩ := great_l l m hl d (j + 1) (by omega)
        have hw : wrap64 ((j : Int) + 1) = ((j + 1 : Nat) : Int) := by unfold wrap64; omega
        by_cases g : (l.length : Int) ≤ m
        · by_cases g2 : (((rd_T44 l (j : Int)).f4).length : Int) > 40
          · exact ⟨k + 2, true, by
              rw [chatelainelaw23_great.l0, if_pos (by omega), chatelainelaw23_great.j1, if_pos (decide_eq_true g), if_pos (by omega), if_pos (by omega)]
              exact if_pos g2⟩
          · exact ⟨k + 2, r, by
              rw [chatelainelaw23_great.l0, if_pos (by omega), chatelainelaw23_great.j1, if_pos (decide_eq_true g), if_pos (by omega), if_pos (by omega)]
              exact (if_neg g2).trans (by rw [hw]; exact e)⟩
        · exact ⟨2, _, by
            rw [chatelainelaw23_great.l0, if_pos (by omega), chatelainelaw23_great.j1, if_neg (by rw [decide_eq_false g]; exact Bool.false_ne_true)]⟩
    · exact ⟨2, _, by
        rw [chatelainelaw23_great.l0, if_neg (by omega), chatelainelaw23_great.j1, if_neg Bool.false_ne_true]⟩
theorem great_tells (l : List S44) (m : Int) (hl : l.length < 9223372036854775808) : ∃ k r, chatelainelaw23_great.f k l m = some r := great_l l m hl l.length 0 (by omega)

set_option maxHeartbeats 8000000 in
set_option maxRecDepth 100000 in
theorem BSgreat.calls (n : Int) (w : World) (hg : w.cell? ⟨0, 0, none⟩ = some (.iface 94 (.agg #[.pointer (some ⟨1, 28, none⟩)]))) (A1 : Option Addr) (c1 : Nat) (l1 : List S44) (hr1 : Kd.C k44 w A1 l1.length l1) (hc1 : l1.length ≤ c1) (k : Nat) (hk : chatelainelaw23_great.f k l1 40 = some true) :
    Calls Tryd.prog 4 #[.int .i64 n, .slice A1 l1.length c1] w fun e w' => e = .returned (.bool true) ∧ Below w.heap.size w w' := by
  have HG := Aside0.mk hg
  have HR := Aside0.mk hr1
  have HC := Aside0.mk hc1
  have HK := Aside0.mk hk
  clear hg hr1 hc1 hk
  go_enter Tryd.func4, Tryd.ntmps4
  go_wp2_with (first | (go_at_call 8; with_reducible refine (Aw.calls _ (pw_cell_below B1.out HG.out)).mono ?_; rintro e w2 ⟨rfl, hb2⟩; have B2 := Aside0.mk (below_step B1.out hb2); clear hb2) | (go_at_call 17; with_reducible refine (chatelainelaw23_great.calls k A1 c1 l1 40 true _ HR.out HC.out HK.out).mono ?_; rintro e w1 ⟨rfl, hd1⟩; have B1 := Aside0.mk hd1.below; clear hd1))
  go_ret
  exact ⟨rfl, B2.out⟩

set_option maxHeartbeats 8000000 in
set_option maxRecDepth 100000 in
theorem BSno.calls (n : Int) (w : World) (hg : w.cell? ⟨0, 0, none⟩ = some (.iface 94 (.agg #[.pointer (some ⟨1, 28, none⟩)]))) (A1 : Option Addr) (c1 : Nat) (l1 : List S44) (hr1 : Kd.C k44 w A1 l1.length l1) (hc1 : l1.length ≤ c1) (k : Nat) (hk : chatelainelaw23_great.f k l1 40 = some false) (hn : n < 1 ∨ 256 < n) :
    Calls Tryd.prog 4 #[.int .i64 n, .slice A1 l1.length c1] w fun e w' => e = .returned (.bool true) ∧ Below w.heap.size w w' := by
  have HG := Aside0.mk hg
  have HR := Aside0.mk hr1
  have HC := Aside0.mk hc1
  have HK := Aside0.mk hk
  have HN := Aside0.mk hn
  clear hg hr1 hc1 hk hn
  go_enter Tryd.func4, Tryd.ntmps4
  go_wp2_with (first | (go_at_call 8; with_reducible refine (Aw.calls _ (pw_cell_below B1.out HG.out)).mono ?_; rintro e w2 ⟨rfl, hb2⟩; have B2 := Aside0.mk (below_step B1.out hb2); clear hb2) | (go_at_call 9; with_reducible refine (Dk_NewNo.calls n _ HN.out).mono ?_; rintro e wc ⟨rfl, hw⟩; replace hw := hw.symm; subst hw) | (go_at_call 18; with_reducible refine (Rk_NewNo.calls n _ HN.out).mono ?_; rintro e wc ⟨rfl, hw⟩; replace hw := hw.symm; subst hw) | (go_at_call 17; with_reducible refine (chatelainelaw23_great.calls k A1 c1 l1 40 false _ HR.out HC.out HK.out).mono ?_; rintro e w1 ⟨rfl, hd1⟩; have B1 := Aside0.mk hd1.below; clear hd1))
  go_ret
  exact ⟨rfl, B2.out⟩

theorem keep_lt {w : World} {A : Option Addr} {xs : List Bool} (h : Kd.C Kd.bool w A xs.length xs) (ad : Addr) (e : A = some ad) (hne : xs ≠ []) : ad.block < w.heap.size := by
  obtain ⟨_, _, a3⟩ := Kd.reads_of_C (d := false) h
  have hl : 0 < xs.length := List.length_pos_iff.mpr hne
  obtain ⟨ad2, e2, hcl⟩ := a3 hl
  rw [e] at e2
  cases e2
  have := World.block_lt_of_cell? w _ (hcl 0 hl)
  have hbl : (ad.add 0).block = ad.block := by unfold Addr.add; split <;> rfl
  rw [hbl] at this
  exact this
theorem act_at {w w' : World} {A : Option Addr} {n : Nat} {xs : List S44} (hr : Kd.C k44 w A n xs) (hb : Below w.heap.size w w') (j : Nat) (hj : j < n) : ∃ ad A4 c4 x0 x1 x2 x3 x4, A = some ad ∧ (ad.add (j * 5)).block < w.heap.size ∧ w'.cell? (ad.add (j * 5)) = some (.int .i64 x0) ∧ w'.cell? ⟨(ad.add (j * 5)).block, (ad.add (j * 5)).off + 1, none⟩ = some (.int .i64 x1) ∧ w'.cell? ⟨(ad.add (j * 5)).block, (ad.add (j * 5)).off + 2, none⟩ = some (.int .u8 x2) ∧ w'.cell? ⟨(ad.add (j * 5)).block, (ad.add (j * 5)).off + 3, none⟩ = some (.int .i64 x3) ∧ w'.cell? ⟨(ad.add (j * 5)).block, (ad.add (j * 5)).off + 4, none⟩ = some (.slice A4 x4.length c4) ∧ x4.length ≤ c4 ∧ Kd.C Kd.bool w' A4 x4.length x4 ∧ (∀ ad4, A4 = some ad4 → x4 ≠ [] → ad4.block < w.heap.size) ∧ rd_T44 xs (j : Int) = ⟨x0, x1, x2, x3, x4⟩ := by
  obtain ⟨ad, A4, c4, e, h0, h1, h2, h3, h4, hl, hC⟩ := at_T44 hr (j : Int) (by omega) (by omega)
  rw [Int.toNat_natCast] at h0 h1 h2 h3 h4
  exact ⟨ad, A4, c4, _, _, _, _, _, e, World.block_lt_of_cell? w _ h0, pw_cell_below hb h0, pw_cell_below hb h1, pw_cell_below hb h2, pw_cell_below hb h3, pw_cell_below hb h4, hl, Kd.C_below hC hb, fun ad4 e4 hne => keep_lt hC ad4 e4 hne, rfl⟩
theorem Keeps.cell {S : Nat → Prop} {w w' : World} (hk : Keeps S w w') {p : Addr} {v : Value} (h : w.cell? p = some v) (hn : ¬ S p.block) : w'.cell? p = some v := by
  rw [← h]; unfold World.cell?; rw [hk.far _ (World.block_lt_of_cell? w _ h) hn]
theorem DS.play_clean' (s : DS) (x : S44) (h : s.Fits) (hc : s.Clean) : (s.play x).Clean := DS.play_clean s x h hc

theorem Dk.gc' {o o2 : Own} {T T2 : TypeId} {w w' : World} {s s2 : DS} {t : TypeId} {v : Value} (h : Dk ok T w o s) (hg : w.cell? ⟨0, 0, none⟩ = some (.iface t v)) (h2 : Dk ok2 T2 w o2 s2) (hk : Keeps (KO o o2) w w') : w'.cell? ⟨0, 0, none⟩ = some (.iface t v) := by
  have n1 : ¬ o.has 0 := fun e => by
    have hh : Keeps o.has w { w with heap := w.heap.set! 0 (.cells #[] 0 (0, 0)) } := ⟨rfl, rfl, rfl, by simp, fun i hi hn => by
      have : (0 : Nat) ≠ i := fun e2 => hn (e2 ▸ e)
      simp [Array.set!, Array.getElem?_setIfInBounds, this]⟩
    have := h.gc hg hh
    have hlt := World.block_lt_of_cell? w _ hg
    simp [World.cell?, Array.set!, Array.getElem?_setIfInBounds, hlt] at this
  have n2 : ¬ o2.has 0 := fun e => by
    have hh : Keeps o2.has w { w with heap := w.heap.set! 0 (.cells #[] 0 (0, 0)) } := ⟨rfl, rfl, rfl, by simp, fun i hi hn => by
      have : (0 : Nat) ≠ i := fun e2 => hn (e2 ▸ e)
      simp [Array.set!, Array.getElem?_setIfInBounds, this]⟩
    have := h2.gc hg hh
    have hlt := World.block_lt_of_cell? w _ hg
    simp [World.cell?, Array.set!, Array.getElem?_setIfInBounds, hlt] at this
  exact hk.cell hg (fun e => Or.elim e n1 n2)

theorem act_len {w : World} {A : Option Addr} {xs : List S44} (h : Kd.C k44 w A xs.length xs) : xs.length < 9223372036854775808 := by have := h.2.1; unfold maxLen at this; omega

set_option maxHeartbeats 8000000 in
set_option maxRecDepth 100000 in
theorem BSok.calls (m : Nat) (h1 : 1 ≤ m) (h2 : m ≤ 256) (w : World) (hg : w.cell? ⟨0, 0, none⟩ = some (.iface 94 (.agg #[.pointer (some ⟨1, 28, none⟩)]))) (A1 : Option Addr) (c1 : Nat) (l1 : List S44) (hr1 : Kd.C k44 w A1 l1.length l1) (hc1 : l1.length ≤ c1) (k : Nat) (hk : chatelainelaw23_great.f k l1 40 = some false) :
    Calls Tryd.prog 4 #[.int .i64 (m : Int), .slice A1 l1.length c1] w fun e w' => e = .returned (.bool true) ∧ Below w.heap.size w w' := by
  have HG := Aside0.mk hg
  have HR := Aside0.mk hr1
  have HC := Aside0.mk hc1
  have HK0 := Aside0.mk hk
  have HM := Aside0.mk (And.intro h1 h2)
  have HLm := Aside0.mk (show l1.length < 9223372036854775808 from act_len hr1)
  clear hg hr1 hc1 hk h1 h2
  go_enter Tryd.func4, Tryd.ntmps4
  go_wp2_with (first | (go_at_call 18; with_reducible refine (Rk_New.calls m _ HM.out.1 HM.out.2).mono ?_; rintro e w3 ⟨o2, rfl, hd3, hge3, hb3⟩; have HZ3 := Aside0.mk hd3; have D03 := Aside0.mk (D02.out.below hb3); have HGE2 : Aside0 (∀ k, KO o o2 k → w.heap.size ≤ k) := ⟨fun k hk => KO.elim hk (fun h => Nat.le_trans B1.out.size (HGE.out k h)) (fun h => Nat.le_trans B2.out.size (hge3 k h))⟩; have B3 := Aside0.mk (below_step B2.out hb3); have HNE : Aside0 (∀ k, o.has k → ¬ o2.has k) := ⟨fun k a b => absurd (D02.out.lt k a) (Nat.not_lt.mpr (hge3 k b))⟩; clear hd3 hge3 hb3) | (go_at_call 9; with_reducible refine (Dk_New.calls m _ HM.out.1 HM.out.2).mono ?_; rintro e w2 ⟨o, rfl, hd2, hge2, hb2⟩; have D02 := Aside0.mk hd2; have HGE := Aside0.mk hge2; have B2 := Aside0.mk (below_step B1.out hb2); clear hd2 hge2 hb2) | (go_at_call 17; with_reducible refine (chatelainelaw23_great.calls k A1 c1 l1 40 false _ HR.out HC.out HK0.out).mono ?_; rintro e w1 ⟨rfl, hd1⟩; have B1 := Aside0.mk hd1.below; clear hd1))
  have e0 : (⟨List.replicate m (List.replicate 512 0), List.replicate m (List.replicate 512 0), List.replicate m false⟩ : DS).Clean := fun j hj => rfl
  have e1 : (⟨List.replicate m (List.replicate 512 0), List.replicate m (List.replicate 512 0), List.replicate m false⟩ : DS).now.length = m := List.length_replicate
  have HE0 := Aside0.mk e0
  have HE1 := Aside0.mk e1
  generalize (⟨List.replicate m (List.replicate 512 0), List.replicate m (List.replicate 512 0), List.replicate m false⟩ : DS) = s0 at *
  clear e0 e1
  go_loopg [7] l1.length (fun kq v7 w' => ∃ (j : Nat) (s : DS), v7 = .int .i64 (j : Int) ∧ Aside0 (j + kq = l1.length) ∧ Aside0 (Dk (fun _ => True) 58 w' o s) ∧ Aside0 (Dk (fun _ => True) 64 w' o2 s) ∧ Aside0 s.Clean ∧ Aside0 (s.now.length = m) ∧ Aside0 (Keeps (KO o o2) w3 w'))
  case atStart => exact ⟨0, s0, (by first | rfl | (simp; done)), ⟨by omega⟩, D03, HZ3, HE0, HE1, ⟨Keeps.refl _ _⟩⟩
  case round =>
    clear D03 HZ3 HE0 HE1 D02 HGE
    obtain ⟨j, s, rfl, HJ, D0, H0, HCL, HSL, HK⟩ := hrel
    have hbr : Below w.heap.size w wr := HK.out.below HGE2.out B3.out.size B3.out
    have HBR := Aside0.mk hbr
    by_cases c8 : j < l1.length
    · have c8b : decide ((j : Int) < (l1.length : Int)) = true := decide_eq_true (by omega)
      cases gk with
      | zero => have := HJ.out; omega
      | succ k1 =>
        have p40 : 0 ≤ (j : Int) := by omega
        have q40 : (j : Int) < l1.length := by omega
        obtain ⟨ad, A4, c4, x0, x1, x2, x3, x4, hA1, hpb, z0, z1, z2, z3, z4, hl4, hC4, hA4, _⟩ := act_at HR.out hbr j c8
        subst hA1
        have hS := And.intro z0 (And.intro z1 (And.intro z2 (And.intro z3 z4)))
        have HPB : Aside0 (¬ KO o o2 (ad.add (j * 5)).block) := ⟨fun e => by have := HGE2.out _ e; omega⟩
        have HC4 := Aside0.mk hC4
        have DD : Aside0 (∀ w', Dk (fun _ => True) 58 w' o s → Dk (fun _ => True) 64 w' o2 s → Kd.C Kd.bool w' A4 x4.length x4 → w'.cell? ⟨0, 0, none⟩ = some (.iface 94 (.agg #[.pointer (some ⟨1, 28, none⟩)])) → Calls Tryd.prog 19 #[.pointer (some ⟨o.g, 0, none⟩), .pointer (some ⟨o2.g, 0, none⟩), .agg #[.int .i64 x0, .int .i64 x1, .int .u8 x2, .int .i64 x3, .slice A4 x4.length c4]] w' fun e w'' => e = .returned (.bool true) ∧ Dk (fun _ => True) 58 w'' o (s.play ⟨x0, x1, x2, x3, x4⟩) ∧ Dk (fun _ => True) 64 w'' o2 (s.play ⟨x0, x1, x2, x3, x4⟩) ∧ Keeps (KO o o2) w' w'') := ⟨fun w' a b c d => Dn.calls o o2 s w' a b HCL.out HNE.out d x0 x1 x2 x3 x4 A4 c4 c hl4 (fun ad4 e4 hx => ⟨fun e => by have := HGE2.out _ (.inl e); have := hA4 ad4 e4 hx; omega, fun e => by have := HGE2.out _ (.inr e); have := hA4 ad4 e4 hx; omega⟩)⟩
        have HCL' := Aside0.mk (DS.play_clean s ⟨x0, x1, x2, x3, x4⟩ D0.out.fits HCL.out)
        have HSL' := Aside0.mk ((DS.play_len s ⟨x0, x1, x2, x3, x4⟩ D0.out.fits).trans HSL.out)
        generalize s.play ⟨x0, x1, x2, x3, x4⟩ = s' at *
        have HIX := Aside0.mk (show (ints (dix s'.dirty s'.now.length)).length < 100000 by unfold ints; rw [List.length_map]; have := dix_len s'.dirty s'.now.length; have := HSL'.out; have := HM.out; omega)
        generalize hX : ints (dix s'.dirty s'.now.length) = X at *
        have HX := Aside0.mk hX
        have GR := Aside0.mk (pw_cell_below hbr HG.out)
        clear hbr hpb hl4 hC4 hA4 hX
        have LN : Aside0 (∀ w, Dk (fun _ => True) 58 w o s' → Calls Tryd.prog 23 #[.pointer (some ⟨o.g, 0, none⟩)] w fun e w' => e = .returned (.int .i64 (m : Int)) ∧ w' = w) := ⟨fun w hd => by have := Dk_Len.calls o s' w hd; rw [HSL'.out] at this; exact this⟩
        go_wp2_with (first | (go_at_call 23; with_reducible refine (LN.out _ D5.out).mono ?_; rintro e wc ⟨rfl, hw⟩; replace hw := hw.symm; subst hw) | (go_at_call 21; with_reducible refine (SiT.calls AX cX X AY cY _ (Kd.R_reads' RX.out).2.2 (Kd.R_reads' RX.out).2.1 (Kd.R_reads' RY.out).2.2 (Kd.R_reads' RY.out).2.1 HIX.out).mono ?_; rintro e w5 ⟨rfl, hb5⟩; have D5 := Aside0.mk (D4.out.below hb5); have H5 := Aside0.mk (H4.out.below hb5); have K5 := Aside0.mk (K4.out.trans (Keeps.of_below hb5)); clear hb5) | (go_at_call 22; with_reducible refine (Rk_List.calls o2 s' _ H3.out).mono ?_; rintro e w4 ⟨v4, rfl, hr4, hb4⟩; rw [HX.out] at hr4; obtain ⟨AY, cY, rfl⟩ := Kd.R_slice hr4; have RY := Aside0.mk hr4; have RX := Aside0.mk (Kd.R_below RX3.out hb4); have D4 := Aside0.mk (D3.out.below hb4); have H4 := Aside0.mk (H3.out.below hb4); have K4 := Aside0.mk (K3.out.trans (Keeps.of_below hb4)); clear hr4 hb4) | (go_at_call 13; with_reducible refine (Dk_Dirty.calls o s' _ D2.out).mono ?_; rintro e w3b ⟨v3, rfl, hr3, hb3⟩; rw [HX.out] at hr3; obtain ⟨AX, cX, rfl⟩ := Kd.R_slice hr3; have RX3 := Aside0.mk hr3; have D3 := Aside0.mk (D2.out.below hb3); have H3 := Aside0.mk (H2.out.below hb3); have K3 := Aside0.mk (K2.out.trans (Keeps.of_below hb3)); clear hr3 hb3) | (go_at_call 20; with_reducible refine (Sa.calls o o2 s' _ D1.out H1.out G1.out x1).mono ?_; rintro e w2b ⟨rfl, hb2⟩; have D2 := Aside0.mk (D1.out.below hb2); have H2 := Aside0.mk (H1.out.below hb2); have K2 := Aside0.mk (K1.out.trans (Keeps.of_below hb2)); clear hb2) | (go_at_call 19; with_reducible refine (DD.out _ D0.out H0.out HC4.out GR.out).mono ?_; rintro e w1b ⟨rfl, hd1, h21, hk1⟩; have S1 : Aside0 (w1b.cell? (ad.add (j * 5)) = some (.int .i64 x0) ∧ w1b.cell? ⟨(ad.add (j * 5)).block, (ad.add (j * 5)).off + 1, none⟩ = some (.int .i64 x1) ∧ w1b.cell? ⟨(ad.add (j * 5)).block, (ad.add (j * 5)).off + 2, none⟩ = some (.int .u8 x2) ∧ w1b.cell? ⟨(ad.add (j * 5)).block, (ad.add (j * 5)).off + 3, none⟩ = some (.int .i64 x3) ∧ w1b.cell? ⟨(ad.add (j * 5)).block, (ad.add (j * 5)).off + 4, none⟩ = some (.slice A4 x4.length c4)) := ⟨Keeps.cell hk1 hS.1 HPB.out, Keeps.cell hk1 hS.2.1 HPB.out, Keeps.cell hk1 hS.2.2.1 HPB.out, Keeps.cell hk1 hS.2.2.2.1 HPB.out, Keeps.cell hk1 hS.2.2.2.2 HPB.out⟩; obtain ⟨s10, s11, s12, s13, s14⟩ := S1.out; have G1 := Aside0.mk (D0.out.gc' GR.out H0.out hk1); have D1 := Aside0.mk hd1; have H1 := Aside0.mk h21; have K1 := Aside0.mk hk1; clear hd1 h21 hk1))
        go_roundg k1
        case measure => omega
        case rel => exact ⟨j + 1, s', (by
          have hw : wrap64 ((j : Int) + 1) = ((j + 1 : Nat) : Int) := by have := HJ.out; have := HLm.out; unfold wrap64; omega
          first | rfl | (rw [← hw]; rfl) | (simp [*]; done)), ⟨by have := HJ.out; omega⟩, D5, H5, HCL', HSL', ⟨HK.out.trans K5.out⟩⟩
    · have c8b : decide ((j : Int) < (l1.length : Int)) = false := decide_eq_false (by omega)
      go_wp2
      go_loopg [8] 20 (fun kq v8 w' => ∃ (i : Nat), v8 = .int .i64 (i : Int) ∧ Aside0 (i + kq = 20) ∧ Aside0 (Dk (fun _ => True) 58 w' o s) ∧ Aside0 (Dk (fun _ => True) 64 w' o2 s) ∧ Aside0 (Below w.heap.size w w'))
      case atStart => exact ⟨0, (by first | rfl | (simp; done)), ⟨by omega⟩, D0, H0, HBR⟩
      case round =>
        clear D0 H0 HBR HK HJ hbr c8 c8b
        obtain ⟨i, rfl, HI, D0, H0, HB⟩ := hrel
        by_cases d1 : i < m
        · have b1 : decide ((i : Int) < (m : Int)) = true := decide_eq_true (by omega)
          by_cases d2 : i < 20
          · have b2 : decide ((i : Int) < 20) = true := decide_eq_true (by omega)
            cases gk with
            | zero => have := HI.out; omega
            | succ k2 =>
              go_wp2_with (first | (go_at_call 20; with_reducible refine (Sa.calls o o2 s _ D0.out H0.out (pw_cell_below HB.out HG.out) (i : Int)).mono ?_; rintro e w2b ⟨rfl, hb2⟩; have D2 := Aside0.mk (D0.out.below hb2); have H2 := Aside0.mk (H0.out.below hb2); have B2b := Aside0.mk (below_step HB.out hb2); clear hb2))
              go_roundg k2
              case measure => omega
              case rel => exact ⟨i + 1, (by
                have hw : wrap64 ((i : Int) + 1) = ((i + 1 : Nat) : Int) := by have := HI.out; unfold wrap64; omega
                first | rfl | (rw [← hw]; rfl) | (simp [*]; done)), ⟨by have := HI.out; omega⟩, D2, H2, B2b⟩
          · have b2 : decide ((i : Int) < 20) = false := decide_eq_false (by omega)
            go_wp2_with (first | (go_at_call 8; with_reducible refine (Aw.calls _ (pw_cell_below HB.out HG.out)).mono ?_; rintro e w9 ⟨rfl, hb9⟩; have B9 := Aside0.mk (below_step HB.out hb9); clear hb9))
            go_ret
            exact ⟨rfl, B9.out⟩
        · have b1 : decide ((i : Int) < (m : Int)) = false := decide_eq_false (by omega)
          go_wp2_with (first | (go_at_call 8; with_reducible refine (Aw.calls _ (pw_cell_below HB.out HG.out)).mono ?_; rintro e w9 ⟨rfl, hb9⟩; have B9 := Aside0.mk (below_step HB.out hb9); clear hb9))
          go_ret
          exact ⟨rfl, B9.out⟩

theorem BS.calls (n : Int) (w : World) (hg : w.cell? ⟨0, 0, none⟩ = some (.iface 94 (.agg #[.pointer (some ⟨1, 28, none⟩)]))) (A1 : Option Addr) (c1 : Nat) (l1 : List S44) (hr1 : Kd.C k44 w A1 l1.length l1) (hc1 : l1.length ≤ c1) : Calls Tryd.prog 4 #[.int .i64 n, .slice A1 l1.length c1] w fun e w' => e = .returned (.bool true) ∧ Below w.heap.size w w' := by
  obtain ⟨k1, r1, h1⟩ := great_tells l1 40 (act_len hr1)
  cases r1 with
  | true => exact BSgreat.calls n w hg A1 c1 l1 hr1 hc1 k1 h1
  | false =>
    by_cases hn : n < 1 ∨ 256 < n
    · exact BSno.calls n w hg A1 c1 l1 hr1 hc1 k1 h1 hn
    · obtain ⟨m, rfl⟩ := Int.eq_ofNat_of_zero_le (show 0 ≤ n by omega)
      exact BSok.calls m (by omega) (by omega) w hg A1 c1 l1 hr1 hc1 k1 h1

end

/-! ### chatelainelaw23_BlockScript: function 4 -/
def chatelainelaw23_BlockScript.f (_ : Int) (_ : List S44) : Option Bool := some true
theorem chatelainelaw23_BlockScript.calls (a0 : Int) (A1 : Option Addr) (c1 : Nat) (l1 : List S44) (r : Bool) (w : World) (hr1 : Kd.C k44 w A1 l1.length l1) (hc1 : l1.length ≤ c1) (hg_ : w.cell? ⟨0, 0, none⟩ = some (.iface 94 (.agg #[.pointer (some ⟨1, 28, none⟩)]))) (h : chatelainelaw23_BlockScript.f a0 l1 = some r) : Calls Tryd.prog 4 #[.int .i64 a0, .slice A1 l1.length c1] w fun e w' => e = .returned (.bool r) ∧ Below w.heap.size w w' := by
  cases h
  exact BS.calls a0 w hg_ A1 c1 l1 hr1 hc1


def chatelainelaw23_BlockScript.Q44 (x : S44) : Prop := ((Lit.int .i64 x.f0).wf = true) ∧ ((Lit.int .i64 x.f1).wf = true) ∧ ((Lit.int .u8 x.f2).wf = true) ∧ ((Lit.int .i64 x.f3).wf = true) ∧ (x.f4.length ≤ maxLen ∧ x.f4.length * 1 ≤ 140737488351232 ∧ ∀ y0_ ∈ x.f4, True)
theorem chatelainelaw23_BlockScript.opens44 : Opens Tryd.prog k44 chatelainelaw23_BlockScript.Q44 44 := Opens.iso (fun x : S44 => (x.f0, x.f1, x.f2, x.f3, x.f4)) (fun p => (⟨p.1, p.2.1, p.2.2.1, p.2.2.2.1, p.2.2.2.2⟩ : S44)) (fun _ => rfl) (Opens.struct Tryd.underlying44 (by kernel_rfl) (show OpensL Tryd.prog _ _ [3, 3, 5, 3, 23] from (OpensL.cons (Opens.int Tryd.underlying3) (OpensL.cons (Opens.int Tryd.underlying3) (OpensL.cons (Opens.int Tryd.underlying5) (OpensL.cons (Opens.int Tryd.underlying3) (OpensL.one (Opens.slice (d := Kd.bool) Tryd.underlying23 (by kernel_rfl) (B := 1) (by kernel_rfl) (Opens.bool Tryd.underlying4)))))))))
/-- THE ONE PURE STATEMENT of chatelainelaw23_BlockScript: yours. -/
def chatelainelaw23_BlockScript.Pure : Prop := ∀ (a0 : Int) (l1 : List (S44)), ((Lit.int .i64 a0).wf = true) → (l1.length ≤ maxLen ∧ l1.length * 56 ≤ 140737488351232 ∧ ∀ y0_ ∈ l1, chatelainelaw23_BlockScript.Q44 y0_) → chatelainelaw23_BlockScript.f a0 l1 = some true
theorem chatelainelaw23_BlockScript.walk (P_ : chatelainelaw23_BlockScript.Pure) (a0 : Int) (A1 : Option Addr) (c1 : Nat) (l1 : List (S44)) (w : World) (hr1 : Kd.C k44 w A1 l1.length l1) (hc1 : l1.length ≤ c1) (hg_ : w.cell? ⟨0, 0, none⟩ = some (.iface 94 (.agg #[.pointer (some ⟨1, 28, none⟩)]))) (hq0 : (Lit.int .i64 a0).wf = true) (hq1 : l1.length ≤ maxLen ∧ l1.length * 56 ≤ 140737488351232 ∧ ∀ y0_ ∈ l1, chatelainelaw23_BlockScript.Q44 y0_) :
    Calls Tryd.prog 4 #[.int .i64 a0, .slice A1 l1.length c1] w fun e w' => e = .returned (.bool true) ∧ Below w.heap.size w w' := by
  have h := P_ a0 l1 hq0 hq1
  refine (chatelainelaw23_BlockScript.calls a0 A1 c1 l1 true w hr1 hc1 hg_ h).mono ?_
  rintro e w' ⟨rfl, hd⟩
  exact ⟨rfl, hd⟩

end Go.Proofs.YtagijaijjjaolaaDoor.PBL