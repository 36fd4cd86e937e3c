import Derived.Test.YtkiofhmpeokipaaDoorTkC
namespace Go.Proofs.YtkiofhmpeokipaaDoor.PTA
open Go.RowKit Go.Proofs.YtkiofhmpeokipaaDoorW.PrintWords Go.Proofs.YtkiofhmpeokipaaDoorW.PrintLast Go.Proofs.YtkiofhmpeokipaaDoorW.PrintMore
attribute [local go_sem] max2_int min2_int max_two min_two max_three min_three max_four min_four
set_option linter.unusedVariables false
set_option linter.unusedSimpArgs false
section
variable {ok ok2 : Nat → Prop}
/-- How many parts so many bytes have. -/
def prts (n : Nat) : Nat := max ((n + 487) / 488) 1
theorem parts_f (n : Nat) (h : n ≤ 1048576) : tail_Parts.f (n : Int) = some (prts n : Int) := by
  unfold tail_Parts.f prts
  have e1 : wrap64 (wrap64 ((n : Int) + 488) - 1) = ((n + 487 : Nat) : Int) := by rw [w64' (n := (n : Int) + 488) (by omega) (by omega), w64' (by omega) (by omega)]; omega
  have e2 : Int.tdiv ((n + 487 : Nat) : Int) 488 = (((n + 487) / 488 : Nat) : Int) := by rw [Int.tdiv_eq_ediv_of_nonneg (by omega)]; omega
  rw [if_neg (by omega), if_neg (by omega), e1, e2, w64' (by omega) (by omega)]
  congr 1
  unfold mx
  omega
theorem prts_pos (n : Nat) : 1 ≤ prts n := by unfold prts; omega
theorem prts_le (n : Nat) (h : n ≤ 3000) : prts n ≤ 7 := by unfold prts; omega
/-- One part of a frame. -/
def partL (l : List Int) (j : Nat) : List Int := (l.take (min l.length (488 * (j + 1)))).drop (488 * j)
theorem partL_len (l : List Int) (j : Nat) : (partL l j).length = min l.length (488 * (j + 1)) - 488 * j := by unfold partL; rw [List.length_drop, List.length_take]; omega
theorem partL_le (l : List Int) (j : Nat) : (partL l j).length ≤ 488 := by rw [partL_len]; omega
theorem partL_B {l : List Int} (h : IsB l) (j : Nat) : IsB (partL l j) := (h.take _).drop _
theorem blkL_B {g n i m : Int} {p : List Int} (h : IsB p) : IsB (blkL g n i m p) := by
  unfold blkL
  refine IsB.append (IsB.append (IsB.append (IsB.append (IsB.append (IsB.append (IsB.append (beN_B _ _) (beN_B _ _)) (beN_B _ _)) (beN_B _ _)) (beN_B _ _)) (beN_B _ _)) h) ?_
  intro x hx
  rw [List.eq_of_mem_replicate hx]
  decide
/-- The disk when so many blocks of a frame are written. -/
def DS.lay (s : DS) (a : Nat) (g k : Int) (m : Nat) (l : List Int) : Nat → DS
  | 0 => s
  | j + 1 => ((s.lay a g k m l j).write ((a + j : Nat) : Int) (blkL g k (j : Int) (m : Int) (partL l j))).1
theorem DS.lay_len (s : DS) (a : Nat) (g k : Int) (m : Nat) (l : List Int) : ∀ j, (s.lay a g k m l j).now.length = s.now.length
  | 0 => rfl
  | j + 1 => by rw [DS.lay, DS.write_len]; exact s.lay_len a g k m l j
theorem DS.write_AllB {s : DS} (h : s.AllB) (i : Int) {l : List Int} (hl : IsB l) : (s.write i l).1.AllB := by
  unfold DS.write
  split
  · exact h
  · split
    · exact h
    · rename_i h2
      intro x hx
      rcases List.mem_or_eq_of_mem_set hx with hx | rfl
      · exact h x hx
      · exact ⟨hl, by omega⟩
theorem DS.lay_AllB {s : DS} (h : s.AllB) (a : Nat) (g k : Int) (m : Nat) {l : List Int} (hl : IsB l) : ∀ j, (s.lay a g k m l j).AllB
  | 0 => h
  | j + 1 => by rw [DS.lay]; exact DS.write_AllB (DS.lay_AllB h a g k m hl j) _ (blkL_B (partL_B hl j))
theorem Keeps.cellS {S : Nat → Prop} {w w' : World} (hk : Keeps S w w') {p : Addr} {v : Value} (h : w.cell? p = some v) (hn : ¬ S p.block) : w'.cell? p = some v := by
  rw [← h]; unfold World.cell?; rw [hk.far _ (World.block_lt_of_cell? w _ h) hn]
/-- A row that lies elsewhere stays. -/
theorem Keeps.row {S : Nat → Prop} {w w' : World} (hk : Keeps S w w') {A : Option Addr} {l : List Int} (hC : Kd.C (Kd.int .u8) w A l.length l) (hA : ∀ ad, A = some ad → l ≠ [] → ¬ S ad.block) : Kd.C (Kd.int .u8) w' A l.length l := by
  obtain ⟨h1, h2, h3⟩ := Kd.reads_of_C (d := (0 : Int)) hC
  refine Kd.C_of_reads (d := (0 : Int)) ⟨h1, h2, fun hn => ?_⟩
  obtain ⟨ad, e, hc⟩ := h3 hn
  refine ⟨ad, e, fun j hj => ?_⟩
  refine hk.cellS (hc j hj) ?_
  have hbl : (ad.add j).block = ad.block := by unfold Addr.add; split <;> rfl
  rw [hbl]
  exact hA ad e (List.length_pos_iff.mp hn)
/-- One part, cut out. -/
theorem cutP (A : Option Addr) (c : Nat) (l : List Int) (j : Nat) (hi : Int) (hc : l.length ≤ c) (h0 : 488 * j ≤ l.length) (hh : hi = ((min l.length (488 * (j + 1)) : Nat) : Int)) :
    ∃ A' c', (∀ W : World, (Instr.slice 22 (.slice A l.length c) (some (.int .i64 ((j : Int) * 488))) (some (.int .i64 hi)) none).run Tryd.prog W = .ok (.slice A' (partL l j).length c') W) ∧ (∀ w, Kd.C (Kd.int .u8) w A l.length l → Kd.C (Kd.int .u8) w A' (partL l j).length (partL l j)) ∧ (partL l j).length ≤ c' := by
  subst hh
  obtain ⟨i0, hi0, _, hsz, _⟩ := info_parts info5
  obtain ⟨A', h1, h2, h3⟩ := print_mid_of (P := Tryd.prog) (Value.int .u8) 0 22 5 .i64 .i64 Tryd.underlying22 hi0 hsz A c l ((j : Int) * 488) ((min l.length (488 * (j + 1)) : Nat) : Int) (by omega) (by omega) (by omega) hc
  have e : (l.take ((min l.length (488 * (j + 1)) : Nat) : Int).toNat).drop ((j : Int) * 488).toNat = partL l j := by
    unfold partL
    rw [Int.toNat_natCast, show ((j : Int) * 488).toNat = 488 * j by omega]
  rw [e] at h1 h2 h3
  exact ⟨A', _, h1, fun w hw => Kd.C_of_reads (h1 := fun _ => rfl) (h2 w (Kd.reads_of_C hw)), h3⟩
set_option maxHeartbeats 8000000 in
set_option maxRecDepth 100000 in
theorem Tw_Ok.calls (o : Own) (s : DS) (w : World) (h : Dk (fun _ => True) 49 w o s) (a b : Nat) (g k : Int) (A : Option Addr) (c : Nat) (l : List Int) (hC : Kd.C (Kd.int .u8) w A l.length l) (hc : l.length ≤ c) (hl : l.length ≤ 3000) (hA : ∀ ad, A = some ad → l ≠ [] → ¬ o.has ad.block) (h1 : a + prts l.length ≤ b) (h2 : b ≤ s.now.length) (hg : 1 ≤ g) (hk : 1 ≤ k) :
    Calls Tryd.prog 8 #[.pointer (some ⟨o.g, 0, none⟩), .int .i64 (a : Int), .int .i64 (b : Int), .int .i64 g, .int .i64 k, .slice A l.length c] w fun e w' => e = .returned (.tuple #[.int .i64 ((a + prts l.length : Nat) : Int), .nilIface]) ∧ Dk (fun _ => True) 49 w' o (s.lay a g k (prts l.length) l (prts l.length)) ∧ Keeps o.has w w' := by
  have hn1 := h.n1
  have hp := prts_pos l.length
  have hq := prts_le l.length hl
  have HPF := Aside0.mk (parts_f l.length (by omega))
  have hOK := Aside0.mk (Tp_Ok.calls o s w h (a : Int) (b : Int) (by omega) (by omega) (by omega))
  generalize hm : prts l.length = m at *
  have hs2 : s.now.length ≤ 256 := hn1
  have d1 : decide (g < 1) = false := decide_eq_false (by omega)
  have d2 : decide (k < 1) = false := decide_eq_false (by omega)
  have d3 : ((m : Int) == 0) = false := by rw [beq_eq_false_iff_ne]; omega
  have d4 : decide ((b : Int) - (a : Int) < (m : Int)) = false := decide_eq_false (by omega)
  have d5 : b ≤ 256 := by omega
  have d6 : a ≤ 256 := by omega
  have HM : Aside0 (m = prts l.length) := ⟨hm.symm⟩
  have HC := Aside0.mk hC
  have Hc := Aside0.mk hc
  have HD := Aside0.mk h
  have HA := Aside0.mk hA
  have H12 := Aside0.mk (And.intro h1 h2)
  clear h hC hc hA h1 h2 hn1 hs2 hm
  go_enter Tryd.func8, Tryd.ntmps8
  go_wp2_with (first | (go_at_call 14; with_reducible refine (tail_Parts.calls _ _ _ HPF.out).mono ?_; rintro e w1 ⟨rfl, hb1⟩; have B1 := Aside0.mk hb1; clear hb1) | (go_at_call 21; with_reducible refine hOK.out.mono ?_; rintro e wc ⟨rfl, hw⟩; replace hw := hw.symm; subst hw))
  go_loopg [47] m (fun kq v47 w' => ∃ (j : Nat), v47 = .int .i64 (j : Int) ∧ Aside0 (j + kq = m) ∧ Aside0 (Dk (fun _ => True) 49 w' o (s.lay a g k m l j)) ∧ Aside0 (Keeps o.has w w'))
  case atStart => exact ⟨0, (by first | rfl | (simp; done)), ⟨by omega⟩, ⟨HD.out.below B1.out⟩, ⟨Keeps.of_below B1.out⟩⟩
  case round =>
    obtain ⟨j, rfl, HJ, D0, K0⟩ := hrel
    by_cases cj : j < m
    · have c1 : decide ((j : Int) < (m : Int)) = true := decide_eq_true (by omega)
      have c1' : decide (j < m) = true := decide_eq_true (by omega)
      cases gk with
      | zero => have := HJ.out; omega
      | succ k1 =>
        have HL0 : Aside0 ((s.lay a g k m l j).now.length = s.now.length) := ⟨s.lay_len a g k m l j⟩
        have h488 : 488 * j ≤ l.length := by have := HM.out; unfold prts at this; omega
        have HROW := Aside0.mk (K0.out.row HC.out HA.out)
        obtain ⟨hi, hhi⟩ : ∃ hi : Int, hi = ((min l.length (488 * (j + 1)) : Nat) : Int) := ⟨_, rfl⟩
        obtain ⟨A', c', hcut, hrow, hlen⟩ := cutP A c l j hi Hc.out h488 hhi
        have HP := Aside0.mk (partL_le l j)
        have HLAY : Aside0 (tail_head_lay.f 100 g k (j : Int) (m : Int) ((partL l j).length : Int) (partL l j) = some (blkL g k (j : Int) (m : Int) (partL l j))) := ⟨lay_f g k j m _ (partL l j) rfl HP.out⟩
        have HR' := Aside0.mk (hrow wr HROW.out)
        have HL' := Aside0.mk hlen
        have HBL := Aside0.mk (blkL_len g k (j : Int) (m : Int) (partL l j) HP.out)
        have HWR : Aside0 ((s.lay a g k m l (j + 1)) = ⟨(s.lay a g k m l j).now.set (a + j) (blkL g k (j : Int) (m : Int) (partL l j)), (s.lay a g k m l j).firm, (s.lay a g k m l j).dirty.set (a + j) true⟩) := ⟨by
          rw [DS.lay, DS.write, if_neg (by have := HL0.out; have := H12.out; omega), if_neg (by rw [HBL.out]; omega), Int.toNat_natCast]⟩
        have HAJ : Aside0 (a + j < (s.lay a g k m l j).now.length) := ⟨by have := HL0.out; have := H12.out; omega⟩
        generalize hs2 : s.lay a g k m l (j + 1) = s2 at *
        have HS2 := Aside0.mk hs2
        clear hs2
        generalize s.lay a g k m l j = s1 at *
        generalize hP : partL l j = P at *
        generalize hB : blkL g k (j : Int) (m : Int) P = BL at *
        clear hP hB hrow hlen
        have WRT : Aside0 (∀ w' A2 c2, Dk (fun _ => True) 49 w' o s1 → Kd.C (Kd.int .u8) w' A2 BL.length BL → BL.length ≤ c2 → Calls Tryd.prog 23 #[.pointer (some ⟨o.g, 0, none⟩), .int .i64 ((a : Int) + (j : Int)), .slice A2 BL.length c2] w' fun e w'' => e = .returned .nilIface ∧ Dk (fun _ => True) 49 w'' o s2 ∧ Keeps o.has w' w'') := ⟨fun w' A2 c2 h1 h2 h3 => by
          have := Dk_WriteOk.calls o s1 w' h1 A2 c2 BL h2 h3 HBL.out (clone_f BL (by rw [HBL.out]; omega)) (a + j) HAJ.out (fun _ _ => trivial)
          rw [HWR.out]
          rw [show ((a + j : Nat) : Int) = (a : Int) + (j : Int) by omega] at this
          exact this⟩
        have HHI := Aside0.mk hhi
        clear hhi h488
        by_cases cl : (l.length : Int) ≤ ((j : Int) + 1) * 488
        case' pos => obtain rfl : hi = (l.length : Int) := by have := HHI.out; omega
        case' neg => obtain rfl : hi = ((j : Int) + 1) * 488 := by have := HHI.out; omega
        all_goals
          go_wp2_with (first | (go_at_call 23; with_reducible refine (WRT.out _ _ _ D1.out (Kd.R_reads' R1.out).2.2 (Kd.R_reads' R1.out).2.1).mono ?_; rintro e w2 ⟨rfl, hd2, hk2⟩; have D2 := Aside0.mk hd2; have K2 := Aside0.mk (K1.out.trans hk2); clear hd2 hk2) | (go_at_call 24; with_reducible refine (tail_head_lay.calls 100 g k (j : Int) (m : Int) (P.length : Int) A' c' P BL _ HR'.out HL'.out HLAY.out).mono ?_; rintro e w1b ⟨v1, rfl, hr1, hb1⟩; have R1 := Aside0.mk hr1; obtain ⟨A2, c2, rfl⟩ := Kd.R_slice hr1; have D1 := Aside0.mk (D0.out.below hb1); have K1 := Aside0.mk (K0.out.trans (Keeps.of_below hb1)); clear hr1 hb1))
          go_roundg k1
          case measure => omega
          case rel => exact ⟨j + 1, (by
            have hw : wrap64 ((j : Int) + 1) = ((j + 1 : Nat) : Int) := by unfold wrap64; omega
            first | rfl | (rw [← hw]; rfl) | (simp [*]; done)), ⟨by have := HJ.out; omega⟩, ⟨by rw [HS2.out]; exact D2.out⟩, K2⟩
    · have c1 : decide ((j : Int) < (m : Int)) = false := decide_eq_false (by omega)
      have c1' : decide (j < m) = false := decide_eq_false (by omega)
      obtain rfl : j = m := by have := HJ.out; omega
      go_wp2
      go_ret2
      exact ⟨by first | rfl | (simp; done), D0.out, K0.out⟩
end

end Go.Proofs.YtkiofhmpeokipaaDoor.PTA
