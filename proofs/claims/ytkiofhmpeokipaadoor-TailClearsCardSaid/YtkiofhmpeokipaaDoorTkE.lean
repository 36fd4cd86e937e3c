import Derived.Test.YtkiofhmpeokipaaDoorTkD
namespace Go.Proofs.YtkiofhmpeokipaaDoor.PTA
open Go.RowKit Go.Proofs.YtkiofhmpeokipaaDoorW.PrintWords Go.Proofs.YtkiofhmpeokipaaDoorW.PrintLast Go.Proofs.YtkiofhmpeokipaaDoorW.PrintMore
attribute [local go_sem] max2_int min2_int max_two min_two max_three min_three max_four min_four
set_option linter.unusedVariables false
set_option linter.unusedSimpArgs false
section
variable {ok ok2 : Nat → Prop}
set_option maxHeartbeats 8000000 in
set_option maxRecDepth 100000 in
theorem Tw_N.calls (a b g k : Int) (A : Option Addr) (n c : Nat) (w : World) :
    Calls Tryd.prog 8 #[.pointer none, .int .i64 a, .int .i64 b, .int .i64 g, .int .i64 k, .slice A n c] w fun e w' => ∃ v, e = .returned (.tuple #[.int .i64 0, v]) ∧ FaultAt w' v 1 ∧ Below w.heap.size w w' := by
  have HA := Aside0.mk (Tp_N.calls a b w)
  go_enter Tryd.func8, Tryd.ntmps8
  go_wp2_with (first | (go_at_call 21; refine HA.out.mono ?_; rintro e w2 ⟨v, rfl, hv, hb⟩; have HV := Aside0.mk hv; obtain ⟨gf, cs, rfl, hv⟩ := hv))
  go_ret2
  exact ⟨_, rfl, HV.out, hb⟩
set_option maxHeartbeats 8000000 in
set_option maxRecDepth 100000 in
theorem Tw_Bad.calls (o : Own) (s : DS) (a b g k : Int) (A : Option Addr) (n c : Nat) (w : World) (h : Dk ok 49 w o s) (hb : OffP s a b) :
    Calls Tryd.prog 8 #[.pointer (some ⟨o.g, 0, none⟩), .int .i64 a, .int .i64 b, .int .i64 g, .int .i64 k, .slice A n c] w fun e w' => ∃ v, e = .returned (.tuple #[.int .i64 0, v]) ∧ FaultAt w' v 2 ∧ Below w.heap.size w w' := by
  have HA := Aside0.mk (Tp_Bad.calls o s w h a b hb)
  clear h hb
  go_enter Tryd.func8, Tryd.ntmps8
  go_wp2_with (first | (go_at_call 21; refine HA.out.mono ?_; rintro e w2 ⟨v, rfl, hv, hb⟩; have HV := Aside0.mk hv; obtain ⟨gf, cs, rfl, hv⟩ := hv))
  go_ret2
  exact ⟨_, rfl, HV.out, hb⟩
set_option maxHeartbeats 8000000 in
set_option maxRecDepth 100000 in
theorem Tw_g.calls (o : Own) (s : DS) (a b g k : Int) (A : Option Addr) (n c : Nat) (w : World) (h : Dk ok 49 w o s) (hb : ¬ OffP s a b) (hg : g < 1) :
    Calls Tryd.prog 8 #[.pointer (some ⟨o.g, 0, none⟩), .int .i64 a, .int .i64 b, .int .i64 g, .int .i64 k, .slice A n c] w fun e w' => ∃ v, e = .returned (.tuple #[.int .i64 0, v]) ∧ FaultAt w' v 2 ∧ Below w.heap.size w w' := by
  have hOK := Aside0.mk (Tp_Ok.calls o s w h a b (by unfold OffP at hb; omega) (by unfold OffP at hb; omega) (by unfold OffP at hb; omega))
  clear h hb
  have d1 : decide (g < 1) = true := decide_eq_true hg
  clear hg
  go_enter Tryd.func8, Tryd.ntmps8
  go_wp2_with (first | (go_at_call 21; with_reducible refine hOK.out.mono ?_; rintro e wc ⟨rfl, hw⟩; replace hw := hw.symm; subst hw) | go_in)
  go_ret2
  exact ⟨_, rfl, ⟨_, _, rfl, blk_new _ _⟩, (Below.refl _ _).alloc (Nat.le_refl _) _⟩
set_option maxHeartbeats 8000000 in
set_option maxRecDepth 100000 in
theorem Tw_k.calls (o : Own) (s : DS) (a b g k : Int) (A : Option Addr) (n c : Nat) (w : World) (h : Dk ok 49 w o s) (hb : ¬ OffP s a b) (hg : 1 ≤ g) (hk : k < 1) :
    Calls Tryd.prog 8 #[.pointer (some ⟨o.g, 0, none⟩), .int .i64 a, .int .i64 b, .int .i64 g, .int .i64 k, .slice A n c] w fun e w' => ∃ v, e = .returned (.tuple #[.int .i64 0, v]) ∧ FaultAt w' v 2 ∧ Below w.heap.size w w' := by
  have hOK := Aside0.mk (Tp_Ok.calls o s w h a b (by unfold OffP at hb; omega) (by unfold OffP at hb; omega) (by unfold OffP at hb; omega))
  clear h hb
  have d1 : decide (g < 1) = false := decide_eq_false (by omega)
  have d2 : decide (k < 1) = true := decide_eq_true hk
  clear hg hk
  go_enter Tryd.func8, Tryd.ntmps8
  go_wp2_with (first | (go_at_call 21; with_reducible refine hOK.out.mono ?_; rintro e wc ⟨rfl, hw⟩; replace hw := hw.symm; subst hw) | go_in)
  go_ret2
  exact ⟨_, rfl, ⟨_, _, rfl, blk_new _ _⟩, (Below.refl _ _).alloc (Nat.le_refl _) _⟩
set_option maxHeartbeats 8000000 in
set_option maxRecDepth 100000 in
theorem Tw_full.calls (o : Own) (s : DS) (a b g k : Int) (A : Option Addr) (n c : Nat) (w : World) (h : Dk ok 49 w o s) (hb : ¬ OffP s a b) (hg : 1 ≤ g) (hk : 1 ≤ k) (hn : n ≤ 3000) (hf : b - a < (prts n : Int)) :
    Calls Tryd.prog 8 #[.pointer (some ⟨o.g, 0, none⟩), .int .i64 a, .int .i64 b, .int .i64 g, .int .i64 k, .slice A n c] w fun e w' => ∃ v, e = .returned (.tuple #[.int .i64 0, v]) ∧ FaultAt w' v 12 ∧ Below w.heap.size w w' := by
  have hn1 := h.n1
  have hba : 0 ≤ a ∧ a ≤ b ∧ b ≤ 256 := by unfold OffP at hb; omega
  have hp := prts_pos n
  have HPF := Aside0.mk (parts_f n (by omega))
  have hOK := Aside0.mk (Tp_Ok.calls o s w h a b (by unfold OffP at hb; omega) (by unfold OffP at hb; omega) (by unfold OffP at hb; omega))
  clear h hb
  have d1 : decide (g < 1) = false := decide_eq_false (by omega)
  have d2 : decide (k < 1) = false := decide_eq_false (by omega)
  have d3 : ((prts n : Int) == 0) = false := by rw [beq_eq_false_iff_ne]; omega
  have d4 : decide (b - a < (prts n : Int)) = true := decide_eq_true hf
  generalize prts n = m at *
  obtain ⟨q1, q2, q3⟩ := hba
  clear hg hk hf hn1
  go_enter Tryd.func8, Tryd.ntmps8
  go_wp2_with (first | (go_at_call 21; with_reducible refine hOK.out.mono ?_; rintro e wc ⟨rfl, hw⟩; replace hw := hw.symm; subst hw) | (go_at_call 14; with_reducible refine (tail_Parts.calls _ _ _ HPF.out).mono ?_; rintro e w1 ⟨rfl, hb1⟩; have B1 := Aside0.mk hb1; clear hb1) | go_in)
  go_ret2
  exact ⟨_, rfl, ⟨_, _, rfl, blk_new _ _⟩, (B1.out.alloc B1.out.size _)⟩
/-- The number of the error. -/
def wrC (s : DS) (a b g k : Int) (n : Nat) : Int := if (a < 0 ∨ b < a ∨ (s.now.length : Int) < b) ∨ g < 1 ∨ k < 1 then 2 else if b - a < (prts n : Int) then 12 else 0
/-- What a call that writes a frame makes. -/
structure Wrote (s : DS) (o : Own) (a b g k : Int) (l : List Int) (w w' : World) (n : Int) (v : Value) : Prop where
  err : ErrV w' v (wrC s a b g k l.length)
  keep : Keeps o.has w w'
  good : wrC s a b g k l.length = 0 → n = a + (prts l.length : Int) ∧ Dk (fun _ => True) 49 w' o (s.lay a.toNat g k (prts l.length) l (prts l.length))
  bad : wrC s a b g k l.length ≠ 0 → n = 0 ∧ Dk (fun _ => True) 49 w' o s
theorem Tw.calls (o : Own) (s : DS) (w : World) (h : Dk (fun _ => True) 49 w o s) (a b g k : Int) (A : Option Addr) (c : Nat) (l : List Int) (hC : Kd.C (Kd.int .u8) w A l.length l) (hc : l.length ≤ c) (hl : l.length ≤ 3000) (hA : ∀ ad, A = some ad → l ≠ [] → ¬ o.has ad.block) :
    Calls Tryd.prog 8 #[.pointer (some ⟨o.g, 0, none⟩), .int .i64 a, .int .i64 b, .int .i64 g, .int .i64 k, .slice A l.length c] w fun e w' => ∃ n v, e = .returned (.tuple #[.int .i64 n, v]) ∧ Wrote s o a b g k l w w' n v := by
  have bad : ∀ (code : Int), code ≠ 0 → wrC s a b g k l.length = code → ∀ (e : Ending) (w' : World), (∃ v, e = .returned (.tuple #[.int .i64 0, v]) ∧ FaultAt w' v code ∧ Below w.heap.size w w') → ∃ n v, e = .returned (.tuple #[.int .i64 n, v]) ∧ Wrote s o a b g k l w w' n v := by
    rintro code hc0 hcode e w' ⟨v, e1, e2, e3⟩
    exact ⟨0, v, e1, by rw [hcode]; exact .inr ⟨hc0, e2⟩, Keeps.of_below e3, fun h0 => absurd (hcode.symm.trans h0) hc0, fun _ => ⟨rfl, h.below e3⟩⟩
  by_cases h1 : OffP s a b
  · exact (Tw_Bad.calls o s a b g k A l.length c w h h1).mono (bad 2 (by decide) (by unfold wrC; exact if_pos (.inl h1)))
  · by_cases h2 : g < 1
    · exact (Tw_g.calls o s a b g k A l.length c w h h1 h2).mono (bad 2 (by decide) (by unfold wrC; exact if_pos (.inr (.inl h2))))
    · by_cases h3 : k < 1
      · exact (Tw_k.calls o s a b g k A l.length c w h h1 (by omega) h3).mono (bad 2 (by decide) (by unfold wrC; exact if_pos (.inr (.inr h3))))
      · have e1 : wrC s a b g k l.length = if b - a < (prts l.length : Int) then 12 else 0 := by
          unfold wrC
          unfold OffP at h1
          exact if_neg (by omega)
        by_cases h4 : b - a < (prts l.length : Int)
        · exact (Tw_full.calls o s a b g k A l.length c w h h1 (by omega) (by omega) hl h4).mono (bad 12 (by decide) (by rw [e1, if_pos h4]))
        · have e2 : wrC s a b g k l.length = 0 := by rw [e1, if_neg h4]
          unfold OffP at h1
          obtain ⟨a, rfl⟩ := Int.eq_ofNat_of_zero_le (show 0 ≤ a by omega)
          obtain ⟨b, rfl⟩ := Int.eq_ofNat_of_zero_le (show 0 ≤ b by omega)
          refine (Tw_Ok.calls o s w h a b g k A c l hC hc hl hA (by omega) (by omega) (by omega) (by omega)).mono ?_
          rintro e w' ⟨q1, q2, q3⟩
          exact ⟨_, _, q1, by rw [e2]; exact .inl ⟨rfl, rfl⟩, q3, fun _ => ⟨by omega, by rw [Int.toNat_natCast]; exact q2⟩, fun h0 => absurd e2 h0⟩
/-! ### Clear -/
def zeroL : List Int := List.replicate 512 0
theorem zeroL_len : zeroL.length = 512 := List.length_replicate
theorem zeroL_B : IsB zeroL := fun x hx => by rw [List.eq_of_mem_replicate hx]; decide
def DS.zeros (s : DS) (a : Nat) : Nat → DS
  | 0 => s
  | j + 1 => ((s.zeros a j).write ((a + j : Nat) : Int) zeroL).1
theorem DS.zeros_len (s : DS) (a : Nat) : ∀ j, (s.zeros a j).now.length = s.now.length
  | 0 => rfl
  | j + 1 => by rw [DS.zeros, DS.write_len]; exact s.zeros_len a j
theorem DS.zeros_AllB {s : DS} (h : s.AllB) (a : Nat) : ∀ j, (s.zeros a j).AllB
  | 0 => h
  | j + 1 => by rw [DS.zeros]; exact DS.write_AllB (DS.zeros_AllB h a j) _ zeroL_B
set_option maxHeartbeats 8000000 in
set_option maxRecDepth 100000 in
theorem Tc_N.calls (a b : Int) (w : World) :
    Calls Tryd.prog 19 #[.pointer none, .int .i64 a, .int .i64 b] w fun e w' => ∃ v, e = .returned v ∧ FaultAt w' v 1 ∧ Below w.heap.size w w' := by
  have HA := Aside0.mk (Tp_N.calls a b w)
  go_enter Tryd.func19, Tryd.ntmps19
  go_wp2_with (first | (go_at_call 21; refine HA.out.mono ?_; rintro e w2 ⟨v, rfl, hv, hb⟩; have HV := Aside0.mk hv; obtain ⟨gf, cs, rfl, hv⟩ := hv))
  go_ret
  exact ⟨_, rfl, HV.out, hb⟩
set_option maxHeartbeats 8000000 in
set_option maxRecDepth 100000 in
theorem Tc_Bad.calls (o : Own) (s : DS) (w : World) (h : Dk ok 49 w o s) (a b : Int) (hb : OffP s a b) :
    Calls Tryd.prog 19 #[.pointer (some ⟨o.g, 0, none⟩), .int .i64 a, .int .i64 b] w fun e w' => ∃ v, e = .returned v ∧ FaultAt w' v 2 ∧ Below w.heap.size w w' := by
  have HA := Aside0.mk (Tp_Bad.calls o s w h a b hb)
  clear h hb
  go_enter Tryd.func19, Tryd.ntmps19
  go_wp2_with (first | (go_at_call 21; refine HA.out.mono ?_; rintro e w2 ⟨v, rfl, hv, hb⟩; have HV := Aside0.mk hv; obtain ⟨gf, cs, rfl, hv⟩ := hv))
  go_ret
  exact ⟨_, rfl, HV.out, hb⟩
theorem made_row {w : World} {Z : Array Value} (hZ : Z.toList = List.replicate 512 (.int .u8 0)) : Kd.C (Kd.int .u8) (w.alloc (.cells Z 5 (0, 0))) (some ⟨w.heap.size, 0, none⟩) zeroL.length zeroL := by
  refine Kd.C_of_reads (d := (0 : Int)) ⟨rfl, by rw [zeroL_len]; decide, fun _ => ⟨_, rfl, fun j hj => ?_⟩⟩
  have hj2 : j < 512 := by rw [zeroL_len] at hj; exact hj
  rw [add_plain, blk_cell (blk_new w (.cells Z 5 (0, 0)))]
  rw [← Array.getElem?_toList, hZ, List.getElem?_replicate, if_pos hj2]
  unfold zeroL
  rw [List.getD_eq_getElem?_getD, List.getElem?_replicate, if_pos hj2]
  rfl
set_option maxHeartbeats 8000000 in
set_option maxRecDepth 100000 in
theorem Tc_Ok.calls (o : Own) (s : DS) (w : World) (h : Dk (fun _ => True) 49 w o s) (a d : Nat) (h2 : a + d ≤ s.now.length) :
    Calls Tryd.prog 19 #[.pointer (some ⟨o.g, 0, none⟩), .int .i64 (a : Int), .int .i64 ((a + d : Nat) : Int)] w fun e w' => e = .returned .nilIface ∧ Dk (fun _ => True) 49 w' o (s.zeros a d) ∧ Keeps o.has w w' := by
  have hn1 := h.n1
  have hOK := Aside0.mk (Tp_Ok.calls o s w h (a : Int) ((a + d : Nat) : Int) (by omega) (by omega) (by omega))
  obtain ⟨ZU, hZU, hmu⟩ := make_run (t := 22) (e := 5) (z := .int .u8 0) Tryd.underlying22 info_u8' rfl 512 (by decide) (by decide)
  have hmu : ∀ W : World, (Instr.makeSlice 22 (.int .i64 512) (.int .i64 512)).run Tryd.prog W = .ok (.slice (some ⟨W.heap.size, 0, none⟩) 512 512) (W.alloc (.cells ZU 5 (0, 0))) := hmu
  have HZU := Aside0.mk hZU
  have HD := Aside0.mk h
  have H2 := Aside0.mk h2
  have d1 : a + d ≤ 256 := by omega
  generalize hz : ((a + d : Nat) : Int) = z at *
  have HZ := Aside0.mk hz
  clear h h2 hn1 hZU hz
  go_enter Tryd.func19, Tryd.ntmps19
  go_wp2_with (first | (go_at_call 21; with_reducible refine hOK.out.mono ?_; rintro e wc ⟨rfl, hw⟩; replace hw := hw.symm; subst hw))
  go_loopg [8] d (fun kq v8 w' => ∃ (j : Nat) (x : Int), v8 = .int .i64 x ∧ Aside0 (x = ((a + j : Nat) : Int)) ∧ Aside0 (j + kq = d) ∧ Aside0 (Dk (fun _ => True) 49 w' o (s.zeros a j)) ∧ Aside0 (Keeps o.has w w'))
  case atStart => exact ⟨0, (a : Int), (by first | rfl | (simp; done)), ⟨by omega⟩, ⟨by omega⟩, HD, ⟨Keeps.refl _ _⟩⟩
  case round =>
    obtain ⟨j, x, rfl, HX, HJ, D0, K0⟩ := hrel
    by_cases cj : j < d
    · have c1 : decide (x < z) = true := decide_eq_true (by have := HX.out; have := HZ.out; omega)
      cases gk with
      | zero => have := HJ.out; omega
      | succ k1 =>
        have HL0 : Aside0 ((s.zeros a j).now.length = s.now.length) := ⟨s.zeros_len a j⟩
        have HWR : Aside0 ((s.zeros a (j + 1)) = ⟨(s.zeros a j).now.set (a + j) zeroL, (s.zeros a j).firm, (s.zeros a j).dirty.set (a + j) true⟩) := ⟨by
          rw [DS.zeros, DS.write, if_neg (by have := HL0.out; have := H2.out; omega), if_neg (by rw [zeroL_len]; omega), Int.toNat_natCast]⟩
        have HAJ : Aside0 (a + j < (s.zeros a j).now.length) := ⟨by have := HL0.out; have := H2.out; omega⟩
        generalize hs2 : s.zeros a (j + 1) = s2 at *
        have HS2 := Aside0.mk hs2
        clear hs2
        generalize s.zeros a j = s1 at *
        have WRT : Aside0 (∀ w', Dk (fun _ => True) 49 w' o s1 → Calls Tryd.prog 23 #[.pointer (some ⟨o.g, 0, none⟩), .int .i64 x, .slice (some ⟨w'.heap.size, 0, none⟩) 512 512] (w'.alloc (.cells ZU 5 (0, 0))) fun e w'' => e = .returned .nilIface ∧ Dk (fun _ => True) 49 w'' o s2 ∧ Keeps o.has w' w'') := ⟨fun w' h1 => by
          have := Dk_WriteOk.calls o s1 _ (h1.below ((Below.refl _ _).alloc (Nat.le_refl _) (.cells ZU 5 (0, 0)))) (some ⟨w'.heap.size, 0, none⟩) 512 zeroL (made_row HZU.out) (by rw [zeroL_len]; omega) zeroL_len (clone_f zeroL (by rw [zeroL_len]; omega)) (a + j) HAJ.out (fun _ _ => trivial)
          rw [HWR.out, HX.out]
          rw [zeroL_len] at this
          exact this.mono fun e w'' ⟨q1, q2, q3⟩ => ⟨q1, q2, ((Keeps.refl _ _).alloc _).trans q3⟩⟩
        have HX2 : Aside0 (wrap64 (x + 1) = ((a + (j + 1) : Nat) : Int)) := ⟨by have := HX.out; rw [w64' (by omega) (by omega)]; omega⟩
        go_wp2_with (first | (go_at_call 23; with_reducible refine (WRT.out _ D0.out).mono ?_; rintro e w2 ⟨rfl, hd2, hk2⟩; have D2 := Aside0.mk hd2; have K2 := Aside0.mk (K0.out.trans hk2); clear hd2 hk2))
        go_roundg k1
        case measure => omega
        case rel => exact ⟨j + 1, wrap64 (x + 1), (by first | rfl | (simp; done) | (simp [*]; done)), HX2, ⟨by have := HJ.out; omega⟩, ⟨by rw [HS2.out]; exact D2.out⟩, K2⟩
    · have c1 : decide (x < z) = false := decide_eq_false (by have := HX.out; have := HZ.out; have := HJ.out; omega)
      obtain rfl : j = d := by have := HJ.out; omega
      go_wp2
      go_ret
      exact ⟨rfl, D0.out, K0.out⟩
end

end Go.Proofs.YtkiofhmpeokipaaDoor.PTA
