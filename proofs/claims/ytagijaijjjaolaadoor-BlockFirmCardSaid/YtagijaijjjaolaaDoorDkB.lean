import Derived.Test.YtagijaijjjaolaaDoorDkA
namespace Go.Proofs.YtagijaijjjaolaaDoor.PBL
open Go.RowKit Go.Proofs.YtagijaijjjaolaaDoorW.PrintWords Go.Proofs.YtagijaijjjaolaaDoorW.PrintLast Go.Proofs.YtagijaijjjaolaaDoorW.PrintMore
attribute [local go_sem] max2_int min2_int max_two min_two max_three min_three max_four min_four
set_option linter.unusedVariables false
set_option linter.unusedSimpArgs false
section
variable {ok ok2 : Nat → Prop}
set_option maxHeartbeats 8000000 in
set_option maxRecDepth 100000 in
theorem Dk_Len.calls (o : Own) (s : DS) (w : World) (h : Dk ok 58 w o s) :
    Calls Tryd.prog 23 #[.pointer (some ⟨o.g, 0, none⟩)] w fun e w' => e = .returned (.int .i64 (s.now.length : Int)) ∧ w' = w := by
  have f0 := h.c0 rfl
  have f1 := h.c1 rfl
  have f2 := h.c2 rfl
  go_enter Tryd.func23, Tryd.ntmps23
  go_wp2
  go_ret
  exact ⟨rfl, rfl⟩

set_option maxHeartbeats 8000000 in
set_option maxRecDepth 100000 in
theorem Dk_LenN.calls (w : World) :
    Calls Tryd.prog 23 #[.pointer none] w fun e w' => e = .returned (.int .i64 0) ∧ w' = w := by
  go_enter Tryd.func23, Tryd.ntmps23
  go_wp2
  go_ret
  exact ⟨rfl, rfl⟩

set_option maxHeartbeats 8000000 in
set_option maxRecDepth 100000 in
theorem Dk_askedN.calls (i : Int) (w : World) :
    Calls Tryd.prog 29 #[.pointer none, .int .i64 i] w fun e w' => ∃ v, e = .returned v ∧ FaultAt w' v 1 ∧ Below w.heap.size w w' := by
  go_enter Tryd.func29, Tryd.ntmps29
  go_wp2_with (go_in)
  go_ret
  exact ⟨_, rfl, ⟨_, _, rfl, blk_new _ _⟩, (Below.refl _ _).alloc (Nat.le_refl _) _⟩

set_option maxHeartbeats 8000000 in
set_option maxRecDepth 100000 in
theorem Dk_askedOk.calls (o : Own) (s : DS) (w : World) (h : Dk ok 58 w o s) (i : Nat) (hi : i < s.now.length) :
    Calls Tryd.prog 29 #[.pointer (some ⟨o.g, 0, none⟩), .int .i64 (i : Int)] w fun e w' => e = .returned .nilIface ∧ w' = w := by
  have f0 := h.c0 rfl
  have f1 := h.c1 rfl
  have f2 := h.c2 rfl
  have c1 : decide ((i : Int) < 0) = false := decide_eq_false (by omega)
  have c2 : decide ((i : Int) ≥ (s.now.length : Int)) = false := decide_eq_false (by omega)
  have c3 : decide ((s.now.length : Int) ≤ (i : Int)) = false := decide_eq_false (by omega)
  go_enter Tryd.func29, Tryd.ntmps29
  go_wp2_with (go_in)
  go_ret
  exact ⟨rfl, rfl⟩

set_option maxHeartbeats 8000000 in
set_option maxRecDepth 100000 in
theorem Dk_askedLo.calls (o : Own) (s : DS) (w : World) (h : Dk ok 58 w o s) (i : Int) (hi : i < 0) :
    Calls Tryd.prog 29 #[.pointer (some ⟨o.g, 0, none⟩), .int .i64 i] w fun e w' => ∃ v, e = .returned v ∧ FaultAt w' v 2 ∧ Below w.heap.size w w' := by
  have f0 := h.c0 rfl
  have f1 := h.c1 rfl
  have f2 := h.c2 rfl
  have c1 : decide (i < 0) = true := decide_eq_true (by omega)
  go_enter Tryd.func29, Tryd.ntmps29
  go_wp2_with (go_in)
  go_ret
  exact ⟨_, rfl, ⟨_, _, rfl, blk_new _ _⟩, (Below.refl _ _).alloc (Nat.le_refl _) _⟩

set_option maxHeartbeats 8000000 in
set_option maxRecDepth 100000 in
theorem Dk_askedHi.calls (o : Own) (s : DS) (w : World) (h : Dk ok 58 w o s) (i : Int) (h0 : 0 ≤ i) (hi : (s.now.length : Int) ≤ i) :
    Calls Tryd.prog 29 #[.pointer (some ⟨o.g, 0, none⟩), .int .i64 i] w fun e w' => ∃ v, e = .returned v ∧ FaultAt w' v 2 ∧ Below w.heap.size w w' := by
  have f0 := h.c0 rfl
  have f1 := h.c1 rfl
  have f2 := h.c2 rfl
  have c1 : decide (i < 0) = false := decide_eq_false (by omega)
  have c2 : decide (i ≥ (s.now.length : Int)) = true := decide_eq_true (by omega)
  have c3 : decide ((s.now.length : Int) ≤ i) = true := decide_eq_true (by omega)
  go_enter Tryd.func29, Tryd.ntmps29
  go_wp2_with (go_in)
  go_ret
  exact ⟨_, rfl, ⟨_, _, rfl, blk_new _ _⟩, (Below.refl _ _).alloc (Nat.le_refl _) _⟩

theorem Dk_askedBad.calls (o : Own) (s : DS) (w : World) (h : Dk ok 58 w o s) (i : Int) (hi : i < 0 ∨ (s.now.length : Int) ≤ i) : Calls Tryd.prog 29 #[.pointer (some ⟨o.g, 0, none⟩), .int .i64 i] w fun e w' => ∃ v, e = .returned v ∧ FaultAt w' v 2 ∧ Below w.heap.size w w' := by
  by_cases h0 : i < 0
  · exact Dk_askedLo.calls o s w h i h0
  · exact Dk_askedHi.calls o s w h i (by omega) (hi.resolve_left h0)

set_option maxHeartbeats 8000000 in
set_option maxRecDepth 100000 in
theorem Dk_Read.calls (o : Own) (s : DS) (w : World) (h : Dk ok 58 w o s) (i : Nat) (hi : i < s.now.length) (l : List Int) (hl : s.now[i]? = some l) (hf : slices_Clone_byte_byte_31.f l = some l) :
    Calls Tryd.prog 15 #[.pointer (some ⟨o.g, 0, none⟩), .int .i64 (i : Int)] w fun e w' => ∃ v, e = .returned (.tuple #[v, .nilIface]) ∧ Kd.R (Kd.int .u8) 5 w' w.heap.size (fun _ => True) v l ∧ Below w.heap.size w w' := by
  have f0 := h.c0 rfl
  have f1 := h.c1 rfl
  have f2 := h.c2 rfl
  obtain ⟨vs, hrow, hby⟩ := h.vn
  obtain ⟨v, hv, hb⟩ := hby.at (i := i) hi
  rw [List.getElem?_eq_getElem hi] at hl
  rw [Option.some.inj hl] at hb
  obtain ⟨q, c, rfl, hc, hC⟩ := hb.reads
  have f3 := hrow.cell hv
  have fa := add_plain o.bn i
  have p1 : (0 : Int) ≤ (i : Int) := by omega
  have p2 : (i : Int) < (s.now.length : Int) := by omega
  have HC := Aside0.mk hC
  have Hc := Aside0.mk hc
  have HF := Aside0.mk hf
  have HD := Aside0.mk h
  have HI := Aside0.mk hi
  clear hC hc hf hl hrow hby hb hv h hi
  go_enter Tryd.func15, Tryd.ntmps15
  go_wp2_with (first | (go_at_call 31; (with_reducible refine (slices_Clone_byte_byte_31.calls _ _ l l _ HC.out Hc.out HF.out).mono ?_); rintro e w1 ⟨v1, rfl, ho1, hb1⟩) | (go_at_call 29; refine (Dk_askedOk.calls o s _ HD.out i HI.out).mono ?_; rintro e w2 ⟨rfl, rfl⟩))
  go_ret2
  exact ⟨_, rfl, ho1, hb1⟩

set_option maxHeartbeats 8000000 in
set_option maxRecDepth 100000 in
theorem Dk_ReadBad.calls (o : Own) (s : DS) (w : World) (h : Dk ok 58 w o s) (i : Int) (hi : i < 0 ∨ (s.now.length : Int) ≤ i) :
    Calls Tryd.prog 15 #[.pointer (some ⟨o.g, 0, none⟩), .int .i64 i] w fun e w' => ∃ v, e = .returned (.tuple #[.slice none 0 0, v]) ∧ FaultAt w' v 2 ∧ Below w.heap.size w w' := by
  have HA := Aside0.mk (Dk_askedBad.calls o s w h i hi)
  clear h hi
  go_enter Tryd.func15, Tryd.ntmps15
  go_wp2_with (first | (go_at_call 29; refine HA.out.mono ?_; rintro e w2 ⟨v, rfl, hv, hb⟩; have HV := Aside0.mk hv; obtain ⟨g, cs, rfl, hv⟩ := hv))
  go_ret2
  exact ⟨_, rfl, HV.out, hb⟩

set_option maxHeartbeats 8000000 in
set_option maxRecDepth 100000 in
theorem Dk_ReadN.calls (i : Int) (w : World) :
    Calls Tryd.prog 15 #[.pointer none, .int .i64 i] w fun e w' => ∃ v, e = .returned (.tuple #[.slice none 0 0, v]) ∧ FaultAt w' v 1 ∧ Below w.heap.size w w' := by
  go_enter Tryd.func15, Tryd.ntmps15
  go_wp2_with (first | (go_at_call 29; refine (Dk_askedN.calls i _).mono ?_; rintro e w2 ⟨v, rfl, hv, hb⟩; have HV := Aside0.mk hv; obtain ⟨g, cs, rfl, hv⟩ := hv))
  go_ret2
  exact ⟨_, rfl, HV.out, hb⟩

set_option maxHeartbeats 8000000 in
set_option maxRecDepth 100000 in
theorem Dk_Firm.calls (o : Own) (s : DS) (w : World) (h : Dk ok 58 w o s) (i : Nat) (hi : i < s.now.length) (l : List Int) (hl : s.firm[i]? = some l) (hf : slices_Clone_byte_byte_31.f l = some l) :
    Calls Tryd.prog 24 #[.pointer (some ⟨o.g, 0, none⟩), .int .i64 (i : Int)] w fun e w' => ∃ v, e = .returned (.tuple #[v, .nilIface]) ∧ Kd.R (Kd.int .u8) 5 w' w.heap.size (fun _ => True) v l ∧ Below w.heap.size w w' := by
  have f0 := h.c0 rfl
  have f1 := h.c1 rfl
  have f2 := h.c2 rfl
  obtain ⟨vs, hrow, hby⟩ := h.vf
  obtain ⟨v, hv, hb⟩ := hby.at (i := i) (by rw [h.nf]; exact hi)
  rw [List.getElem?_eq_getElem (by rw [h.nf]; exact hi)] at hl
  rw [Option.some.inj hl] at hb
  obtain ⟨q, c, rfl, hc, hC⟩ := hb.reads
  have f3 := hrow.cell hv
  have fa := add_plain o.bf i
  have p1 : (0 : Int) ≤ (i : Int) := by omega
  have p2 : (i : Int) < (s.now.length : Int) := by omega
  have HC := Aside0.mk hC
  have Hc := Aside0.mk hc
  have HF := Aside0.mk hf
  have HD := Aside0.mk h
  have HI := Aside0.mk hi
  clear hC hc hf hl hrow hby hb hv h hi
  go_enter Tryd.func24, Tryd.ntmps24
  go_wp2_with (first | (go_at_call 31; (with_reducible refine (slices_Clone_byte_byte_31.calls _ _ l l _ HC.out Hc.out HF.out).mono ?_); rintro e w1 ⟨v1, rfl, ho1, hb1⟩) | (go_at_call 29; refine (Dk_askedOk.calls o s _ HD.out i HI.out).mono ?_; rintro e w2 ⟨rfl, rfl⟩))
  go_ret2
  exact ⟨_, rfl, ho1, hb1⟩

set_option maxHeartbeats 8000000 in
set_option maxRecDepth 100000 in
theorem Dk_FirmBad.calls (o : Own) (s : DS) (w : World) (h : Dk ok 58 w o s) (i : Int) (hi : i < 0 ∨ (s.now.length : Int) ≤ i) :
    Calls Tryd.prog 24 #[.pointer (some ⟨o.g, 0, none⟩), .int .i64 i] w fun e w' => ∃ v, e = .returned (.tuple #[.slice none 0 0, v]) ∧ FaultAt w' v 2 ∧ Below w.heap.size w w' := by
  have HA := Aside0.mk (Dk_askedBad.calls o s w h i hi)
  clear h hi
  go_enter Tryd.func24, Tryd.ntmps24
  go_wp2_with (first | (go_at_call 29; refine HA.out.mono ?_; rintro e w2 ⟨v, rfl, hv, hb⟩; have HV := Aside0.mk hv; obtain ⟨g, cs, rfl, hv⟩ := hv))
  go_ret2
  exact ⟨_, rfl, HV.out, hb⟩

set_option maxHeartbeats 8000000 in
set_option maxRecDepth 100000 in
theorem Dk_FirmN.calls (i : Int) (w : World) :
    Calls Tryd.prog 24 #[.pointer none, .int .i64 i] w fun e w' => ∃ v, e = .returned (.tuple #[.slice none 0 0, v]) ∧ FaultAt w' v 1 ∧ Below w.heap.size w w' := by
  go_enter Tryd.func24, Tryd.ntmps24
  go_wp2_with (first | (go_at_call 29; refine (Dk_askedN.calls i _).mono ?_; rintro e w2 ⟨v, rfl, hv, hb⟩; have HV := Aside0.mk hv; obtain ⟨g, cs, rfl, hv⟩ := hv))
  go_ret2
  exact ⟨_, rfl, HV.out, hb⟩

end

end Go.Proofs.YtagijaijjjaolaaDoor.PBL
