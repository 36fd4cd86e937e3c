import Derived.Test.YtagijaijjjaolaaDoorDkB
namespace Go.Proofs.YtagijaijjjaolaaDoor.PBL
open Go.RowKit Go.Proofs.YtagijaijjjaolaaDoorW.PrintWords Go.Proofs.YtagijaijjjaolaaDoorW.PrintLast Go.Proofs.YtagijaijjjaolaaDoorW.PrintMore
attribute [local go_sem] max2_int min2_int max_two min_two max_three min_three max_four min_four
set_option linter.unusedVariables false
set_option linter.unusedSimpArgs false
section
variable {ok ok2 : Nat → Prop}
theorem Dk.setN {T : TypeId} {w : World} {o : Own} {s : DS} (h : Dk ok T w o s) (hT : T ≠ 22) {v : Value} {l : List Int} (hv : Byt ok w v l) (i : Nat) : Dk ok T (w.setCell ⟨o.bn, i, none⟩ v) o { s with now := s.now.set i l } := by
  obtain ⟨e, h1⟩ := h.str
  obtain ⟨vs, r1, b1⟩ := h.vn
  obtain ⟨vf, r2, b2⟩ := h.vf
  have q8 : ∀ (q : Nat) (cs : Array Value), w.heap[q]? = some (.cells cs 5 (0, 0)) → (w.setCell ⟨o.bn, i, none⟩ v).heap[q]? = w.heap[q]? := fun q cs eq => Below.heap_setCell w _ v q (Ne.symm (blk_ne r1.choose_spec.1 eq (by decide)))
  have hl : (s.now.set i l).length = s.now.length := List.length_set
  refine ⟨by rw [hl]; exact h.n0, by rw [hl]; exact h.n1, by rw [hl]; exact h.nf, by rw [hl]; exact h.nd, ⟨?_, by rw [hl]; exact h1⟩, ⟨vs.set i v, r1.set i v, (b1.set i hv).same q8⟩, ⟨vf, r2.far (Ne.symm h.ne) v, b2.same q8⟩, h.vd.far (Ne.symm (r1.ne h.vd (by decide))) v, h.ne⟩
  rw [hl]
  exact blk_far e (p := ⟨o.bn, i, none⟩) (blk_ne e r1.choose_spec.1 hT) v
theorem Dk.setF {T : TypeId} {w : World} {o : Own} {s : DS} (h : Dk ok T w o s) (hT : T ≠ 22) {v : Value} {l : List Int} (hv : Byt ok w v l) (i : Nat) : Dk ok T (w.setCell ⟨o.bf, i, none⟩ v) o { s with firm := s.firm.set i l } := by
  obtain ⟨e, h1⟩ := h.str
  obtain ⟨vs, r1, b1⟩ := h.vn
  obtain ⟨vf, r2, b2⟩ := h.vf
  have q8 : ∀ (q : Nat) (cs : Array Value), w.heap[q]? = some (.cells cs 5 (0, 0)) → (w.setCell ⟨o.bf, i, none⟩ v).heap[q]? = w.heap[q]? := fun q cs eq => Below.heap_setCell w _ v q (Ne.symm (blk_ne r2.choose_spec.1 eq (by decide)))
  have hl : (s.firm.set i l).length = s.firm.length := List.length_set
  exact ⟨h.n0, h.n1, by rw [hl]; exact h.nf, h.nd, ⟨blk_far e (p := ⟨o.bf, i, none⟩) (blk_ne e r2.choose_spec.1 hT) v, h1⟩, ⟨vs, r1.far h.ne v, b1.same q8⟩, ⟨vf.set i v, r2.set i v, (b2.set i hv).same q8⟩, h.vd.far (Ne.symm (r2.ne h.vd (by decide))) v, h.ne⟩
theorem Dk.setD {T : TypeId} {w : World} {o : Own} {s : DS} (h : Dk ok T w o s) (hT : T ≠ 4) (b : Bool) (i : Nat) : Dk ok T (w.setCell ⟨o.bd, i, none⟩ (.bool b)) o { s with dirty := s.dirty.set i b } := by
  obtain ⟨e, h1⟩ := h.str
  obtain ⟨vs, r1, b1⟩ := h.vn
  obtain ⟨vf, r2, b2⟩ := h.vf
  obtain ⟨_, ed, _⟩ := h.vd
  have q8 : ∀ (q : Nat) (cs : Array Value), w.heap[q]? = some (.cells cs 5 (0, 0)) → (w.setCell ⟨o.bd, i, none⟩ (.bool b)).heap[q]? = w.heap[q]? := fun q cs eq => Below.heap_setCell w _ _ q (Ne.symm (blk_ne ed eq (by decide)))
  have hl : (s.dirty.set i b).length = s.dirty.length := List.length_set
  exact ⟨h.n0, h.n1, h.nf, by rw [hl]; exact h.nd, ⟨blk_far e (p := ⟨o.bd, i, none⟩) (blk_ne e ed hT) _, h1⟩, ⟨vs, r1.far (r1.ne h.vd (by decide)) _, b1.same q8⟩, ⟨vf, r2.far (r2.ne h.vd (by decide)) _, b2.same q8⟩, by
    have := h.vd.set i (.bool b)
    rw [List.map_set]
    exact this, h.ne⟩

set_option maxHeartbeats 8000000 in
set_option maxRecDepth 100000 in
theorem Dk_WriteN.calls (A : Option Addr) (n c : Nat) (i : Int) (w : World) :
    Calls Tryd.prog 10 #[.pointer none, .int .i64 i, .slice A n c] w fun e w' => ∃ v, e = .returned v ∧ FaultAt w' v 1 ∧ Below w.heap.size w w' := by
  go_enter Tryd.func10, Tryd.ntmps10
  go_wp2_with (first | (go_at_call 29; refine (Dk_askedN.calls i _).mono ?_; rintro e w2 ⟨v, rfl, hv, hb⟩; have HV := Aside0.mk hv; obtain ⟨g, cs, rfl, hv⟩ := hv))
  go_ret
  exact ⟨_, rfl, HV.out, hb⟩

set_option maxHeartbeats 8000000 in
set_option maxRecDepth 100000 in
theorem Dk_WriteBad.calls (o : Own) (s : DS) (w : World) (h : Dk ok 58 w o s) (A : Option Addr) (n c : Nat) (i : Int) (hi : i < 0 ∨ (s.now.length : Int) ≤ i) :
    Calls Tryd.prog 10 #[.pointer (some ⟨o.g, 0, none⟩), .int .i64 i, .slice A n c] w fun e w' => ∃ v, e = .returned v ∧ FaultAt w' v 2 ∧ Below w.heap.size w w' := by
  have HA := Aside0.mk (Dk_askedBad.calls o s w h i hi)
  clear h hi
  go_enter Tryd.func10, Tryd.ntmps10
  go_wp2_with (first | (go_at_call 29; refine HA.out.mono ?_; rintro e w2 ⟨v, rfl, hv, hb⟩; have HV := Aside0.mk hv; obtain ⟨g, cs, rfl, hv⟩ := hv))
  go_ret
  exact ⟨_, rfl, HV.out, hb⟩

set_option maxHeartbeats 8000000 in
set_option maxRecDepth 100000 in
theorem Dk_WriteSize.calls (o : Own) (s : DS) (w : World) (h : Dk ok 58 w o s) (A : Option Addr) (n c : Nat) (i : Nat) (hi : i < s.now.length) (hn : n ≠ 512) :
    Calls Tryd.prog 10 #[.pointer (some ⟨o.g, 0, none⟩), .int .i64 (i : Int), .slice A n c] w fun e w' => ∃ v, e = .returned v ∧ FaultAt w' v 3 ∧ Below w.heap.size w w' := by
  have HA := Aside0.mk (Dk_askedOk.calls o s w h i hi)
  have c1 : decide ((n : Int) = 512) = false := decide_eq_false (by omega)
  have c2 : ((n : Int) == 512) = false := beq_eq_false_iff_ne.mpr (by omega)
  have c3 : ((n : Int) != 512) = true := bne_iff_ne.mpr (by omega)
  clear h hi
  go_enter Tryd.func10, Tryd.ntmps10
  go_wp2_with (first | (go_at_call 29; refine HA.out.mono ?_; rintro e w2 ⟨rfl, rfl⟩) | go_in)
  go_ret
  exact ⟨_, rfl, ⟨_, _, rfl, blk_new _ _⟩, (Below.refl _ _).alloc (Nat.le_refl _) _⟩

set_option maxHeartbeats 8000000 in
set_option maxRecDepth 100000 in
theorem Dk_WriteOk.calls (o : Own) (s : DS) (w : World) (h : Dk ok 58 w o s) (A : Option Addr) (c : Nat) (l : List Int) (hC : Kd.C (Kd.int .u8) w A l.length l) (hc : l.length ≤ c) (hl : l.length = 512) (hf : slices_Clone_byte_byte_31.f l = some l) (i : Nat) (hi : i < s.now.length) (hok : ∀ k, w.heap.size ≤ k → ok k) :
    Calls Tryd.prog 10 #[.pointer (some ⟨o.g, 0, none⟩), .int .i64 (i : Int), .slice A l.length c] w fun e w' => e = .returned .nilIface ∧ Dk ok 58 w' o { s with now := s.now.set i l, dirty := s.dirty.set i true } ∧ Keeps o.has w w' := by
  have HA := Aside0.mk (Dk_askedOk.calls o s w h i hi)
  have HD := Aside0.mk h
  have HI := Aside0.mk hi
  have HL := Aside0.mk hl
  have c1 : decide ((l.length : Int) = 512) = true := decide_eq_true (by omega)
  have c2 : ((l.length : Int) == 512) = true := beq_iff_eq.mpr (by omega)
  have c3 : ((l.length : Int) != 512) = false := bne_eq_false_iff_eq.mpr (by omega)
  have f0 := h.c0 rfl
  have f1 := h.c1 rfl
  have f2 := h.c2 rfl
  have p1 : (0 : Int) ≤ (i : Int) := by omega
  have p2 : (i : Int) < (s.now.length : Int) := by omega
  have ab := add_plain o.bn i
  have ad := add_plain o.bd i
  have HC := Aside0.mk hC
  have Hc := Aside0.mk hc
  have HF := Aside0.mk hf
  have HOK := Aside0.mk hok
  clear h hi hl hC hc hf hok
  go_enter Tryd.func10, Tryd.ntmps10
  go_wp2_with (first | (go_at_call 29; refine HA.out.mono ?_; rintro e w2 ⟨rfl, rfl⟩))
  go_region_held3 (fun w' => w'.cell? ⟨o.g, 0, none⟩ = some (.slice (some ⟨o.bn, 0, none⟩) s.now.length o.cn) ∧ w'.cell? ⟨o.g, 2, none⟩ = some (.slice (some ⟨o.bd, 0, none⟩) s.now.length o.cd)) (first | exact S1 | exact S2.out | exact S3.out | go_keep) (first | (go_at_call 31; (with_reducible refine (slices_Clone_byte_byte_31.calls _ _ l l _ (Kd.C_drew HC.out) Hc.out HF.out).mono ?_); rintro e w1 ⟨v1, rfl, ho1, hb1⟩; have hb1 := Below.trans (Below.drew (Below.refl _ _)) hb1; have D1 := Aside0.mk (HD.out.below hb1); obtain ⟨B1, m1, rfl⟩ := Kd.R_slice ho1; have HO1 := Aside0.mk (Byt.of_R ho1 HL.out HOK.out); have HB1 := Aside0.mk hb1; have S1 := And.intro (D1.out.c0 rfl) (D1.out.c2 rfl); have D2 := Aside0.mk (D1.out.setN (by decide) HO1.out i); have S2 := Aside0.mk (And.intro (D2.out.c0 List.length_set) (D2.out.c2 List.length_set)); have D3 := Aside0.mk (D2.out.setD (by decide) true i); have S3 := Aside0.mk (And.intro (D3.out.c0 List.length_set) (D3.out.c2 List.length_set)); obtain ⟨u1, k1, z1⟩ := D1.out.kn HI.out; obtain ⟨u2, _, k2, z2⟩ := D2.out.kd (i := i) (by rw [List.length_set]; exact HI.out); clear ho1 hb1))
  go_wp2
  go_ret
  exact ⟨rfl, D3.out, ((Keeps.of_below HB1.out).trans (Keeps.set _ _ o.bn i _ (.inr (.inl rfl)))).trans (Keeps.set _ _ o.bd i _ (.inr (.inr (.inr rfl))))⟩

end

end Go.Proofs.YtagijaijjjaolaaDoor.PBL
