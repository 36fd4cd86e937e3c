import Derived.Test.YtagijaijjjaolaaDoorDkF
namespace Go.Proofs.YtagijaijjjaolaaDoor.PBL
open Go.RowKit Go.Proofs.YtagijaijjjaolaaDoorW.PrintWords Go.Proofs.YtagijaijjjaolaaDoorW.PrintLast Go.Proofs.YtagijaijjjaolaaDoorW.PrintMore
attribute [local go_sem] max2_int min2_int max_two min_two max_three min_three max_four min_four
set_option linter.unusedVariables false
set_option linter.unusedSimpArgs false
section
variable {ok ok2 : Nat → Prop}
theorem Byts.one {w : World} {vs : List Value} {ls : List (List Int)} (h : Byts ok w vs ls) : ∀ v ∈ vs, v.oneCell' = true := by
  intro v hv
  obtain ⟨i, hi, rfl⟩ := List.getElem_of_mem hv
  have hi2 : i < ls.length := by rw [← h.1]; exact hi
  obtain ⟨q, c, _, e, _⟩ := h.2 i _ _ (List.getElem?_eq_getElem hi) (List.getElem?_eq_getElem hi2)
  rw [e]
  rfl

set_option maxHeartbeats 8000000 in
set_option maxRecDepth 100000 in
theorem Dk_CopyN.calls (w : World) :
    Calls Tryd.prog 26 #[.pointer none] w fun e w' => e = .returned (.pointer none) ∧ w' = w := by
  go_enter Tryd.func26, Tryd.ntmps26
  go_wp2
  go_ret
  exact ⟨rfl, rfl⟩

set_option maxHeartbeats 8000000 in
set_option maxRecDepth 100000 in
theorem Dk_Copy.calls (o : Own) (s : DS) (w : World) (h : Dk ok 58 w o s) :
    Calls Tryd.prog 26 #[.pointer (some ⟨o.g, 0, none⟩)] w fun e w' => ∃ o' : Own, e = .returned (.pointer (some ⟨o'.g, 0, none⟩)) ∧ Dk ok 58 w' o' s ∧ (∀ k, o'.has k → w.heap.size ≤ k) ∧ Below w.heap.size w w' := by
  have HD := Aside0.mk h
  have H0 := Aside0.mk h.n0
  have H2 := Aside0.mk h.n1
  obtain ⟨vs, hr1, hb1⟩ := h.vn
  obtain ⟨vf, hr2, hb2⟩ := h.vf
  have HRn := Aside0.mk hr1
  have HRf := Aside0.mk hr2
  have HRd := Aside0.mk h.vd
  have HLn := Aside0.mk hb1.1
  have HLf := Aside0.mk (hb2.1.trans h.nf)
  have HLd : Aside0 ((s.dirty.map Value.bool).length = s.now.length) := ⟨by rw [List.length_map]; exact h.nd⟩
  have HOn := Aside0.mk hb1.one
  have HOf := Aside0.mk hb2.one
  have HOd : Aside0 (∀ v ∈ s.dirty.map Value.bool, v.oneCell' = true) := ⟨fun v hv => by obtain ⟨b, _, rfl⟩ := List.mem_map.mp hv; rfl⟩
  have HBn := Aside0.mk hb1
  have HBf := Aside0.mk hb2
  have c0 := h.c0 rfl
  have c1 := h.c1 rfl
  have c2 := h.c2 rfl
  clear h hr1 hr2 hb1 hb2
  go_enter Tryd.func26, Tryd.ntmps26
  go_wp2
  go_region_held3 (fun w' => w'.cell? ⟨o.g, 0, none⟩ = some (.slice (some ⟨o.bn, 0, none⟩) s.now.length o.cn) ∧ w'.cell? ⟨o.g, 1, none⟩ = some (.slice (some ⟨o.bf, 0, none⟩) s.now.length o.cf) ∧ w'.cell? ⟨o.g, 2, none⟩ = some (.slice (some ⟨o.bd, 0, none⟩) s.now.length o.cd)) (first | exact S1.out | exact S2.out | exact S3.out | exact S4.out | go_keep) (first | (go_at_call 43; refine (Cl_bools.calls o.bd (s.dirty.map Value.bool) s.now.length o.cd w2 ((HRd.out.same (B2.out.block _ HRd.out.lt))) HLd.out HOd.out H0.out H2.out).mono ?_; rintro e w3 ⟨g3, c3, rfl, hc, hr, hge, hlt, hb⟩; have B3 : Aside0 (Below w.heap.size w w3) := ⟨below_step B2.out hb⟩; have P3 := Aside0.mk hb; have R3 := Aside0.mk hr; have C3 := Aside0.mk hc; have G3 := Aside0.mk (And.intro hge hlt); have D3 := Aside0.mk (HD.out.below B3.out); have S3 := Aside0.mk (And.intro (D3.out.c0 rfl) (And.intro (D3.out.c1 rfl) (D3.out.c2 rfl))); clear hc hr hge hlt hb) | (go_at_call 42; refine (Cl_rows.calls o.bn vs s.now.length o.cn w.drew (HRn.out.same rfl) HLn.out HOn.out H0.out H2.out).mono ?_; rintro e w1 ⟨g1, c1, rfl, hc, hr, hge, hlt, hb⟩; have hb := Below.trans (Below.drew (Below.refl _ _)) hb; have B1 : Aside0 (Below w.heap.size w w1) := ⟨hb⟩; have P1 := Aside0.mk hb; have R1 := Aside0.mk hr; have C1 := Aside0.mk hc; have G1 := Aside0.mk (And.intro hge hlt); have D1 := Aside0.mk (HD.out.below B1.out); have S1 := Aside0.mk (And.intro (D1.out.c0 rfl) (And.intro (D1.out.c1 rfl) (D1.out.c2 rfl))); clear hc hr hge hlt hb) | (go_at_call 42; refine (Cl_rows.calls o.bf vf s.now.length o.cf w1 ((HRf.out.same (B1.out.block _ HRf.out.lt))) HLf.out HOf.out H0.out H2.out).mono ?_; rintro e w2 ⟨g2, c2, rfl, hc, hr, hge, hlt, hb⟩; have B2 : Aside0 (Below w.heap.size w w2) := ⟨below_step B1.out hb⟩; have P2 := Aside0.mk hb; have R2 := Aside0.mk hr; have C2 := Aside0.mk hc; have G2 := Aside0.mk (And.intro hge hlt); have D2 := Aside0.mk (HD.out.below B2.out); have S2 := Aside0.mk (And.intro (D2.out.c0 rfl) (And.intro (D2.out.c1 rfl) (D2.out.c2 rfl))); clear hc hr hge hlt hb))
  go_wp2
  go_ret
  have hB : Below w3.heap.size w3 (w3.alloc (.cells #[.slice (some ⟨g1, 0, none⟩) s.now.length c1, .slice (some ⟨g2, 0, none⟩) s.now.length c2, .slice (some ⟨g3, 0, none⟩) s.now.length c3] 58 (0, 0))) := (Below.refl _ _).alloc (Nat.le_refl _) _
  have h12 := P2.out.size
  have h23 := P3.out.size
  have hw1 := B1.out.size
  have hg1 := G1.out
  have hg2 := G2.out
  have hg3 := G3.out
  have hBw := below_step B3.out hB
  have q8 : ∀ (q : Nat) (cs : Array Value), w.heap[q]? = some (.cells cs 5 (0, 0)) → _ := fun q cs e => hBw.block q (blk_lt e)
  refine ⟨⟨w3.heap.size, g1, g2, g3, c1, c2, c3⟩, rfl, ⟨H0.out, H2.out, HD.out.nf, HD.out.nd, ⟨blk_new _ _, C1.out, C2.out, C3.out⟩, ⟨vs, R1.out.same ((hB.block g1 (by omega)).trans ((P3.out.block g1 (by omega)).trans (P2.out.block g1 hg1.2))), HBn.out.same q8⟩, ⟨vf, R2.out.same ((hB.block g2 (by omega)).trans (P3.out.block g2 hg2.2)), HBf.out.same q8⟩, R3.out.same (hB.block g3 hg3.2), by show g1 ≠ g2; omega⟩, ?_, hBw⟩
  have hg0 : w.heap.size ≤ g1 := hg1.1
  intro k hk
  have hk : k = w3.heap.size ∨ k = g1 ∨ k = g2 ∨ k = g3 := hk
  omega

set_option maxHeartbeats 8000000 in
set_option maxRecDepth 100000 in
theorem Dk_DirtyN.calls (w : World) :
    Calls Tryd.prog 13 #[.pointer none] w fun e w' => e = .returned (.slice none 0 0) ∧ w' = w := by
  go_enter Tryd.func13, Tryd.ntmps13
  go_wp2_with (first | (go_at_call 23; refine (Dk_LenN.calls _).mono ?_; rintro e w2 ⟨rfl, hw⟩; replace hw := hw.symm; subst hw))
  go_loopg [3, 7] 0 (fun kq v3 v7 w' => v3 = .slice none 0 0 ∧ v7 = .int .i64 0 ∧ w' = w)
  case atStart => exact ⟨rfl, rfl, rfl⟩
  case round =>
    obtain ⟨rfl, rfl, rfl⟩ := hrel
    go_wp2
    go_ret
    exact ⟨rfl, rfl⟩

set_option maxHeartbeats 8000000 in
set_option maxRecDepth 100000 in
theorem Dk_CrashN.calls (A : Option Addr) (n c : Nat) (w : World) :
    Calls Tryd.prog 14 #[.pointer none, .slice A n c] w fun e w' => e = .returned (.int .i64 0) ∧ w' = w := by
  go_enter Tryd.func14, Tryd.ntmps14
  go_wp2_with (first | (go_at_call 13; refine (Dk_DirtyN.calls _).mono ?_; rintro e w2 ⟨rfl, hw⟩; replace hw := hw.symm; subst hw))
  go_loopg [5, 11] 0 (fun kq v5 v11 w' => v5 = .int .i64 0 ∧ v11 = .int .i64 0 ∧ w' = w)
  case atStart => exact ⟨rfl, rfl, rfl⟩
  case round =>
    obtain ⟨rfl, rfl, rfl⟩ := hrel
    go_wp2
    go_ret
    exact ⟨rfl, rfl⟩

set_option maxHeartbeats 8000000 in
set_option maxRecDepth 100000 in
theorem Dk_FlushN.calls (w : World) :
    Calls Tryd.prog 12 #[.pointer none] w fun e w' => e = .returned (.tuple #[]) ∧ Below w.heap.size w w' := by
  go_enter Tryd.func12, Tryd.ntmps12
  go_wp2_with (first | (go_at_call 14; refine (Dk_CrashN.calls _ _ _ _).mono ?_; rintro e w2 ⟨rfl, rfl⟩))
  go_end0
  exact ⟨rfl, (Below.refl _ _).alloc (Nat.le_refl _) _⟩

set_option maxHeartbeats 8000000 in
set_option maxRecDepth 100000 in
theorem Dk_Flush.calls (o : Own) (s : DS) (w : World) (h : Dk ok 58 w o s) :
    Calls Tryd.prog 12 #[.pointer (some ⟨o.g, 0, none⟩)] w fun e w' => e = .returned (.tuple #[]) ∧ Dk ok 58 w' o (crashL [true] (dix s.dirty s.now.length) 0 s 0).1 ∧ Keeps o.has w w' := by
  have hb : Below w.heap.size w (w.alloc (.cells #[.bool true] 4 (0, 0))) := (Below.refl _ _).alloc (Nat.le_refl _) _
  have hk : Kd.C Kd.bool (w.alloc (.cells #[.bool true] 4 (0, 0))) (some ⟨w.heap.size, 0, none⟩) ([true] : List Bool).length [true] := Kd.C_of_reads (d := false) ⟨rfl, by decide, fun _ => ⟨_, rfl, fun j hj => by
    have : j = 0 := by have : ([true] : List Bool).length = 1 := rfl; omega
    subst this
    exact (blk_cell (blk_new _ _) 0).trans rfl⟩⟩
  have HA := Aside0.mk (Dk_Crash.calls o s _ (h.below hb) (some ⟨w.heap.size, 0, none⟩) 1 [true] hk (by decide) (fun ad e _ ho => by
    obtain rfl := Option.some.inj e
    have := h.lt _ ho
    exact absurd this (Nat.lt_irrefl _)))
  have HB := Aside0.mk hb
  clear h hk hb
  go_enter Tryd.func12, Tryd.ntmps12
  go_wp2_with (first | (go_at_call 14; refine HA.out.mono ?_; rintro e w2 ⟨rfl, hd, hk⟩; have HD2 := Aside0.mk hd; have HK2 := Aside0.mk hk; clear hd hk))
  go_end0
  exact ⟨rfl, HD2.out, (Keeps.of_below HB.out).trans HK2.out⟩

end

end Go.Proofs.YtagijaijjjaolaaDoor.PBL
