import Derived.Test.YtagijaijjjaolaaDoorDkE
namespace Go.Proofs.YtagijaijjjaolaaDoor.PBL
open Go.RowKit Go.Proofs.YtagijaijjjaolaaDoorW.PrintWords Go.Proofs.YtagijaijjjaolaaDoorW.PrintLast Go.Proofs.YtagijaijjjaolaaDoorW.PrintMore
attribute [local go_sem] max2_int min2_int max_two min_two max_three min_three max_four min_four
set_option linter.unusedVariables false
set_option linter.unusedSimpArgs false
section
variable {ok ok2 : Nat → Prop}
theorem Row.of_own {w : World} {base n : Nat} {e : TypeId} {v : Value} {xs : List Value} (h : w.ownsRow base e 1 v n xs) (hn : 0 < n) : ∃ g cap, v = .slice (some ⟨g, 0, none⟩) n cap ∧ n ≤ cap ∧ base ≤ g ∧ g < w.heap.size ∧ Row w g e xs := by
  obtain ⟨hl, hv⟩ := h
  rcases hv with ⟨_, h0⟩ | ⟨g, cap, cur, ev, hb, hg, h1, h2, h3, h4⟩
  · omega
  · refine ⟨g, cap, ev, h1, hb, blk_lt hg, cur, hg, fun i u hu => ?_⟩
    rw [← h4, List.getElem?_take] at hu
    split at hu
    · simpa using hu
    · cases hu
theorem info_bytes : (Tryd.prog.info? 22).map (fun i => (i.zero, i.size, i.bytes)) = some (some (.slice none 0 0), 1, 24) := by kernel_rfl
theorem info_bool : (Tryd.prog.info? 4).map (fun i => (i.zero, i.size, i.bytes)) = some (some (.bool false), 1, 1) := by kernel_rfl

set_option maxHeartbeats 8000000 in
set_option maxRecDepth 100000 in
theorem Cl_rows.calls (b : Nat) (vs : List Value) (n c : Nat) (w : World) (hr : Row w b 22 vs) (hn : vs.length = n) (h1 : ∀ v ∈ vs, v.oneCell' = true) (h0 : 0 < n) (h2 : n ≤ 256) :
    Calls Tryd.prog 42 #[.slice (some ⟨b, 0, none⟩) n c] w fun e w' => ∃ g cap, e = .returned (.slice (some ⟨g, 0, none⟩) n cap) ∧ n ≤ cap ∧ Row w' g 22 vs ∧ w.heap.size ≤ g ∧ g < w'.heap.size ∧ Below w.heap.size w w' := by
  have HR := Aside0.mk hr
  have HN := Aside0.mk hn
  have HO := Aside0.mk h1
  have H0 := Aside0.mk h0
  have H2 := Aside0.mk h2
  obtain ⟨i0, hi, hz0, hz1, hz2⟩ := info_parts info_bytes
  have HI := Aside0.mk (And.intro hi (And.intro hz0 (And.intro hz1 hz2)))
  have hq3 : ∀ (W_ : World) (n_ c_ n2_ c2_ : Nat), (binOp .eql 56 (.slice (some ⟨b, 0, none⟩) n_ c_) (.slice none n2_ c2_)).run Tryd.prog W_ = .ok (.bool false) W_ := fun W_ n_ c_ n2_ c2_ => Lib.run_eql_slice_nil W_ _ _ (some ⟨b, 0, none⟩) n_ c_ n2_ c2_ Tryd.underlying56
  clear hr hn h1 h0 h2 hi hz0 hz1 hz2
  go_enter Tryd.func42, Tryd.ntmps42
  go_wp2_with (first | (at_builtin; refine wpList_append_own _ rfl (.tmp 5) (.tmp 6) 56 rfl w.heap.size 22 i0 (.slice none 0 0) 1 24 Tryd.underlying56 HI.out.1 HI.out.2.1 HI.out.2.2.1 HI.out.2.2.2 rfl (by decide) (.slice (some ⟨w.heap.size, 0, none⟩) 0 0) 0 [] rfl (World.ownsRow_made w _ 0 (Nat.le_refl _) (by decide) rfl) ⟨b, 0, none⟩ n c vs rfl (by rw [HN.out, Nat.mul_one]) ?c1 HO.out (by have := H2.out; unfold maxLen; omega) (by have := H2.out; omega) (by rw [World.size_alloc]; omega) ?_; (case c1 => intro j u hu; rw [add_plain]; exact (HR.out.same (Below.heap_alloc w _ b HR.out.lt)).cell hu); intro v1 w1 ho1 hg1 _; have HO1 := Aside0.mk ho1; have HG1 := Aside0.mk hg1; clear ho1 hg1))
  go_ret
  have hb := ((Below.refl w.heap.size w).alloc (Nat.le_refl _) (.cells #[] 22)).grown HG1.out (by rw [World.size_alloc]; omega) (by intro k hk; injection hk with hk; subst hk; exact Nat.le_refl _)
  have ho := HO1.out
  rw [Nat.zero_add, List.nil_append] at ho
  obtain ⟨g, cap, rfl, q1, q2, q3, q4⟩ := Row.of_own ho H0.out
  exact ⟨g, cap, rfl, q1, q4, q2, q3, hb⟩

set_option maxHeartbeats 8000000 in
set_option maxRecDepth 100000 in
theorem Cl_bools.calls (b : Nat) (vs : List Value) (n c : Nat) (w : World) (hr : Row w b 4 vs) (hn : vs.length = n) (h1 : ∀ v ∈ vs, v.oneCell' = true) (h0 : 0 < n) (h2 : n ≤ 256) :
    Calls Tryd.prog 43 #[.slice (some ⟨b, 0, none⟩) n c] w fun e w' => ∃ g cap, e = .returned (.slice (some ⟨g, 0, none⟩) n cap) ∧ n ≤ cap ∧ Row w' g 4 vs ∧ w.heap.size ≤ g ∧ g < w'.heap.size ∧ Below w.heap.size w w' := by
  have HR := Aside0.mk hr
  have HN := Aside0.mk hn
  have HO := Aside0.mk h1
  have H0 := Aside0.mk h0
  have H2 := Aside0.mk h2
  obtain ⟨i0, hi, hz0, hz1, hz2⟩ := info_parts info_bool
  have HI := Aside0.mk (And.intro hi (And.intro hz0 (And.intro hz1 hz2)))
  have hq3 : ∀ (W_ : World) (n_ c_ n2_ c2_ : Nat), (binOp .eql 23 (.slice (some ⟨b, 0, none⟩) n_ c_) (.slice none n2_ c2_)).run Tryd.prog W_ = .ok (.bool false) W_ := fun W_ n_ c_ n2_ c2_ => Lib.run_eql_slice_nil W_ _ _ (some ⟨b, 0, none⟩) n_ c_ n2_ c2_ Tryd.underlying23
  clear hr hn h1 h0 h2 hi hz0 hz1 hz2
  go_enter Tryd.func43, Tryd.ntmps43
  go_wp2_with (first | (at_builtin; refine wpList_append_own _ rfl (.tmp 5) (.tmp 6) 23 rfl w.heap.size 4 i0 (.bool false) 1 1 Tryd.underlying23 HI.out.1 HI.out.2.1 HI.out.2.2.1 HI.out.2.2.2 rfl (by decide) (.slice (some ⟨w.heap.size, 0, none⟩) 0 0) 0 [] rfl (World.ownsRow_made w _ 0 (Nat.le_refl _) (by decide) rfl) ⟨b, 0, none⟩ n c vs rfl (by rw [HN.out, Nat.mul_one]) ?c1 HO.out (by have := H2.out; unfold maxLen; omega) (by have := H2.out; omega) (by rw [World.size_alloc]; omega) ?_; (case c1 => intro j u hu; rw [add_plain]; exact (HR.out.same (Below.heap_alloc w _ b HR.out.lt)).cell hu); intro v1 w1 ho1 hg1 _; have HO1 := Aside0.mk ho1; have HG1 := Aside0.mk hg1; clear ho1 hg1))
  go_ret
  have hb := ((Below.refl w.heap.size w).alloc (Nat.le_refl _) (.cells #[] 4)).grown HG1.out (by rw [World.size_alloc]; omega) (by intro k hk; injection hk with hk; subst hk; exact Nat.le_refl _)
  have ho := HO1.out
  rw [Nat.zero_add, List.nil_append] at ho
  obtain ⟨g, cap, rfl, q1, q2, q3, q4⟩ := Row.of_own ho H0.out
  exact ⟨g, cap, rfl, q1, q4, q2, q3, hb⟩

end

end Go.Proofs.YtagijaijjjaolaaDoor.PBL
