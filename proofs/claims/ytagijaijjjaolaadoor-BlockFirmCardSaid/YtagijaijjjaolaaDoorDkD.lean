import Derived.Test.YtagijaijjjaolaaDoorDkC
namespace Go.Proofs.YtagijaijjjaolaaDoor.PBL
open Go.RowKit Go.Proofs.YtagijaijjjaolaaDoorW.PrintWords Go.Proofs.YtagijaijjjaolaaDoorW.PrintLast Go.Proofs.YtagijaijjjaolaaDoorW.PrintMore
attribute [local go_sem] max2_int min2_int max_two min_two max_three min_three max_four min_four
set_option linter.unusedVariables false
set_option linter.unusedSimpArgs false
section
variable {ok ok2 : Nat → Prop}
/-- Which are dirty, among the first so many. -/
def dix (D : List Bool) : Nat → List Nat
  | 0 => []
  | n + 1 => if D[n]? = some true then dix D n ++ [n] else dix D n
theorem dix_lt (D : List Bool) : ∀ n, ∀ i ∈ dix D n, i < n
  | 0, i, h => by cases h
  | n + 1, i, h => by
    unfold dix at h
    split at h
    · rcases List.mem_append.mp h with h | h
      · have := dix_lt D n i h; omega
      · rw [List.mem_singleton.mp h]; omega
    · have := dix_lt D n i h; omega
theorem dix_len (D : List Bool) : ∀ n, (dix D n).length ≤ n
  | 0 => Nat.le_refl _
  | n + 1 => by
    have := dix_len D n
    unfold dix
    split
    · rw [List.length_append, List.length_singleton]; omega
    · omega
def ints (l : List Nat) : List Int := l.map fun (i : Nat) => (i : Int)
theorem info_int : (Tryd.prog.info? 3).map (fun i => (i.zero, i.size, i.bytes)) = some (some (.int .i64 0), 1, 8) := by kernel_rfl

set_option maxHeartbeats 8000000 in
set_option maxRecDepth 100000 in
theorem Dk_Dirty.calls (o : Own) (s : DS) (w : World) (h : Dk ok 58 w o s) :
    Calls Tryd.prog 13 #[.pointer (some ⟨o.g, 0, none⟩)] w fun e w' => ∃ v, e = .returned v ∧ Kd.R (Kd.int .i64) 3 w' w.heap.size (fun _ => True) v (ints (dix s.dirty s.now.length)) ∧ Below w.heap.size w w' := by
  have HD := Aside0.mk h
  have HN := Aside0.mk h.n1
  have h0 := h.c0 rfl
  clear h
  go_enter Tryd.func13, Tryd.ntmps13
  go_wp2_with (first | (go_at_call 23; refine (Dk_Len.calls o s _ HD.out).mono ?_; rintro e w2 ⟨rfl, hw⟩; replace hw := hw.symm; subst hw))
  go_loopg [3, 7] s.now.length (fun kq v3 v7 w' => ∃ (j : Nat), v7 = .int .i64 (j : Int) ∧ Aside0 (j + kq = s.now.length) ∧ Aside0 (Kd.R (Kd.int .i64) 3 w' w.heap.size (fun _ => True) v3 (ints (dix s.dirty j))) ∧ Aside0 (Below w.heap.size w w'))
  case atStart => exact ⟨0, (by first | rfl | (simp; done)), ⟨by omega⟩, ⟨Kd.R_nil _ _ _ _ _⟩, ⟨Below.refl _ _⟩⟩
  case round =>
    obtain ⟨j, rfl, HJ, HR, HB⟩ := hrel
    have hDr := HD.out.below HB.out
    have q0 := hDr.c0 rfl
    have q2 := hDr.c2 rfl
    by_cases c8 : j < s.now.length
    · have c8b : decide ((j : Int) < (s.now.length : Int)) = true := decide_eq_true (by omega)
      have p1 : (0 : Int) ≤ (j : Int) := by omega
      have p2 : (j : Int) < (s.now.length : Int) := by omega
      have ab := add_plain o.bd j
      obtain ⟨b, hb, k1', z1'⟩ := hDr.kd c8
      have HBB := Aside0.mk hb
      clear hb hDr
      cases gk with
      | zero => have := HJ.out; omega
      | succ k1 =>
        cases b with
        | true =>
          go_wp2_with (first | ((with_reducible refine gate_builtin (b := .append) (xs := #[.tmp 17, .tmp 19]) rfl ?_); at_builtin; refine Kd.R_append (Kd.int .i64) (w0 := w) w.heap.size rfl (.tmp 17) (.tmp 19) 31 3 (.int .i64 0) 8 rfl Tryd.underlying31 info_int rfl (by decide) (by omega) u3 (ints (dix s.dirty j)) (j : Int) [.int .i64 (j : Int)] (fun _ => True) (fun _ => False) rfl rfl ?aP (fun _ hk => hk.elim) ?aF ?aO ?aB ?aS ?aL ?_; (case aP => exact rfl); (case aB => exact HB.out); (case aF => exact (fun _ _ => trivial)); (case aO => exact HR.out); (case aS => exact HB.out.size); (case aL => unfold ints; rw [List.length_map]; have := dix_len s.dirty j; have := HJ.out; have := HN.out; omega); intro v1 w1 ho1 hb1 hg1 ha1; have HR1 := Aside0.mk ho1; have HB1 := Aside0.mk hb1; clear ho1 hb1 hg1 ha1))
          go_roundg k1
          case measure => omega
          case rel => exact ⟨j + 1, (by
              have hw : wrap64 ((j : Int) + 1) = ((j + 1 : Nat) : Int) := by have := HJ.out; have := HN.out; unfold wrap64; omega
              first | rfl | (rw [← hw]; rfl) | (simp [*]; done)), ⟨by have := HJ.out; omega⟩, ⟨by unfold dix; rw [if_pos HBB.out]; have := HR1.out; unfold ints at this ⊢; rw [List.map_append]; exact this⟩, HB1⟩
        | false =>
          go_wp2
          go_roundg k1
          case measure => omega
          case rel => exact ⟨j + 1, (by
              have hw : wrap64 ((j : Int) + 1) = ((j + 1 : Nat) : Int) := by have := HJ.out; have := HN.out; unfold wrap64; omega
              first | rfl | (rw [← hw]; rfl) | (simp [*]; done)), ⟨by have := HJ.out; omega⟩, ⟨by unfold dix; rw [if_neg (by rw [HBB.out]; decide)]; exact HR.out⟩, HB⟩
    · have c8b : decide ((j : Int) < (s.now.length : Int)) = false := decide_eq_false (by omega)
      have c8i : (s.now.length : Int) ≤ (j : Int) := by omega
      have c8d : decide (j < s.now.length) = false := decide_eq_false c8
      obtain rfl : j = s.now.length := by have := HJ.out; omega
      clear hDr
      go_wp2
      go_ret
      exact ⟨_, rfl, HR.out, HB.out⟩

end

end Go.Proofs.YtagijaijjjaolaaDoor.PBL
