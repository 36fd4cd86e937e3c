-- By a program of this session (wip/myprint.sh) out of the translation; Lean checks it.
import Derived.Test.YthliabidnboklaaDoorPKeyx0
namespace Go.Proofs.YthliabidnboklaaDoor.PKey
open Go.RowKit Go.Proofs.YthliabidnboklaaDoorW.PrintWords Go.Proofs.YthliabidnboklaaDoorW.PrintLast Go.Proofs.YthliabidnboklaaDoorW.PrintMore
attribute [local go_sem] max2_int min2_int max_two min_two max_three min_three max_four min_four   -- for this text's walks alone
set_option linter.unusedVariables false
set_option linter.unusedSimpArgs false

-- NOT PRINTED: function 61 (reflectlite_ValueOf)

-- NOT PRINTED: function 62 (reflectlite_Value_Type)

-- NOT PRINTED: function 63 (reflectlite_Value_IsNil)

-- NOT PRINTED: function 65 (reflectlite_TypeOf)

-- NOT PRINTED: function 74 (reflectlite_Value_Elem)

-- NOT PRINTED: function 75 (reflectlite_Value_Set)

-- NOT PRINTED: function 64 (errors_as)

-- NOT PRINTED: function 42 (errors_As)

-- NOT PRINTED: function 66 (errors_is)

-- NOT PRINTED: function 43 (errors_Is)

-- NOT PRINTED: function 44 (api_Code)

/-! ### chatelainelaw0_Num: function 14 -/
def chatelainelaw0_Num.f : List S72 → Option Int
  | [] => some 0
  | [x] => if x.f0 = 0 then none else some x.f0
  | _ => none
theorem chatelainelaw0_Num.calls (u : Value) (l : List S72) (r : Int) (w : World) (ho : ErrIs w u l) (hg_ : w.cell? ⟨0, 0, none⟩ = some (.iface 117 (.agg #[.pointer (some ⟨1, 24, none⟩)]))) (h : chatelainelaw0_Num.f l = some r) :
    Calls Tryd.prog 14 #[u] w fun e w' => e = .returned (.int .i64 r) ∧ Below w.heap.size w w' := by
  obtain ⟨base, ok, ho⟩ := ho
  rcases eRow_one ho with ⟨rfl, rfl⟩ | ⟨g, x, rfl, rfl, hb⟩
  · obtain rfl := Option.some.inj h
    exact Errs.num_nil w
  · by_cases h0 : x.f0 = 0
    · simp [chatelainelaw0_Num.f, h0] at h
    · have e : x.f0 = r := by simpa [chatelainelaw0_Num.f, h0] using h
      subst e
      exact Errs.num_P g x.f0 w h0 hg_ ((blk_cell hb 0).trans rfl)

/-! ### chatelainelaw0_Low: function 20 -/
def chatelainelaw0_Low.f (a0 : Int) (a1 : Int) : Option (Int) := if (IntKind.u64.wrap (a1)) = 0 then (none) else (some (wrap64 (Int.tmod (IntKind.u64.wrap (a0)) (IntKind.u64.wrap (a1)))))
set_option maxHeartbeats 8000000 in
set_option maxRecDepth 100000 in
theorem chatelainelaw0_Low.calls (a0 : Int) (a1 : Int) (r : Int) (w : World) (h : chatelainelaw0_Low.f a0 a1 = some r) :
    Calls Tryd.prog 20 #[.int .i64 a0, .int .i64 a1] w fun e w' => e = .returned (.int .i64 r) ∧ Drawn0 w w' := by
  have H : (if (IntKind.u64.wrap (a1)) = 0 then (none) else (some (wrap64 (Int.tmod (IntKind.u64.wrap (a0)) (IntKind.u64.wrap (a1)))))) = some r := h
  clear h
  by_cases c3 : (IntKind.u64.wrap (a1)) = 0
  · rw [if_pos c3] at H
    exact absurd H (by simp)
  · rw [if_neg c3] at H
    have c3b0 : ((IntKind.u64.wrap (a1)) == 0) = false := beq_eq_false_iff_ne.mpr c3
    have c3b1 : ((IntKind.u64.wrap (a1)) != 0) = true := bne_iff_ne.mpr c3
    obtain rfl := Option.some.inj H
    go_enter Tryd.func20, Tryd.ntmps20
    go_wp2
    go_ret
    exact ⟨by first | rfl | (simp; done) | (simp [*]; done), by repeat (first | exact Drawn0.refl _ | apply Drawn0.step)⟩

end Go.Proofs.YthliabidnboklaaDoor.PKey
