import Derived.Test.YtagijaijjjaolaaDoorDkR
namespace Go.Proofs.YtagijaijjjaolaaDoor.PBL
open Go.RowKit Go.Proofs.YtagijaijjjaolaaDoorW.PrintWords Go.Proofs.YtagijaijjjaolaaDoorW.PrintLast Go.Proofs.YtagijaijjjaolaaDoorW.PrintMore
attribute [local go_sem] max2_int min2_int max_two min_two max_three min_three max_four min_four   -- for this text's walks alone
set_option linter.unusedVariables false
set_option linter.unusedSimpArgs false

/-! ### chatelainelaw23_BlockNone: function 5 -/
def chatelainelaw23_BlockNone.f (_ : Int) : Option Bool := some true
theorem chatelainelaw23_BlockNone.calls (a0 : Int) (r : Bool) (w : World) (hg_ : w.cell? ⟨0, 0, none⟩ = some (.iface 94 (.agg #[.pointer (some ⟨1, 28, none⟩)]))) (h : chatelainelaw23_BlockNone.f a0 = some r) : Calls Tryd.prog 5 #[.int .i64 a0] w fun e w' => e = .returned (.bool r) ∧ Below w.heap.size w w' := by
  cases h
  exact BNo.calls a0 w hg_


/-- THE ONE PURE STATEMENT of chatelainelaw23_BlockNone: yours. -/
def chatelainelaw23_BlockNone.Pure : Prop := ∀ (a0 : Int), (Lit.int .i64 a0).wf = true → chatelainelaw23_BlockNone.f a0 = some true
theorem chatelainelaw23_BlockNone.walk (P : chatelainelaw23_BlockNone.Pure) (a0 : Int) (w : World) (w0 : (Lit.int .i64 a0).wf = true) (hg_ : w.cell? ⟨0, 0, none⟩ = some (.iface 94 (.agg #[.pointer (some ⟨1, 28, none⟩)]))) :
    Calls Tryd.prog 5 #[.int .i64 a0] w fun e w' => e = .returned (.bool true) ∧ Below w.heap.size w w' := by
  have h := P a0 w0
  refine (chatelainelaw23_BlockNone.calls a0 true w hg_ h).mono ?_
  rintro e w' ⟨rfl, hd⟩
  exact ⟨rfl, hd⟩

end Go.Proofs.YtagijaijjjaolaaDoor.PBL