import Derived.Test.YtkiofhmpeokipaaTkR
namespace Go.Proofs.Ytkiofhmpeokipaa.PTA
open Go.RowKit Go.Proofs.YtkiofhmpeokipaaW.PrintWords Go.Proofs.YtkiofhmpeokipaaW.PrintLast Go.Proofs.YtkiofhmpeokipaaW.PrintMore
attribute [local go_sem] max2_int min2_int max_two min_two max_three min_three max_four min_four   -- for this text's walks alone
set_option linter.unusedVariables false
set_option linter.unusedSimpArgs false

/-! ### chatelainelaw24_TailRows: function 4 -/
def chatelainelaw24_TailRows.f (ls : List (List Int)) (_ : Int) (_ : Int) : Option Bool := if ∀ l ∈ ls, ∀ x ∈ l, 0 ≤ x ∧ x < 256 then some true else none
theorem chatelainelaw24_TailRows.calls (A0 : Option Addr) (c0 : Nat) (l0 : List (List Int)) (a1 : Int) (a2 : Int) (r : Bool) (w : World) (hr0 : Kd.C (Kd.slice 5 (Kd.int .u8)) w A0 l0.length l0) (hc0 : l0.length ≤ c0) (h : chatelainelaw24_TailRows.f l0 a1 a2 = some r) : Calls Try.prog 4 #[.slice A0 l0.length c0, .int .i64 a1, .int .i64 a2] w fun e w' => e = .returned (.bool r) ∧ Below w.heap.size w w' := by
  unfold chatelainelaw24_TailRows.f at h
  split at h
  · rename_i hh
    cases h
    by_cases h1 : l0.length ≤ 10
    · exact LRows.calls w a1 a2 A0 c0 l0 hr0 h1 hh
    · exact LRgreat.calls w a1 a2 A0 _ c0 (by omega)
  · cases h


/-- THE ONE PURE STATEMENT of chatelainelaw24_TailRows: yours. -/
def chatelainelaw24_TailRows.Pure : Prop := ∀ (l0 : List (List Int)) (a1 : Int) (a2 : Int), (l0.length ≤ maxLen ∧ l0.length * 24 ≤ 140737488351232 ∧ ∀ y0_ ∈ l0, y0_.length ≤ maxLen ∧ y0_.length * 1 ≤ 140737488351232 ∧ ∀ y1_ ∈ y0_, (Lit.int .u8 y1_).wf = true) → ((Lit.int .i64 a1).wf = true) → ((Lit.int .i64 a2).wf = true) → chatelainelaw24_TailRows.f l0 a1 a2 = some true
theorem chatelainelaw24_TailRows.walk (P_ : chatelainelaw24_TailRows.Pure) (A0 : Option Addr) (c0 : Nat) (l0 : List (List Int)) (a1 : Int) (a2 : Int) (w : World) (hr0 : Kd.C (Kd.slice 5 (Kd.int .u8)) w A0 l0.length l0) (hc0 : l0.length ≤ c0) (hq0 : l0.length ≤ maxLen ∧ l0.length * 24 ≤ 140737488351232 ∧ ∀ y0_ ∈ l0, y0_.length ≤ maxLen ∧ y0_.length * 1 ≤ 140737488351232 ∧ ∀ y1_ ∈ y0_, (Lit.int .u8 y1_).wf = true) (hq1 : (Lit.int .i64 a1).wf = true) (hq2 : (Lit.int .i64 a2).wf = true) :
    Calls Try.prog 4 #[.slice A0 l0.length c0, .int .i64 a1, .int .i64 a2] w fun e w' => e = .returned (.bool true) ∧ Below w.heap.size w w' := by
  have h := P_ l0 a1 a2 hq0 hq1 hq2
  refine (chatelainelaw24_TailRows.calls A0 c0 l0 a1 a2 true w hr0 hc0 h).mono ?_
  rintro e w' ⟨rfl, hd⟩
  exact ⟨rfl, hd⟩

end Go.Proofs.Ytkiofhmpeokipaa.PTA