import Derived.Test.YtkiofhmpeokipaaTkS
namespace Go.Proofs.Ytkiofhmpeokipaa.PTA
open Go.RowKit Go.Proofs.YtkiofhmpeokipaaW.PrintWords Go.Proofs.YtkiofhmpeokipaaW.PrintLast Go.Proofs.YtkiofhmpeokipaaW.PrintMore
attribute [local go_sem] max2_int min2_int max_two min_two max_three min_three max_four min_four   -- for this text's walks alone
set_option linter.unusedVariables false
set_option linter.unusedSimpArgs false

/-! ### chatelainelaw24_TailReads: function 3 -/
def chatelainelaw24_TailReads.f (ls : List (List Int)) (_ : List Int) (_ : Int) (b : Int) (_ : Int) (_ : Int) : Option Bool := if (∀ l ∈ ls, ∀ x ∈ l, 0 ≤ x ∧ x < 256) ∧ 0 ≤ b ∧ b < 256 then some true else none
theorem chatelainelaw24_TailReads.calls (A0 : Option Addr) (c0 : Nat) (l0 : List (List Int)) (A1 : Option Addr) (c1 : Nat) (l1 : List Int) (a2 : Int) (a3 : Int) (a4 : Int) (a5 : Int) (r : Bool) (w : World) (hr0 : Kd.C (Kd.slice 5 (Kd.int .u8)) w A0 l0.length l0) (hc0 : l0.length ≤ c0) (hr1 : Kd.C (Kd.int .i64) w A1 l1.length l1) (hc1 : l1.length ≤ c1) (h : chatelainelaw24_TailReads.f l0 l1 a2 a3 a4 a5 = some r) : Calls Try.prog 3 #[.slice A0 l0.length c0, .slice A1 l1.length c1, .int .i64 a2, .int .u8 a3, .int .i64 a4, .int .i64 a5] w fun e w' => e = .returned (.bool r) ∧ Below w.heap.size w w' := by
  unfold chatelainelaw24_TailReads.f at h
  split at h
  · rename_i hh
    cases h
    by_cases h1 : l0.length ≤ 8
    · by_cases h2 : l1.length ≤ 8
      · exact LReads.calls w a2 a3 a4 a5 A0 A1 c0 c1 l0 l1 hr0 hr1 h1 h2 hh.1 hh.2
      · exact LSb.calls w a2 a3 a4 a5 A0 A1 _ _ c0 c1 h1 (by omega)
    · exact LSa.calls w a2 a3 a4 a5 A0 A1 _ _ c0 c1 (by omega)
  · cases h


/-- THE ONE PURE STATEMENT of chatelainelaw24_TailReads: yours. -/
def chatelainelaw24_TailReads.Pure : Prop := ∀ (l0 : List (List Int)) (l1 : List Int) (a2 : Int) (a3 : Int) (a4 : Int) (a5 : Int), (l0.length ≤ maxLen ∧ l0.length * 24 ≤ 140737488351232 ∧ ∀ y0_ ∈ l0, y0_.length ≤ maxLen ∧ y0_.length * 1 ≤ 140737488351232 ∧ ∀ y1_ ∈ y0_, (Lit.int .u8 y1_).wf = true) → (l1.length ≤ maxLen ∧ l1.length * 8 ≤ 140737488351232 ∧ ∀ y0_ ∈ l1, (Lit.int .i64 y0_).wf = true) → ((Lit.int .i64 a2).wf = true) → ((Lit.int .u8 a3).wf = true) → ((Lit.int .i64 a4).wf = true) → ((Lit.int .i64 a5).wf = true) → chatelainelaw24_TailReads.f l0 l1 a2 a3 a4 a5 = some true
theorem chatelainelaw24_TailReads.walk (P_ : chatelainelaw24_TailReads.Pure) (A0 : Option Addr) (c0 : Nat) (l0 : List (List Int)) (A1 : Option Addr) (c1 : Nat) (l1 : List Int) (a2 : Int) (a3 : Int) (a4 : Int) (a5 : Int) (w : World) (hr0 : Kd.C (Kd.slice 5 (Kd.int .u8)) w A0 l0.length l0) (hc0 : l0.length ≤ c0) (hr1 : Kd.C (Kd.int .i64) w A1 l1.length l1) (hc1 : l1.length ≤ c1) (hq0 : l0.length ≤ maxLen ∧ l0.length * 24 ≤ 140737488351232 ∧ ∀ y0_ ∈ l0, y0_.length ≤ maxLen ∧ y0_.length * 1 ≤ 140737488351232 ∧ ∀ y1_ ∈ y0_, (Lit.int .u8 y1_).wf = true) (hq1 : l1.length ≤ maxLen ∧ l1.length * 8 ≤ 140737488351232 ∧ ∀ y0_ ∈ l1, (Lit.int .i64 y0_).wf = true) (hq2 : (Lit.int .i64 a2).wf = true) (hq3 : (Lit.int .u8 a3).wf = true) (hq4 : (Lit.int .i64 a4).wf = true) (hq5 : (Lit.int .i64 a5).wf = true) :
    Calls Try.prog 3 #[.slice A0 l0.length c0, .slice A1 l1.length c1, .int .i64 a2, .int .u8 a3, .int .i64 a4, .int .i64 a5] w fun e w' => e = .returned (.bool true) ∧ Below w.heap.size w w' := by
  have h := P_ l0 l1 a2 a3 a4 a5 hq0 hq1 hq2 hq3 hq4 hq5
  refine (chatelainelaw24_TailReads.calls A0 c0 l0 A1 c1 l1 a2 a3 a4 a5 true w hr0 hc0 hr1 hc1 h).mono ?_
  rintro e w' ⟨rfl, hd⟩
  exact ⟨rfl, hd⟩

end Go.Proofs.Ytkiofhmpeokipaa.PTA