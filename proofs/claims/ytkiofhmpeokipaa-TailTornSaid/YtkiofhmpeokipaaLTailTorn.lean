import Derived.Test.YtkiofhmpeokipaaTkT
namespace Go.Proofs.Ytkiofhmpeokipaa.PTA
open Go.RowKit Go.Proofs.YtkiofhmpeokipaaW.PrintWords Go.Proofs.YtkiofhmpeokipaaW.PrintLast Go.Proofs.YtkiofhmpeokipaaW.PrintMore
attribute [local go_sem] max2_int min2_int max_two min_two max_three min_three max_four min_four   -- for this text's walks alone
set_option linter.unusedVariables false
set_option linter.unusedSimpArgs false

/-! ### chatelainelaw24_TailTorn: function 5 -/
def chatelainelaw24_TailTorn.f (a b : List Int) (_ : List Bool) (_ : Int) (_ : Bool) : Option Bool := if (∀ x ∈ a, 0 ≤ x ∧ x < 256) ∧ (∀ x ∈ b, 0 ≤ x ∧ x < 256) then some true else none
theorem chatelainelaw24_TailTorn.calls (A0 : Option Addr) (c0 : Nat) (l0 : List Int) (A1 : Option Addr) (c1 : Nat) (l1 : List Int) (A2 : Option Addr) (c2 : Nat) (l2 : List Bool) (a3 : Int) (a4 : Bool) (r : Bool) (w : World) (hr0 : Kd.C (Kd.int .u8) w A0 l0.length l0) (hc0 : l0.length ≤ c0) (hr1 : Kd.C (Kd.int .u8) w A1 l1.length l1) (hc1 : l1.length ≤ c1) (hr2 : Kd.C Kd.bool w A2 l2.length l2) (hc2 : l2.length ≤ c2) (h : chatelainelaw24_TailTorn.f l0 l1 l2 a3 a4 = some r) : Calls Try.prog 5 #[.slice A0 l0.length c0, .slice A1 l1.length c1, .slice A2 l2.length c2, .int .i64 a3, .bool a4] w fun e w' => e = .returned (.bool r) ∧ Below w.heap.size w w' := by
  unfold chatelainelaw24_TailTorn.f at h
  split at h
  · rename_i hh
    cases h
    by_cases h1 : l0.length ≤ 1500
    · by_cases h2 : l1.length ≤ 1500
      · by_cases h3 : l2.length ≤ 20
        · cases a4
          · exact LTdiff.calls w a3 A0 A1 A2 c0 c1 c2 l0 l1 l2 hr0 hc0 hr1 hc1 hr2 hc2 h1 h2 h3 hh.1 hh.2
          · exact LTsame.calls w a3 A0 A1 A2 c0 c1 c2 l0 l1 l2 hr0 hc0 hr1 hc1 hr2 hc2 h1 h2 h3 hh.1 hh.2
        · exact LTk.calls w a3 a4 A0 A1 A2 _ _ _ c0 c1 c2 h1 h2 (by omega)
      · exact LTb.calls w a3 a4 A0 A1 A2 _ _ _ c0 c1 c2 h1 (by omega)
    · exact LTa.calls w a3 a4 A0 A1 A2 _ _ _ c0 c1 c2 (by omega)
  · cases h


/-- THE ONE PURE STATEMENT of chatelainelaw24_TailTorn: yours. -/
def chatelainelaw24_TailTorn.Pure : Prop := ∀ (l0 : List Int) (l1 : List Int) (l2 : List Bool) (a3 : Int) (a4 : Bool), (l0.length ≤ maxLen ∧ l0.length * 1 ≤ 140737488351232 ∧ ∀ y0_ ∈ l0, (Lit.int .u8 y0_).wf = true) → (l1.length ≤ maxLen ∧ l1.length * 1 ≤ 140737488351232 ∧ ∀ y0_ ∈ l1, (Lit.int .u8 y0_).wf = true) → (l2.length ≤ maxLen ∧ l2.length * 1 ≤ 140737488351232 ∧ ∀ y0_ ∈ l2, True) → ((Lit.int .i64 a3).wf = true) → chatelainelaw24_TailTorn.f l0 l1 l2 a3 a4 = some true
theorem chatelainelaw24_TailTorn.walk (P_ : chatelainelaw24_TailTorn.Pure) (A0 : Option Addr) (c0 : Nat) (l0 : List Int) (A1 : Option Addr) (c1 : Nat) (l1 : List Int) (A2 : Option Addr) (c2 : Nat) (l2 : List Bool) (a3 : Int) (a4 : Bool) (w : World) (hr0 : Kd.C (Kd.int .u8) w A0 l0.length l0) (hc0 : l0.length ≤ c0) (hr1 : Kd.C (Kd.int .u8) w A1 l1.length l1) (hc1 : l1.length ≤ c1) (hr2 : Kd.C Kd.bool w A2 l2.length l2) (hc2 : l2.length ≤ c2) (hq0 : l0.length ≤ maxLen ∧ l0.length * 1 ≤ 140737488351232 ∧ ∀ y0_ ∈ l0, (Lit.int .u8 y0_).wf = true) (hq1 : l1.length ≤ maxLen ∧ l1.length * 1 ≤ 140737488351232 ∧ ∀ y0_ ∈ l1, (Lit.int .u8 y0_).wf = true) (hq2 : l2.length ≤ maxLen ∧ l2.length * 1 ≤ 140737488351232 ∧ ∀ y0_ ∈ l2, True) (hq3 : (Lit.int .i64 a3).wf = true) :
    Calls Try.prog 5 #[.slice A0 l0.length c0, .slice A1 l1.length c1, .slice A2 l2.length c2, .int .i64 a3, .bool a4] w fun e w' => e = .returned (.bool true) ∧ Below w.heap.size w w' := by
  have h := P_ l0 l1 l2 a3 a4 hq0 hq1 hq2 hq3
  refine (chatelainelaw24_TailTorn.calls A0 c0 l0 A1 c1 l1 A2 c2 l2 a3 a4 true w hr0 hc0 hr1 hc1 hr2 hc2 h).mono ?_
  rintro e w' ⟨rfl, hd⟩
  exact ⟨rfl, hd⟩

end Go.Proofs.Ytkiofhmpeokipaa.PTA