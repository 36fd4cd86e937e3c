import Derived.Test.YtggiddekbocokaaDoorLhA
namespace Go.Proofs.YtggiddekbocokaaDoor.PLH
open Go.RowKit Go.Proofs.YtggiddekbocokaaDoorW.PrintWords Go.Proofs.YtggiddekbocokaaDoorW.PrintLast Go.Proofs.YtggiddekbocokaaDoorW.PrintMore
attribute [local go_sem] max2_int min2_int max_two min_two max_three min_three max_four min_four   -- for this text's walks alone
set_option linter.unusedVariables false
set_option linter.unusedSimpArgs false

/-! ### chatelainelaw11_LayHigh: function 3 -/
def chatelainelaw11_LayHigh.f (_ : Int) (_ : List Int) (_ : Int) (_ : Int) : Option Bool := some true
theorem chatelainelaw11_LayHigh.calls (a0 : Int) (A1 : Option Addr) (c1 : Nat) (l1 : List Int) (a2 : Int) (a3 : Int) (r : Bool) (w : World) (hr1 : Kd.C (Kd.int .i64) w A1 l1.length l1) (hc1 : l1.length ≤ c1) (hg_ : w.cell? ⟨0, 0, none⟩ = some (.iface 108 (.agg #[.pointer (some ⟨1, 33, none⟩)]))) (h : chatelainelaw11_LayHigh.f a0 l1 a2 a3 = some r) : Calls Tryd.prog 3 #[.int .i64 a0, .slice A1 l1.length c1, .int .i64 a2, .int .i64 a3] w fun e w' => e = .returned (.bool r) ∧ Below w.heap.size w w' := by
  cases h
  by_cases h1 : l1.length ≤ 100
  · by_cases h2 : l1.length = 0
    · exact LHnil.calls w hg_ a0 a2 a3 A1 _ c1 h2
    · obtain ⟨s, hs, hf⟩ := LayM.low_ok a0 3 (by decide) (by decide)
      rcases (by omega : s = 0 ∨ s = 1 ∨ s = 2) with rfl | rfl | rfl
      · exact LH1.calls w hg_ a0 a2 a3 A1 c1 l1 hr1 hc1 (by omega) h1 hf
      · exact LH2.calls w hg_ a0 a2 a3 A1 c1 l1 hr1 hc1 (by omega) h1 hf
      · exact LH3.calls w hg_ a0 a2 a3 A1 c1 l1 hr1 hc1 (by omega) h1 hf
  · exact LHgreat.calls w hg_ a0 a2 a3 A1 _ c1 (by omega)


/-- THE ONE PURE STATEMENT of chatelainelaw11_LayHigh: yours. -/
def chatelainelaw11_LayHigh.Pure : Prop := ∀ (a0 : Int) (l1 : List Int) (a2 : Int) (a3 : Int), (Lit.int .i64 a0).wf = true → l1.length ≤ maxLen → l1.length * 8 ≤ 140737488351232 → (∀ x ∈ l1, (Lit.int .i64 x).wf = true) → (Lit.int .i64 a2).wf = true → (Lit.int .i64 a3).wf = true → chatelainelaw11_LayHigh.f a0 l1 a2 a3 = some true
theorem chatelainelaw11_LayHigh.walk (P : chatelainelaw11_LayHigh.Pure) (a0 : Int) (a1 : Option Addr) (len1 cap1 : Nat) (z1 : List Int) (a2 : Int) (a3 : Int) (w : World) (w0 : (Lit.int .i64 a0).wf = true) (w1 : (a1 = none ∧ len1 = 0 ∧ cap1 = 0 ∧ z1 = []) ∨ ∃ x, a1 = some x ∧ len1 ≤ cap1 ∧ cap1 ≤ maxLen ∧ z1.length = cap1 ∧ (∀ i, i < z1.length → w.cell? (x.add i) = some (.int .i64 (z1.getD i 0))) ∧ ∀ n ∈ z1, (Lit.int .i64 n).wf = true) (y1 : len1 * 8 ≤ 140737488351232) (w2 : (Lit.int .i64 a2).wf = true) (w3 : (Lit.int .i64 a3).wf = true) (hg_ : w.cell? ⟨0, 0, none⟩ = some (.iface 108 (.agg #[.pointer (some ⟨1, 33, none⟩)]))) :
    Calls Tryd.prog 3 #[.int .i64 a0, .slice a1 len1 cap1, .int .i64 a2, .int .i64 a3] w fun e w' => e = .returned (.bool true) ∧ Below w.heap.size w w' := by
  obtain ⟨l1, rfl, hr1, hm1, hw1, hc1⟩ := ReadsInt.ofRowC w1
  have h := P a0 l1 a2 a3 w0 hm1 y1 hw1 w2 w3
  refine (chatelainelaw11_LayHigh.calls a0 _ _ l1 a2 a3 true w (Kd.C_of_reads (d := (0 : Int)) (h1 := fun _ => rfl) hr1) hc1 hg_ h).mono ?_
  rintro e w' ⟨rfl, hd⟩
  exact ⟨rfl, hd⟩

end Go.Proofs.YtggiddekbocokaaDoor.PLH