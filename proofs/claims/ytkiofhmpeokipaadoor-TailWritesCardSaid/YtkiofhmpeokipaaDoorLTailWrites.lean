import Derived.Test.YtkiofhmpeokipaaDoorTkK
namespace Go.Proofs.YtkiofhmpeokipaaDoor.PTA
open Go.RowKit Go.Proofs.YtkiofhmpeokipaaDoorW.PrintWords Go.Proofs.YtkiofhmpeokipaaDoorW.PrintLast Go.Proofs.YtkiofhmpeokipaaDoorW.PrintMore
attribute [local go_sem] max2_int min2_int max_two min_two max_three min_three max_four min_four   -- for this text's walks alone
set_option linter.unusedVariables false
set_option linter.unusedSimpArgs false

/-! ### chatelainelaw24_TailWrites: function 3 -/
def chatelainelaw24_TailWrites.f (a b g k : Int) (l : List Int) : Option Bool := if (∀ x ∈ l, 0 ≤ x ∧ x < 256) ∧ (-9223372036854775808 ≤ a ∧ a ≤ 9223372036854775807) ∧ (-9223372036854775808 ≤ b ∧ b ≤ 9223372036854775807) ∧ g ≤ 9223372036854775807 ∧ k ≤ 9223372036854775807 then some true else none
theorem chatelainelaw24_TailWrites.calls (a0 a1 a2 a3 : Int) (A4 : Option Addr) (c4 : Nat) (l4 : List Int) (r : Bool) (w : World) (hr4 : Kd.C (Kd.int .u8) w A4 l4.length l4) (hc4 : l4.length ≤ c4) (hg_ : w.cell? ⟨0, 0, none⟩ = some (.iface 93 (.agg #[.pointer (some ⟨1, 28, none⟩)]))) (h : chatelainelaw24_TailWrites.f a0 a1 a2 a3 l4 = some r) : Calls Tryd.prog 3 #[.int .i64 a0, .int .i64 a1, .int .i64 a2, .int .i64 a3, .slice A4 l4.length c4] w fun e w' => e = .returned (.bool r) ∧ Below w.heap.size w w' := by
  unfold chatelainelaw24_TailWrites.f at h
  split at h
  · rename_i hh
    cases h
    by_cases hl : l4.length ≤ 3000
    · exact LWok.calls w hg_ a0 a1 a2 a3 A4 c4 l4 hr4 hc4 hl hh.1 hh.2.2.2.1 hh.2.2.2.2 hh.2.1.1 hh.2.1.2 hh.2.2.1.1 hh.2.2.1.2
    · exact LWgreat.calls w a0 a1 a2 a3 A4 c4 l4 (by omega)
  · cases h


/-- THE ONE PURE STATEMENT of chatelainelaw24_TailWrites: yours. -/
def chatelainelaw24_TailWrites.Pure : Prop := ∀ (a0 : Int) (a1 : Int) (a2 : Int) (a3 : Int) (l4 : List Int), (Lit.int .i64 a0).wf = true → (Lit.int .i64 a1).wf = true → (Lit.int .i64 a2).wf = true → (Lit.int .i64 a3).wf = true → l4.length ≤ maxLen → l4.length * 1 ≤ 140737488351232 → (∀ x ∈ l4, (Lit.int .u8 x).wf = true) → chatelainelaw24_TailWrites.f a0 a1 a2 a3 l4 = some true
theorem chatelainelaw24_TailWrites.walk (P : chatelainelaw24_TailWrites.Pure) (a0 : Int) (a1 : Int) (a2 : Int) (a3 : Int) (a4 : Option Addr) (len4 cap4 : Nat) (z4 : List Int) (w : World) (w0 : (Lit.int .i64 a0).wf = true) (w1 : (Lit.int .i64 a1).wf = true) (w2 : (Lit.int .i64 a2).wf = true) (w3 : (Lit.int .i64 a3).wf = true) (w4 : (a4 = none ∧ len4 = 0 ∧ cap4 = 0 ∧ z4 = []) ∨ ∃ x, a4 = some x ∧ len4 ≤ cap4 ∧ cap4 ≤ maxLen ∧ z4.length = cap4 ∧ (∀ i, i < z4.length → w.cell? (x.add i) = some (.int .u8 (z4.getD i 0))) ∧ ∀ n ∈ z4, (Lit.int .u8 n).wf = true) (y4 : len4 * 1 ≤ 140737488351232) (hg_ : w.cell? ⟨0, 0, none⟩ = some (.iface 93 (.agg #[.pointer (some ⟨1, 28, none⟩)]))) :
    Calls Tryd.prog 3 #[.int .i64 a0, .int .i64 a1, .int .i64 a2, .int .i64 a3, .slice a4 len4 cap4] w fun e w' => e = .returned (.bool true) ∧ Below w.heap.size w w' := by
  obtain ⟨l4, rfl, hr4, hm4, hw4, hc4⟩ := ReadsInt.ofRowC w4
  have h := P a0 a1 a2 a3 l4 w0 w1 w2 w3 hm4 y4 hw4
  refine (chatelainelaw24_TailWrites.calls a0 a1 a2 a3 _ _ l4 true w (Kd.C_of_reads (d := (0 : Int)) (h1 := fun _ => rfl) hr4) hc4 hg_ h).mono ?_
  rintro e w' ⟨rfl, hd⟩
  exact ⟨rfl, hd⟩

end Go.Proofs.YtkiofhmpeokipaaDoor.PTA