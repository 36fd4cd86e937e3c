import Derived.Test.YtkiofhmpeokipaaDoorTkL
namespace Go.Proofs.YtkiofhmpeokipaaDoor.PTA
open Go.RowKit Go.Proofs.YtkiofhmpeokipaaDoorW.PrintWords Go.Proofs.YtkiofhmpeokipaaDoorW.PrintLast Go.Proofs.YtkiofhmpeokipaaDoorW.PrintMore
attribute [local go_sem] max2_int min2_int max_two min_two max_three min_three max_four min_four   -- for this text's walks alone
set_option linter.unusedVariables false
set_option linter.unusedSimpArgs false

/-! ### chatelainelaw24_TailClears: function 4 -/
def chatelainelaw24_TailClears.f (a b : Int) (l : List Int) : Option Bool := if ∀ x ∈ l, 0 ≤ x ∧ x < 256 then some true else none
theorem chatelainelaw24_TailClears.calls (a0 a1 : Int) (A2 : Option Addr) (c2 : Nat) (l2 : List Int) (r : Bool) (w : World) (hr2 : Kd.C (Kd.int .u8) w A2 l2.length l2) (hc2 : l2.length ≤ c2) (hg_ : w.cell? ⟨0, 0, none⟩ = some (.iface 93 (.agg #[.pointer (some ⟨1, 28, none⟩)]))) (h : chatelainelaw24_TailClears.f a0 a1 l2 = some r) : Calls Tryd.prog 4 #[.int .i64 a0, .int .i64 a1, .slice A2 l2.length c2] w fun e w' => e = .returned (.bool r) ∧ Below w.heap.size w w' := by
  unfold chatelainelaw24_TailClears.f at h
  split at h
  · rename_i hh
    cases h
    by_cases hl : l2.length ≤ 400
    · by_cases hm : 0 ≤ a0 ∧ a1 ≤ 12 ∧ a0 ≤ a1
      · obtain ⟨a, rfl⟩ := Int.eq_ofNat_of_zero_le hm.1
        obtain ⟨b, rfl⟩ := Int.eq_ofNat_of_zero_le (show 0 ≤ a1 by omega)
        exact LCyes.calls w hg_ a b (b - a) (by omega) (by omega) (by omega) A2 c2 l2 hr2 hc2 hl hh
      · exact LCno.calls w hg_ a0 a1 hm A2 c2 l2 hr2 hc2 hl hh
    · exact LCgreat.calls w a0 a1 A2 c2 l2 (by omega)
  · cases h


/-- THE ONE PURE STATEMENT of chatelainelaw24_TailClears: yours. -/
def chatelainelaw24_TailClears.Pure : Prop := ∀ (a0 : Int) (a1 : Int) (l2 : List Int), (Lit.int .i64 a0).wf = true → (Lit.int .i64 a1).wf = true → l2.length ≤ maxLen → l2.length * 1 ≤ 140737488351232 → (∀ x ∈ l2, (Lit.int .u8 x).wf = true) → chatelainelaw24_TailClears.f a0 a1 l2 = some true
theorem chatelainelaw24_TailClears.walk (P : chatelainelaw24_TailClears.Pure) (a0 : Int) (a1 : Int) (a2 : Option Addr) (len2 cap2 : Nat) (z2 : List Int) (w : World) (w0 : (Lit.int .i64 a0).wf = true) (w1 : (Lit.int .i64 a1).wf = true) (w2 : (a2 = none ∧ len2 = 0 ∧ cap2 = 0 ∧ z2 = []) ∨ ∃ x, a2 = some x ∧ len2 ≤ cap2 ∧ cap2 ≤ maxLen ∧ z2.length = cap2 ∧ (∀ i, i < z2.length → w.cell? (x.add i) = some (.int .u8 (z2.getD i 0))) ∧ ∀ n ∈ z2, (Lit.int .u8 n).wf = true) (y2 : len2 * 1 ≤ 140737488351232) (hg_ : w.cell? ⟨0, 0, none⟩ = some (.iface 93 (.agg #[.pointer (some ⟨1, 28, none⟩)]))) :
    Calls Tryd.prog 4 #[.int .i64 a0, .int .i64 a1, .slice a2 len2 cap2] w fun e w' => e = .returned (.bool true) ∧ Below w.heap.size w w' := by
  obtain ⟨l2, rfl, hr2, hm2, hw2, hc2⟩ := ReadsInt.ofRowC w2
  have h := P a0 a1 l2 w0 w1 hm2 y2 hw2
  refine (chatelainelaw24_TailClears.calls a0 a1 _ _ l2 true w (Kd.C_of_reads (d := (0 : Int)) (h1 := fun _ => rfl) hr2) hc2 hg_ h).mono ?_
  rintro e w' ⟨rfl, hd⟩
  exact ⟨rfl, hd⟩

end Go.Proofs.YtkiofhmpeokipaaDoor.PTA