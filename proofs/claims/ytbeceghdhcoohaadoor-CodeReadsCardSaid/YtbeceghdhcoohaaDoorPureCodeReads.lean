/- Whatever is asked of any bytes, one after the other, is answered as the document says. No condition. -/
import Derived.Test.YtbeceghdhcoohaaDoorPCRx1
import Derived.Test.YtbeceghdhcoohaaDoorPCRx4
import Derived.Test.YtbeceghdhcoohaaDoorPCRx5
import Derived.Test.YtbeceghdhcoohaaDoorPCRx6
namespace Go.Proofs.YtbeceghdhcoohaaDoor.Pure
open Go.RowKit Go.Proofs.YtbeceghdhcoohaaDoor.PCR Go.Proofs.YtbeceghdhcoohaaDoorW.PrintWords Go.Proofs.YtbeceghdhcoohaaDoorW.PrintLast Go.Proofs.YtbeceghdhcoohaaDoorW.PrintMore

theorem clone0 (l : List Int) (h : l.length < 1000) : slices_Clone_byte_byte.f l = some l := by
  unfold slices_Clone_byte_byte.f
  rw [Option.bind_some, if_pos (by simp; omega), List.nil_append]
theorem wf_u8 {x : Int} (h : (Lit.int .u8 x).wf = true) : 0 ≤ x ∧ x < 256 := by
  simp [Lit.wf, IntKind.min, IntKind.max, IntKind.signed, IntKind.bits] at h
  omega
theorem CodeReads : chatelainelaw14_CodeReads.Pure := by
  intro l0 l1 h0 _
  refine ⟨100000, ?_⟩
  unfold chatelainelaw14_CodeReads.f
  by_cases g : l0.length > 600 ∨ l1.length > 30
  · rw [if_pos g]
    rfl
  rw [if_neg g, clone0 l0 (by omega), Option.bind_some]
  have h1 : chatelainelaw0_LendBytes.f l0 = some l0 := by
    unfold chatelainelaw0_LendBytes.f
    rw [if_pos (by omega)]
  have h2 : chatelainelaw0_KeptBytes.f 100000 l0 l0 = some true := same_self 100000 l0 (by omega) (by omega)
  have h3 : ∀ x ∈ l0, 0 ≤ x ∧ x < 256 := fun x hx => wf_u8 (h0.2.2 x hx)
  rw [h1, Option.bind_some, h2, Option.bind_some, if_pos]
  simp only [decide_true, Bool.and_true, Bool.true_and, decide_eq_true_eq, Bool.and_eq_true]
  exact ⟨h3, by decide⟩
end Go.Proofs.YtbeceghdhcoohaaDoor.Pure
