/- High parts are laid poly by poly; one that is too great, or below 0, is refused wherever it stands; so are fewer polys. No condition. -/
import Derived.Test.YtggiddekbocokaaDoorLLayHigh
namespace Go.Proofs.YtggiddekbocokaaDoor.Pure
open Go.RowKit Go.Proofs.YtggiddekbocokaaDoor.PLH Go.Proofs.YtggiddekbocokaaDoorW.PrintWords Go.Proofs.YtggiddekbocokaaDoorW.PrintLast

theorem wf_u8 {x : Int} (h : (Lit.int .u8 x).wf = true) : 0 ≤ x ∧ x < 256 := by
  simp [Lit.wf, IntKind.min, IntKind.max, IntKind.signed, IntKind.bits] at h
  omega
theorem wf_i64 {a : Int} (h : (Lit.int .i64 a).wf = true) : -9223372036854775808 ≤ a ∧ a ≤ 9223372036854775807 := by
  simp [Lit.wf, IntKind.min, IntKind.max, IntKind.signed, IntKind.bits] at h
  omega
theorem LayHigh : chatelainelaw11_LayHigh.Pure := by
  unfold chatelainelaw11_LayHigh.Pure
  intros
  rfl

end Go.Proofs.YtggiddekbocokaaDoor.Pure
