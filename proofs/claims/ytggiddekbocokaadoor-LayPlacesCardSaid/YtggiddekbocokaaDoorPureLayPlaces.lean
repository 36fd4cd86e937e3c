/- Hints that were laid are told again; too many are refused; with a byte another one it is other hints, or none. No condition. -/
import Derived.Test.YtggiddekbocokaaDoorPLPx19
import Derived.Test.YtggiddekbocokaaDoorLuC
namespace Go.Proofs.YtggiddekbocokaaDoor.Pure
open Go.RowKit Go.Proofs.YtggiddekbocokaaDoor.PLP Go.Proofs.YtggiddekbocokaaDoorW.PrintWords Go.Proofs.YtggiddekbocokaaDoorW.PrintLast

theorem wf_u8 {x : Int} (h : (Lit.int .u8 x).wf = true) : 0 ≤ x ∧ x < 256 := by
  simp [Lit.wf, IntKind.min, IntKind.max, IntKind.signed, IntKind.bits] at h
  omega
theorem wf_i64 {a : Int} (h : (Lit.int .i64 a).wf = true) : -9223372036854775808 ≤ a ∧ a ≤ 9223372036854775807 := by
  simp [Lit.wf, IntKind.min, IntKind.max, IntKind.signed, IntKind.bits] at h
  omega
theorem LayPlaces : chatelainelaw11_LayPlaces.Pure := by
  unfold chatelainelaw11_LayPlaces.Pure
  intro a0 l1 a2 a3 _ _ _ _ _ h3
  exact places_pure a0 l1 a2 a3 (wf_u8 h3)

end Go.Proofs.YtggiddekbocokaaDoor.Pure
