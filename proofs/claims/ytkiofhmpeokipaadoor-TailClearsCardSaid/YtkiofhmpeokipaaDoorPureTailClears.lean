/- What is cleared is zeros, and nothing else is; of nothing nothing is read. No condition. -/
import Derived.Test.YtkiofhmpeokipaaDoorLTailClears
namespace Go.Proofs.YtkiofhmpeokipaaDoor.Pure
open Go.RowKit Go.Proofs.YtkiofhmpeokipaaDoor.PTA Go.Proofs.YtkiofhmpeokipaaDoorW.PrintWords Go.Proofs.YtkiofhmpeokipaaDoorW.PrintLast

theorem wf_u8 {x : Int} (h : (Lit.int .u8 x).wf = true) : 0 ≤ x ∧ x < 256 := by
  simp [Lit.wf, IntKind.min, IntKind.max, IntKind.signed, IntKind.bits] at h
  omega
theorem wf_i64 {a : Int} (h : (Lit.int .i64 a).wf = true) : -9223372036854775808 ≤ a ∧ a ≤ 9223372036854775807 := by
  simp [Lit.wf, IntKind.min, IntKind.max, IntKind.signed, IntKind.bits] at h
  omega
theorem TailClears : chatelainelaw24_TailClears.Pure := by
  intro a b l h0 h1 _ _ hb
  unfold chatelainelaw24_TailClears.f
  exact if_pos fun x hx => wf_u8 (hb x hx)

end Go.Proofs.YtkiofhmpeokipaaDoor.Pure
