/- Frames that are written one behind the other are read one by one. No condition. -/
import Derived.Test.YtkiofhmpeokipaaLTailRows
namespace Go.Proofs.Ytkiofhmpeokipaa.Pure
open Go.RowKit Go.Proofs.Ytkiofhmpeokipaa.PTA Go.Proofs.YtkiofhmpeokipaaW.PrintWords Go.Proofs.YtkiofhmpeokipaaW.PrintLast

theorem wf_u8 {x : Int} (h : (Lit.int .u8 x).wf = true) : 0 ≤ x ∧ x < 256 := by
  simp [Lit.wf, IntKind.min, IntKind.max, IntKind.signed, IntKind.bits] at h
  omega
theorem wf_i64 {a : Int} (h : (Lit.int .i64 a).wf = true) : -9223372036854775808 ≤ a ∧ a ≤ 9223372036854775807 := by
  simp [Lit.wf, IntKind.min, IntKind.max, IntKind.signed, IntKind.bits] at h
  omega
theorem TailRows : chatelainelaw24_TailRows.Pure := by
  intro ls a b h0 _ _
  unfold chatelainelaw24_TailRows.f
  exact if_pos fun l hl x hx => wf_u8 ((h0.2.2 l hl).2.2 x hx)

end Go.Proofs.Ytkiofhmpeokipaa.Pure
