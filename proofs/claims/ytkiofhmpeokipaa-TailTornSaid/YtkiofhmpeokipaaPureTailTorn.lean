/- Two blocks written and a third torn read back as what was laid. No condition. -/
import Derived.Test.YtkiofhmpeokipaaLTailTorn
namespace Go.Proofs.Ytkiofhmpeokipaa.Pure
open Go.RowKit Go.Proofs.Ytkiofhmpeokipaa.PTA Go.Proofs.YtkiofhmpeokipaaW.PrintWords Go.Proofs.YtkiofhmpeokipaaW.PrintLast

theorem wf_u8 {x : Int} (h : (Lit.int .u8 x).wf = true) : 0 ≤ x ∧ x < 256 := by
  simp [Lit.wf, IntKind.min, IntKind.max, IntKind.signed, IntKind.bits] at h
  omega
theorem wf_i64 {a : Int} (h : (Lit.int .i64 a).wf = true) : -9223372036854775808 ≤ a ∧ a ≤ 9223372036854775807 := by
  simp [Lit.wf, IntKind.min, IntKind.max, IntKind.signed, IntKind.bits] at h
  omega
theorem TailTorn : chatelainelaw24_TailTorn.Pure := by
  intro a b k g s h0 h1 _ _
  unfold chatelainelaw24_TailTorn.f
  exact if_pos ⟨fun x hx => wf_u8 (h0.2.2 x hx), fun x hx => wf_u8 (h1.2.2 x hx)⟩

end Go.Proofs.Ytkiofhmpeokipaa.Pure
