/- Whatever stands in blocks, just the document's frames are read. No condition. -/
import Derived.Test.YtkiofhmpeokipaaLTailReads
namespace Go.Proofs.Ytkiofhmpeokipaa.Pure
open Go.RowKit Go.Proofs.Ytkiofhmpeokipaa.PTA Go.Proofs.YtkiofhmpeokipaaW.PrintWords Go.Proofs.YtkiofhmpeokipaaW.PrintLast

theorem wf_u8 {x : Int} (h : (Lit.int .u8 x).wf = true) : 0 ≤ x ∧ x < 256 := by
  simp [Lit.wf, IntKind.min, IntKind.max, IntKind.signed, IntKind.bits] at h
  omega
theorem wf_i64 {a : Int} (h : (Lit.int .i64 a).wf = true) : -9223372036854775808 ≤ a ∧ a ≤ 9223372036854775807 := by
  simp [Lit.wf, IntKind.min, IntKind.max, IntKind.signed, IntKind.bits] at h
  omega
theorem TailReads : chatelainelaw24_TailReads.Pure := by
  intro ls gs a b g k h0 _ _ h3 _ _
  unfold chatelainelaw24_TailReads.f
  exact if_pos ⟨fun l hl x hx => wf_u8 ((h0.2.2 l hl).2.2 x hx), wf_u8 h3⟩

end Go.Proofs.Ytkiofhmpeokipaa.Pure
