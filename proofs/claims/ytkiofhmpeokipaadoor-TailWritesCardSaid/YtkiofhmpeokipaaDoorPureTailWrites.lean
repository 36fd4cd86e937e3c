/- A frame's blocks are the document's; where it does not go nothing is written; it is read again from there, and from nowhere else, as nothing else. No condition. -/
import Derived.Test.YtkiofhmpeokipaaDoorLTailWrites
namespace Go.Proofs.YtkiofhmpeokipaaDoor.Pure
open Go.RowKit Go.Proofs.YtkiofhmpeokipaaDoor.PTA Go.Proofs.YtkiofhmpeokipaaDoorW.PrintWords Go.Proofs.YtkiofhmpeokipaaDoorW.PrintLast

theorem wf_u8 {x : Int} (h : (Lit.int .u8 x).wf = true) : 0 ≤ x ∧ x < 256 := by
  simp [Lit.wf, IntKind.min, IntKind.max, IntKind.signed, IntKind.bits] at h
  omega
theorem wf_i64 {a : Int} (h : (Lit.int .i64 a).wf = true) : -9223372036854775808 ≤ a ∧ a ≤ 9223372036854775807 := by
  simp [Lit.wf, IntKind.min, IntKind.max, IntKind.signed, IntKind.bits] at h
  omega
theorem TailWrites : chatelainelaw24_TailWrites.Pure := by
  intro a b g k l h0 h1 h2 h3 _ _ hb
  unfold chatelainelaw24_TailWrites.f
  exact if_pos ⟨fun x hx => wf_u8 (hb x hx), wf_i64 h0, wf_i64 h1, (wf_i64 h2).2, (wf_i64 h3).2⟩

end Go.Proofs.YtkiofhmpeokipaaDoor.Pure
