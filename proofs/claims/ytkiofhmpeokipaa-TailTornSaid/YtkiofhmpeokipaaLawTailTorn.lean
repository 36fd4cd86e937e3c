-- By a program of this session (wip/myprint.sh) out of the translation; Lean checks it.
import Derived.Test.YtkiofhmpeokipaaRows
import Derived.Test.YtkiofhmpeokipaaLTailTorn
import Derived.Test.YtkiofhmpeokipaaPureTailTorn
import Derived.WalkKit
import Derived.ProofKit
import Derived.OpenShut
import Derived.ShutString
import Derived.ChangeOld
import Derived.Below
import Derived.SizedLaws
import Derived.Test.YtkiofhmpeokipaaWSized
namespace Go.Proofs.Ytkiofhmpeokipaa.tailTorn
open Go.RowKit Go.Proofs.Ytkiofhmpeokipaa.PTA Go.Proofs.YtkiofhmpeokipaaW.PrintWords Go.Proofs.YtkiofhmpeokipaaW.PrintLast
open Go.ChangeShapes Go.WideShapes Go.ChangeAt Go.RowKit
open Go.ChangeMaps (open_string shut_string)
set_option linter.unusedVariables false
theorem own : ownKnob Try.prog.godebug = none := by kernel_rfl
theorem laidOut : laidOutB Try.prog = true := by kernel_rfl
def IsRow (k : IntKind) (w : World) (a : Option Addr) (len cap : Nat) (zs : List Int) : Prop :=
  (a = none ∧ len = 0 ∧ cap = 0 ∧ zs = []) ∨
  ∃ x, a = some x ∧ len ≤ cap ∧ cap ≤ maxLen ∧ zs.length = cap ∧ (∀ i, i < zs.length → w.cell? (x.add i) = some (.int k (zs.getD i 0))) ∧ ∀ n ∈ zs, (Lit.int k n).wf = true
set_option maxRecDepth 100000 in
theorem lifted (os : Os) (started : os.Started) (H : Type) (enc : TypeId × Value → H) :
    ReturnsInHanded {} Try.checked os 5 .any (Rows.tailTornSpec.pre6 enc Try.prog Try.f5 Rows.tailTornRow.domain false) (Rows.tailTornSpec.post enc Try.prog Try.f5 false true false false) := by
  refine returnsInHanded_of_change_sized (C := Try.checked) own started (by kernel_rfl) Try.func5
    (ChangeSpec.witness6 (enc := enc) (C := Try.checked) false ⟨#[], #[.slice none 0 0, .slice none 0 0, .slice none 0 0, .int .i64 0, .bool false], []⟩ 8 (by kernel_rfl) (by kernel_rfl) (by kernel_rfl) (by kernel_rfl)) ?_
  intro W base args ds gs before hval0 hW hcnd hsz0 _
  have hsz : (DataW.weightsEach Try.prog (Try.f5.params.toList ++ Rows.tailTornSpec.plain.varTypes Try.prog) (ds ++ gs)).all (· ≤ reachBytes) = true := hsz0
  have hval : ∀ (j : Nat) t v, Try.f5.params[j]? = some t → args[j]? = some v → Value.okWide Try.prog W .any base t v := hval0
  have hW' := hW
  obtain ⟨p, q, hA0, hV, rfl, hfz, hnd⟩ := hW
  have hA : DataW.TrodAll enc Try.prog W 0 (fun _ => true) true Try.f5.params.toList args.toList ds p := hA0
  rw [Try.params5] at hA hval hsz
  obtain ⟨v0, vs0, d0, ds0, p0, q0, hargs, rfl, rfl, h0, r0⟩ := trodAll_cons hA
  obtain ⟨v1, vs1, d1, ds1, p1, q1, rfl, rfl, rfl, h1, r1⟩ := trodAll_cons r0
  obtain ⟨v2, vs2, d2, ds2, p2, q2, rfl, rfl, rfl, h2, r2⟩ := trodAll_cons r1
  obtain ⟨v3, vs3, d3, ds3, p3, q3, rfl, rfl, rfl, h3, r3⟩ := trodAll_cons r2
  obtain ⟨v4, vs4, d4, ds4, p4, q4, rfl, rfl, rfl, h4, r4⟩ := trodAll_cons r3
  obtain ⟨rfl, rfl, rfl⟩ := trodAll_nil r4
  obtain rfl : args = #[v0, v1, v2, v3, v4] := by cases args; simp_all
  obtain ⟨rfl, rfl⟩ := trodVars_none hV
  obtain ⟨a0, len0, cap0, rfl⟩ := okWide_slice Try.underlying27 (hval 0 27 v0 rfl rfl)
  have k0 := h0
  have lt0 : ∀ x ∈ p0, x.block < W.heap.size := by obtain ⟨m, hm⟩ := k0; exact DataW.trod_lt m _ _ _ hm
  obtain ⟨x0, hk0, hq0⟩ : ∃ p, Kd.K (Kd.slice 5 (Kd.int .u8)) W p [.slice a0 len0 cap0] ∧ (p.length ≤ maxLen ∧ p.length * 1 ≤ 140737488351232 ∧ ∀ y0_ ∈ p, (Lit.int .u8 y0_).wf = true) := by
    obtain ⟨fuel, hf⟩ := h0
    exact (Opens.slice (d := (Kd.int .u8)) Try.underlying27 (by kernel_rfl) (B := 1) (by kernel_rfl) (Opens.int Try.underlying5)) H enc W fuel _ _ hf (Fits.of_each hsz (j := 0) (t := 27) rfl rfl)
  obtain ⟨A0, c0, he0, hc0, hr0⟩ := hk0
  obtain ⟨e1, e2, e3⟩ := Value.slice.inj (List.cons.inj he0).1
  subst e1 e2 e3
  obtain ⟨a1, len1, cap1, rfl⟩ := okWide_slice Try.underlying27 (hval 1 27 v1 rfl rfl)
  have k1 := h1
  have lt1 : ∀ x ∈ p1, x.block < W.heap.size := by obtain ⟨m, hm⟩ := k1; exact DataW.trod_lt m _ _ _ hm
  obtain ⟨x1, hk1, hq1⟩ : ∃ p, Kd.K (Kd.slice 5 (Kd.int .u8)) W p [.slice a1 len1 cap1] ∧ (p.length ≤ maxLen ∧ p.length * 1 ≤ 140737488351232 ∧ ∀ y0_ ∈ p, (Lit.int .u8 y0_).wf = true) := by
    obtain ⟨fuel, hf⟩ := h1
    exact (Opens.slice (d := (Kd.int .u8)) Try.underlying27 (by kernel_rfl) (B := 1) (by kernel_rfl) (Opens.int Try.underlying5)) H enc W fuel _ _ hf (Fits.of_each hsz (j := 1) (t := 27) rfl rfl)
  obtain ⟨A1, c1, he1, hc1, hr1⟩ := hk1
  obtain ⟨e1, e2, e3⟩ := Value.slice.inj (List.cons.inj he1).1
  subst e1 e2 e3
  obtain ⟨a2, len2, cap2, rfl⟩ := okWide_slice Try.underlying49 (hval 2 49 v2 rfl rfl)
  have k2 := h2
  have lt2 : ∀ x ∈ p2, x.block < W.heap.size := by obtain ⟨m, hm⟩ := k2; exact DataW.trod_lt m _ _ _ hm
  obtain ⟨x2, hk2, hq2⟩ : ∃ p, Kd.K (Kd.slice 4 Kd.bool) W p [.slice a2 len2 cap2] ∧ (p.length ≤ maxLen ∧ p.length * 1 ≤ 140737488351232 ∧ ∀ y0_ ∈ p, True) := by
    obtain ⟨fuel, hf⟩ := h2
    exact (Opens.slice (d := Kd.bool) Try.underlying49 (by kernel_rfl) (B := 1) (by kernel_rfl) (Opens.bool Try.underlying4)) H enc W fuel _ _ hf (Fits.of_each hsz (j := 2) (t := 49) rfl rfl)
  obtain ⟨A2, c2, he2, hc2, hr2⟩ := hk2
  obtain ⟨e1, e2, e3⟩ := Value.slice.inj (List.cons.inj he2).1
  subst e1 e2 e3
  obtain ⟨a3, rfl, rfl, rfl, w3⟩ := open_int Try.underlying3 (hval 3 3 v3 rfl rfl) h3
  obtain ⟨a4, rfl, rfl, rfl⟩ := open_bool Try.underlying4 (hval 4 4 v4 rfl rfl) h4
  clear hA0 hval0 hsz0 hsz
  refine (PTA.chatelainelaw24_TailTorn.walk Pure.TailTorn _ _ x0 _ _ x1 _ _ x2 a3 a4 W hr0 hc0 hr1 hc1 hr2 hc2 hq0 hq1 hq2 w3).mono fun e W' ⟨he, bel⟩ => ?_
  subst he
  exact ⟨_, rfl, _, _, _, [], _, [], hW', trodAll_mk1 (shut_bool Try.underlying4 _), (trodAll_cons_mk (Below.trod laidOut (by kernel_rfl) (of_decide_eq_true (by kernel_rfl)) k0 bel lt0) (trodAll_cons_mk (Below.trod laidOut (by kernel_rfl) (of_decide_eq_true (by kernel_rfl)) k1 bel lt1) (trodAll_cons_mk (Below.trod laidOut (by kernel_rfl) (of_decide_eq_true (by kernel_rfl)) k2 bel lt2) (trodAll_cons_mk (shut_int Try.underlying3 w3) (trodAll_cons_mk (shut_bool Try.underlying4 _) trodAll_mk0))))), rfl, bel.frame _, fun h => by cases h⟩
theorem over : Rows.tailTornRow.holds Try.pinned (OpenSpec.ofChange Rows.tailTornSpec) :=
  OpenClaim.holds_of_wide 5 Try.f5 rfl rfl rfl rfl rfl rfl rfl ⟨rfl, rfl, rfl, rfl, rfl⟩ rfl rfl rfl rfl rfl (by kernel_rfl) Try.func5 (by kernel_rfl)
    (of_decide_eq_true (by kernel_rfl)) (by unfold Func.isWrapper; first | (rw [if_pos (by decide +kernel)]; kernel_rfl) | (rw [if_neg (by decide +kernel)]; exact ⟨rfl, rfl⟩))
    (fun os started H enc _ => lifted os started H enc)
theorem proved : Rows.TailTornSaid := over
#print axioms proved
end Go.Proofs.Ytkiofhmpeokipaa.tailTorn
namespace Go.Proofs.Ytkiofhmpeokipaa
/-- The row, under a short name, for the claim. -/
theorem tailTorn_holds : Rows.TailTornSaid := tailTorn.proved
end Go.Proofs.Ytkiofhmpeokipaa
