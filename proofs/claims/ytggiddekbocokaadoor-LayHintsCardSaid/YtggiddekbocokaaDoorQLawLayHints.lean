-- By a program of this session (wip/myprint.sh) out of the translation; Lean checks it.
import Derived.Test.YtggiddekbocokaaDoorRows
import Derived.Test.YtggiddekbocokaaDoorQ5
import Derived.WalkKit
import Derived.ProofKit
import Derived.OpenShut
import Derived.ShutString
import Derived.ChangeOld
import Derived.Below
import Derived.SizedLaws
import Derived.SevenTiedAt
import Derived.Test.YtggiddekbocokaaDoorTie
import Derived.Test.YtggiddekbocokaaDoorCards
import Derived.Test.YtggiddekbocokaaDoorQ0
namespace Go.Proofs.YtggiddekbocokaaDoor.layHints
open Go.RowKit Go.Proofs.YtggiddekbocokaaDoor.PLR Go.Proofs.YtggiddekbocokaaDoorW.PrintWords Go.Proofs.YtggiddekbocokaaDoorW.PrintLast
open Go.ChangeShapes Go.WideShapes Go.ChangeAt Go.RowKit
open Go.ChangeMaps (open_string shut_string)
set_option linter.unusedVariables false
theorem own : ownKnob Tryd.prog.godebug = none := by kernel_rfl
theorem laidOut : laidOutB Tryd.prog = true := by kernel_rfl
def IsRow (k : IntKind) (w : World) (a : Option Addr) (len cap : Nat) (zs : List Int) : Prop :=
  (a = none ∧ len = 0 ∧ cap = 0 ∧ zs = []) ∨
  ∃ x, a = some x ∧ len ≤ cap ∧ cap ≤ maxLen ∧ zs.length = cap ∧ (∀ i, i < zs.length → w.cell? (x.add i) = some (.int k (zs.getD i 0))) ∧ ∀ n ∈ zs, (Lit.int k n).wf = true
set_option maxRecDepth 100000 in
theorem lifted (os : Os) (started : os.Started) (H : Type) (enc : TypeId × Value → H) :
    ReturnsInHanded {} Tryd.checked os 5 .any (fun w args => (Rows.layHintsSpec.pre enc Tryd.prog Tryd.f5 Rows.layHintsRow.domain false w args ∧ laidMetH Tryd.prog laidList w) ∧ sizedMet enc Tryd.prog Tryd.f5 (OpenSpec.ofChange Rows.layHintsSpec) false w args) (Rows.layHintsSpec.post enc Tryd.prog Tryd.f5 false true false false) := by
  refine returnsInHanded_of_change_and (C := Tryd.checked) (X := fun w _ => laidMetH Tryd.prog laidList w) (fun _ _ _ hh h => h.of_heap hh) own started (by kernel_rfl) Tryd.func5
    (ChangeSpec.witness_at (enc := enc) (C := Tryd.checked) (os := os) (X := fun w _ => laidMetH Tryd.prog laidList w) false (laidWorld os) #[.int .i64 0, .slice none 0 0, .slice none 0 0] 8 rfl (by kernel_rfl) (by kernel_rfl) (by kernel_rfl) (by kernel_rfl) (by kernel_rfl) (laidWorld_met os _)) ?_
  intro W base args ds gs before hval0 hW hcnd hsz0 hL _
  have hg_ := handle_of_laid hL
  have hsz : (DataW.weightsEach Tryd.prog (Tryd.f5.params.toList ++ Rows.layHintsSpec.plain.varTypes Tryd.prog) (ds ++ gs)).all (· ≤ reachBytes) = true := hsz0
  have hval : ∀ (j : Nat) t v, Tryd.f5.params[j]? = some t → args[j]? = some v → Value.okWide Tryd.prog W .any base t v := hval0
  have hW' := hW
  obtain ⟨p, q, hA0, hV, rfl, hfz, hnd⟩ := hW
  have hA : DataW.TrodAll enc Tryd.prog W 0 (fun _ => true) true Tryd.f5.params.toList args.toList ds p := hA0
  rw [Tryd.params5] at hA hval hsz
  obtain ⟨v0, vs0, d0, ds0, p0, q0, hargs, rfl, rfl, h0, r0⟩ := trodAll_cons hA
  obtain ⟨v1, vs1, d1, ds1, p1, q1, rfl, rfl, rfl, h1, r1⟩ := trodAll_cons r0
  obtain ⟨v2, vs2, d2, ds2, p2, q2, rfl, rfl, rfl, h2, r2⟩ := trodAll_cons r1
  obtain ⟨rfl, rfl, rfl⟩ := trodAll_nil r2
  obtain rfl : args = #[v0, v1, v2] := by cases args; simp_all
  obtain ⟨rfl, rfl⟩ := trodVars_none hV
  obtain ⟨a0, rfl, rfl, rfl, w0⟩ := open_int Tryd.underlying3 (hval 0 3 v0 rfl rfl) h0
  obtain ⟨a1, len1, cap1, rfl⟩ := okWide_slice Tryd.underlying29 (hval 1 29 v1 rfl rfl)
  have k1 := h1
  have lt1 : ∀ x ∈ p1, x.block < W.heap.size := by obtain ⟨m, hm⟩ := k1; exact DataW.trod_lt m _ _ _ hm
  obtain ⟨x1, hk1, hq1⟩ : ∃ p, Kd.K (Kd.slice 22 (Kd.slice 3 (Kd.int .i64))) W p [.slice a1 len1 cap1] ∧ (p.length ≤ maxLen ∧ p.length * 24 ≤ 140737488351232 ∧ ∀ y0_ ∈ p, y0_.length ≤ maxLen ∧ y0_.length * 8 ≤ 140737488351232 ∧ ∀ y1_ ∈ y0_, (Lit.int .i64 y1_).wf = true) := by
    obtain ⟨fuel, hf⟩ := h1
    exact (Opens.slice (d := (Kd.slice 3 (Kd.int .i64))) Tryd.underlying29 (by kernel_rfl) (B := 24) (by kernel_rfl) (Opens.slice (d := (Kd.int .i64)) Tryd.underlying22 (by kernel_rfl) (B := 8) (by kernel_rfl) (Opens.int Tryd.underlying3))) H enc W fuel _ _ hf (Fits.of_each hsz (j := 1) (t := 29) rfl rfl)
  obtain ⟨A1, c1, he1, hc1, hr1⟩ := hk1
  obtain ⟨e1, e2, e3⟩ := Value.slice.inj (List.cons.inj he1).1
  subst e1 e2 e3
  obtain ⟨a2, len2, cap2, rfl⟩ := okWide_slice Tryd.underlying30 (hval 2 30 v2 rfl rfl)
  have k2 := h2
  have lt2 : ∀ x ∈ p2, x.block < W.heap.size := by obtain ⟨m, hm⟩ := k2; exact DataW.trod_lt m _ _ _ hm
  obtain ⟨x2, hk2, hq2⟩ : ∃ p, Kd.K (Kd.slice 5 (Kd.int .u8)) W p [.slice a2 len2 cap2] ∧ (p.length ≤ maxLen ∧ p.length * 1 ≤ 140737488351232 ∧ ∀ y0_ ∈ p, (Lit.int .u8 y0_).wf = true) := by
    obtain ⟨fuel, hf⟩ := h2
    exact (Opens.slice (d := (Kd.int .u8)) Tryd.underlying30 (by kernel_rfl) (B := 1) (by kernel_rfl) (Opens.int Tryd.underlying5)) H enc W fuel _ _ hf (Fits.of_each hsz (j := 2) (t := 30) rfl rfl)
  obtain ⟨A2, c2, he2, hc2, hr2⟩ := hk2
  obtain ⟨e1, e2, e3⟩ := Value.slice.inj (List.cons.inj he2).1
  subst e1 e2 e3
  clear hA0 hval0 hsz0 hsz
  refine (PLR.chatelainelaw11_LayHints.walk Pure.LayHints a0 _ _ x1 _ _ x2 W hr1 hc1 hr2 hc2 hg_ w0 hq1 hq2).mono fun e W' ⟨he, bel⟩ => ?_
  subst he
  exact ⟨_, rfl, _, _, _, [], _, [], hW', trodAll_mk1 (shut_bool Tryd.underlying4 _), (trodAll_cons_mk (shut_int Tryd.underlying3 w0) (trodAll_cons_mk (Below.trod laidOut (by kernel_rfl) (of_decide_eq_true (by kernel_rfl)) k1 bel lt1) (trodAll_cons_mk (Below.trod laidOut (by kernel_rfl) (of_decide_eq_true (by kernel_rfl)) k2 bel lt2) trodAll_mk0))), rfl, bel.frame _, fun h => by cases h⟩
theorem over : Rows.layHintsRow.holds Tryd.pinned (OpenSpec.ofChange Rows.layHintsSpec) :=
  OpenClaim.holds_of_wide 5 Tryd.f5 rfl rfl rfl rfl rfl rfl rfl ⟨rfl, rfl, rfl, rfl, rfl⟩ rfl rfl rfl rfl rfl (by kernel_rfl) Tryd.func5 (by kernel_rfl)
    (of_decide_eq_true (by kernel_rfl)) (by unfold Func.isWrapper; first | (rw [if_pos (by decide +kernel)]; kernel_rfl) | (rw [if_neg (by decide +kernel)]; exact ⟨rfl, rfl⟩))
    (fun os started H enc _ => lifted os started H enc)
set_option maxRecDepth 100000 in
theorem proved : Rows.LayHintsCardSaid :=
  Claim7.holds_tied_plain_at .later [] [.handle] true (true, "5115da63cf87cc77afdb14a9d46f49779df7736e3e33054aa83b9e6e99b7866c") true
    over (fun _ h => by cases h) (by kernel_rfl) (fun _ h => by cases h) layHints_row_tie rfl ⟨rfl, rfl⟩ (by kernel_rfl) rfl
    (fun f fn hf hfn => by
      obtain rfl : f = 5 := Option.some.inj ((show Tryd.prog.funcNamed "chatelaine/chatelainelaw11.LayHints" = some 5 by kernel_rfl).symm.trans hf) |>.symm
      obtain rfl : fn = Tryd.f5 := (Option.some.inj (Tryd.func5.symm.trans hfn)).symm
      exact ⟨by kernel_rfl, fun j t ht => by
        have hall : (Tryd.f5.params.toList.all fun t => !Tryd.prog.wantsStandIn t) = true := by kernel_rfl
        have hm : t ∈ Tryd.f5.params.toList := Array.mem_toList_iff.2 (Array.mem_of_getElem? ht)
        have h1 := List.all_eq_true.1 hall t hm
        have h2 : Tryd.prog.wantsStandIn t = false := by simpa using h1
        exact h2⟩)
    (by kernel_rfl)
#print axioms proved
end Go.Proofs.YtggiddekbocokaaDoor.layHints
namespace Go.Proofs.YtggiddekbocokaaDoor
/-- The row, under a short name, for the claim. -/
theorem layHints_holds : Rows.LayHintsCardSaid := layHints.proved
end Go.Proofs.YtggiddekbocokaaDoor
