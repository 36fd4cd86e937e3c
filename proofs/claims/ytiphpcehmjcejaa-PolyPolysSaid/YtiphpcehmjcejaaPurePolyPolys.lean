/- What is reckoned with polys made of at most 300 numbers each is the document's answer, and what was lent is as it was. No condition. -/
import Derived.Test.YtiphpcehmjcejaaPPTelx12
import Derived.Test.YtiphpcehmjcejaaPPTelx20
import Derived.Test.YtiphpcehmjcejaaPPTelx23
import Derived.Test.YtiphpcehmjcejaaPPTelx4
import Derived.Test.YtiphpcehmjcejaaPolyRef
import Derived.Test.YtiphpcehmjcejaaPolyMore
import Derived.Test.YtiphpcehmjcejaaPolyAwake
import Derived.Test.YtiphpcehmjcejaaPolyBase
import Derived.Test.YtiphpcehmjcejaaPolyRing
import Derived.Test.YtiphpcehmjcejaaPolyMath
import Derived.Test.YtiphpcehmjcejaaPolyAlg
namespace Go.Proofs.Ytiphpcehmjcejaa.Pure
open Go.RowKit Go.Proofs.Ytiphpcehmjcejaa.PPTel Go.Proofs.Ytiphpcehmjcejaa.PolyT Go.Proofs.Ytiphpcehmjcejaa.Pm Go.Proofs.YtiphpcehmjcejaaW.PrintWords Go.Proofs.YtiphpcehmjcejaaW.PrintLast Go.Proofs.YtiphpcehmjcejaaW.PrintMore

theorem polys_j (k : Nat) (a b : List Int) (ha : a.length ≤ 300) (hb : b.length ≤ 300) (hk : 7000 ≤ k) : chatelainelaw4_PolyPolys.j0 (k + 2) a b false = some true := by
  rw [chatelainelaw4_PolyPolys.j0, if_neg (by decide)]
  obtain ⟨x, ex, hx⟩ := plow_eq (k + 1) a ha (by omega)
  obtain ⟨y, ey, hy⟩ := plow_eq (k + 1) b hb (by omega)
  have hl1 := hx.1
  have hl : chatelainelaw0_LendInts.f x = some x := by unfold chatelainelaw0_LendInts.f; rw [if_pos (by omega)]
  obtain ⟨r1, p1, q1, l1⟩ := both_add (k + 1) x y (by omega)
  obtain ⟨r2, p2, q2, l2⟩ := both_sub (k + 1) x y (by omega)
  obtain ⟨r3, p3, q3, l3⟩ := both_over (k + 1) x (by omega)
  obtain ⟨r4, p4, q4, l4⟩ := both_back (k + 1) x (by omega)
  obtain ⟨r5, p5, q5, l5⟩ := both_times (k + 1) x y (by omega)
  have s : ∀ r : List Int, r.length ≤ 256 → chatelainelaw0_SameInts.f (k + 1) r r = some true := fun r hr => same_yes _ r r rfl (by omega) (by omega)
  refine bnd ex (bnd ey (bnd hl (bnd p1 (bnd p2 (bnd p3 (bnd p4 (bnd p5 (bnd q1 (bnd (s r1 l1) (ifp rfl (bnd q2 (bnd (s r2 l2) (ifp rfl (bnd q3 (bnd (s r3 l3) (ifp rfl (bnd q4 (bnd (s r4 l4) (ifp rfl (bnd q5 (bnd (s r5 l5) (ifp rfl (bnd (may_yes _ x hx (by omega)) ?_)))))))))))))))))))))))
  rw [chatelainelaw4_PolyPolys.j1]
  have o : ∀ r : List Int, r.length ≤ 256 → chatelainelaw0_OverInts.f k r = some () := fun r hr => overints k r (by omega) (by omega)
  refine bnd (o r1 l1) (bnd (o r3 l3) (ifp rfl (bnd (x := true) ?_ (ifp rfl (bnd (pawake_eq k (by omega)) rfl)))))
  unfold chatelainelaw0_KeptInts.f
  exact same_yes k x x rfl (by omega) (by omega)
theorem PolyPolys : chatelainelaw4_PolyPolys.Pure := by
  intro x y _ _ _ _ _ _
  refine ⟨7002, ?_⟩
  unfold chatelainelaw4_PolyPolys.f
  have jt : chatelainelaw4_PolyPolys.j0 7002 x y true = some true := by
    rw [chatelainelaw4_PolyPolys.j0, if_pos rfl]
    exact bnd (pawake_eq _ (by omega)) rfl
  by_cases h : (x.length : Int) > 300
  · rw [if_pos h]; exact jt
  · rw [if_neg h]
    by_cases h2 : (y.length : Int) > 300
    · rw [decide_eq_true h2]; exact jt
    · rw [decide_eq_false h2]
      exact polys_j 7000 x y (by omega) (by omega) (by omega)

end Go.Proofs.Ytiphpcehmjcejaa.Pure
