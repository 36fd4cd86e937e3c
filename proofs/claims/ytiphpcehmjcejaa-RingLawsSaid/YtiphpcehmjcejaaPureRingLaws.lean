/- Sums and products do not mind the order, products go over sums; a difference takes back a sum; what is not 0 has a power that undoes it; powers of a sum are products of powers. No condition. -/
import Derived.Test.YtiphpcehmjcejaaPRingx9
import Derived.Test.YtiphpcehmjcejaaRingBase
import Derived.Test.YtiphpcehmjcejaaRingBrute
namespace Go.Proofs.Ytiphpcehmjcejaa.Pure
open Go.RowKit Go.Proofs.Ytiphpcehmjcejaa.PRing Go.Proofs.YtiphpcehmjcejaaW.PrintWords Go.Proofs.YtiphpcehmjcejaaW.PrintLast Go.Proofs.YtiphpcehmjcejaaW.PrintMore

theorem undone_int (a : Nat) (h : a < 3329) (h0 : a ≠ 0) : (a : Int) * ((a : Int) ^ 3327 % 3329) % 3329 = 1 := by
  have h1 := allB_at undone a h
  simp only [Bool.or_eq_true, beq_iff_eq] at h1
  have h2 := h1.resolve_left h0
  have : ((a * (a ^ 3327 % 3329) % 3329 : Nat) : Int) = 1 := by rw [h2]; rfl
  rw [← this]
  simp only [Int.natCast_emod, Int.natCast_mul, Int.natCast_pow]
  rfl
theorem RingLaws : chatelainelaw3_RingLaws.Pure := by
  intro a0 a1 a2 _ _ _
  refine ⟨72, ?_⟩
  unfold chatelainelaw3_RingLaws.f
  obtain ⟨e0, b0, b0'⟩ := low_eq a0 3329 (by decide) (by decide)
  obtain ⟨e1, b1, b1'⟩ := low_eq a1 3329 (by decide) (by decide)
  obtain ⟨e2, b2, b2'⟩ := low_eq a2 3329 (by decide) (by decide)
  obtain ⟨a, ha⟩ := Int.eq_ofNat_of_zero_le b0
  rw [ha] at e0 b0'
  generalize IntKind.u64.wrap a1 % 3329 = b at *
  generalize IntKind.u64.wrap a2 % 3329 = c at *
  refine bnd e0 (bnd e1 (bnd e2 (bnd (pow_eq 72 _ _ (by decide) (by decide) (by decide)) (bnd (mul_eq _ _) (bnd (add_eq _ _) (bnd (add_eq _ _) (ifp (by rw [Int.add_comm]) ?_)))))))
  refine bnd (mul_eq _ _) (bnd (mul_eq _ _) (ifp (by rw [Int.mul_comm]) ?_))
  refine bnd (add_eq _ _) (bnd (mul_eq _ _) (bnd (mul_eq _ _) (bnd (add_eq _ _) (ifp ?_ ?_))))
  · rw [emod_mul_right', Int.mul_add, ← Int.add_emod]
  refine bnd (add_eq _ _) (bnd (sub_eq _ _) (ifp (by omega) ?_))
  obtain ⟨e3, b3, b3'⟩ := low_eq b 100 (by decide) (by decide)
  generalize IntKind.u64.wrap b % 100 = d at *
  have hw : wrap64 (d + c) = d + c := w64 (by omega) (by omega)
  have key : ∀ x : Int, x ^ (d + c).toNat % 3329 = x ^ d.toNat % 3329 * (x ^ c.toNat % 3329) % 3329 := fun x => by rw [← Int.mul_emod, ← Int.pow_add, show (d + c).toNat = d.toNat + c.toNat by omega]
  have hend : ((chatelainelaw0_Low.f b 100).bind fun t132 => ((ring_Pow.f 72 (a : Int) (wrap64 (t132 + c))).bind fun t133 => ((ring_Pow.f 72 (a : Int) t132).bind fun t135 => ((ring_Pow.f 72 (a : Int) c).bind fun t136 => ((ring_Mul.f t135 t136).bind fun t137 => (if t133 = t137 then ((chatelainelaw3_awake.f 72).bind fun t138 => (some t138)) else (some false))))))) = some true := by
    refine bnd e3 ?_
    rw [hw]
    refine bnd (pow_eq 72 _ _ (by omega) (by omega) (by decide)) (bnd (pow_eq 72 _ _ (by omega) (by omega) (by decide)) (bnd (pow_eq 72 _ _ (by omega) (by omega) (by decide)) (bnd (mul_eq _ _) (ifp (key _) (bnd (awake_k 72 (by decide)) rfl)))))
  by_cases h0 : (Int.ofNat a) = 0
  · refine ifp h0 ?_
    exact hend
  · refine ifn h0 (ifp ?_ ?_)
    · exact undone_int a (by omega) (fun h => h0 (by rw [h]; rfl))
    · exact hend
end Go.Proofs.Ytiphpcehmjcejaa.Pure
