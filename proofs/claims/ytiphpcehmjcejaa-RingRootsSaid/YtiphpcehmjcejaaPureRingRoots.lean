/- Each root squared, times 17, has -1 as its 128-th power; no two are alike; a root hangs on the seven lowest bits alone. No condition. -/
import Derived.Test.YtiphpcehmjcejaaPRingx5
import Derived.Test.YtiphpcehmjcejaaRingBase
import Derived.Test.YtiphpcehmjcejaaRingBrute
namespace Go.Proofs.Ytiphpcehmjcejaa.Pure
open Go.RowKit Go.Proofs.Ytiphpcehmjcejaa.PRing Go.Proofs.YtiphpcehmjcejaaW.PrintWords Go.Proofs.YtiphpcehmjcejaaW.PrintLast Go.Proofs.YtiphpcehmjcejaaW.PrintMore

theorem rev_nat (i : Nat) : rev7 i = (revN i : Int) := by unfold rev7 revN; omega
theorem rev_turn (i : Int) : rev7 (i + 128) = rev7 i := by unfold rev7; omega
theorem root_nat (i : Nat) : (17 : Int) ^ (rev7 i).toNat % 3329 = ((17 ^ revN i % 3329 : Nat) : Int) := by
  rw [rev_nat, Int.toNat_natCast]
  simp only [Int.natCast_emod, Int.natCast_pow]
  rfl
theorem odd_nat (i : Nat) : ((17 : Int) ^ (rev7 i).toNat % 3329 * ((17 : Int) ^ (rev7 i).toNat % 3329) % 3329) * 17 % 3329 = (oddN i : Int) := by
  rw [root_nat]
  unfold oddN
  simp only [Int.natCast_emod, Int.natCast_mul]
  rfl
theorem RingRoots : chatelainelaw3_RingRoots.Pure := by
  intro a0 a1 _ _
  refine ⟨72, ?_⟩
  unfold chatelainelaw3_RingRoots.f
  obtain ⟨e0, b0, b0'⟩ := low_eq a0 128 (by decide) (by decide)
  obtain ⟨e1, b1, b1'⟩ := low_eq a1 128 (by decide) (by decide)
  obtain ⟨i, hi⟩ := Int.eq_ofNat_of_zero_le b0
  obtain ⟨j, hj⟩ := Int.eq_ofNat_of_zero_le b1
  rw [hi] at e0 b0'
  rw [hj] at e1 b1'
  have hr := fun a : Int => root_eq 72 a (by decide)
  refine bnd e0 (bnd e1 (bnd (hr _) (bnd (hr _) (bnd (mul_eq _ _) (bnd (mul_eq _ _) (bnd (hr _) (bnd (hr _) (bnd (mul_eq _ _) (bnd (mul_eq _ _) ?_)))))))))
  rw [odd_nat, odd_nat]
  refine bnd (pow_eq 72 _ 128 (by decide) (by decide) (by decide)) ?_
  have h1 := allB_at odd_pow i (by omega)
  have h2 := allB_at (allB_at odd_apart i (by omega)) j (by omega)
  simp only [beq_iff_eq] at h1 h2
  refine ifp ?_ (ifp ?_ (bnd (hr _) (bnd (hr _) (ifp ?_ (bnd (awake_k 72 (by decide)) rfl)))))
  · have : ((oddN i : Int) ^ (128 : Int).toNat % 3329) = ((oddN i ^ 128 % 3329 : Nat) : Int) := by
      simp only [Int.natCast_emod, Int.natCast_pow]
      rfl
    rw [this, h1]; rfl
  · have q1 : ((oddN i : Int) == (oddN j : Int)) = (oddN i == oddN j) := by
      rw [Bool.eq_iff_iff]; simp only [beq_iff_eq]; omega
    have q2 : ((i : Int) == (j : Int)) = (i == j) := by
      rw [Bool.eq_iff_iff]; simp only [beq_iff_eq]; omega
    rw [q1, h2]
    simp
    exact q2.symm
  · rw [w64 (by omega) (by omega), rev_turn]
end Go.Proofs.Ytiphpcehmjcejaa.Pure
