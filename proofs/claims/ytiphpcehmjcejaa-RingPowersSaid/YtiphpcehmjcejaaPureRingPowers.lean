/- A power of a power is the power of both numbers; the powers of two numbers, multiplied, are the power of their sum; the powers of 17 go round in 256, and turn their sign in 128. No condition. -/
import Derived.Test.YtiphpcehmjcejaaPRingx5
import Derived.Test.YtiphpcehmjcejaaRingBase
namespace Go.Proofs.Ytiphpcehmjcejaa.Pure
open Go.RowKit Go.Proofs.Ytiphpcehmjcejaa.PRing Go.Proofs.YtiphpcehmjcejaaW.PrintWords Go.Proofs.YtiphpcehmjcejaaW.PrintLast Go.Proofs.YtiphpcehmjcejaaW.PrintMore

theorem pow_pow (a : Int) (n m : Nat) : (a ^ n % 3329) ^ m % 3329 = a ^ (n * m) % 3329 := by rw [emod_pow, Int.pow_mul]
theorem pow_mul_pow (a : Int) (n m : Nat) : a ^ n % 3329 * (a ^ m % 3329) % 3329 = a ^ (n + m) % 3329 := by rw [Int.pow_add, ← Int.mul_emod]
theorem p17_256 : (17 : Int) ^ 256 % 3329 = 1 := by decide
theorem p17_128 : (17 : Int) ^ 128 % 3329 = 3328 := by decide
theorem RingPowers : chatelainelaw3_RingPowers.Pure := by
  intro a0 a1 a2 _ _ _
  refine ⟨72, ?_⟩
  unfold chatelainelaw3_RingPowers.f
  obtain ⟨e0, b0, b0'⟩ := low_eq a0 3329 (by decide) (by decide)
  obtain ⟨e1, b1, b1'⟩ := low_eq a1 1000 (by decide) (by decide)
  obtain ⟨e2, b2, b2'⟩ := low_eq a2 1000 (by decide) (by decide)
  obtain ⟨n, hn⟩ := Int.eq_ofNat_of_zero_le b1
  obtain ⟨m, hm⟩ := Int.eq_ofNat_of_zero_le b2
  rw [hn] at e1 b1'
  rw [hm] at e2 b2'
  generalize IntKind.u64.wrap a0 % 3329 = a at *
  have hb : n * m ≤ 1000 * 1000 := Nat.mul_le_mul (by omega) (by omega)
  have hb2 : (n : Int) * (m : Int) = ((n * m : Nat) : Int) := by simp
  have hp := fun (x : Int) (q : Nat) (hq : q ≤ 2000000) => pow_eq 72 x q (by omega) (by omega) (by decide)
  simp only [Int.toNat_natCast] at hp
  refine bnd e0 (bnd e1 (bnd e2 ?_))
  rw [hb2, w64 (n := ((n * m : Nat) : Int)) (by omega) (by omega), w64 (n := (n : Int) + m) (by omega) (by omega), w64 (n := (n : Int) + 256) (by omega) (by omega), w64 (n := (n : Int) + 128) (by omega) (by omega),
    show (n : Int) + m = ((n + m : Nat) : Int) by omega, show (n : Int) + 256 = ((n + 256 : Nat) : Int) by omega, show (n : Int) + 128 = ((n + 128 : Nat) : Int) by omega]
  refine bnd (hp _ n (by omega)) (bnd (hp _ m (by omega)) (bnd (hp _ (n * m) (by omega)) (ifp (pow_pow _ _ _) ?_)))
  refine bnd (hp _ n (by omega)) (bnd (hp _ m (by omega)) (bnd (mul_eq _ _) (bnd (hp _ (n + m) (by omega)) (ifp (pow_mul_pow _ _ _) ?_))))
  refine bnd (hp _ (n + 256) (by omega)) (bnd (hp _ n (by omega)) (ifp ?_ ?_))
  · rw [Int.pow_add, Int.mul_emod, p17_256]; omega
  refine bnd (hp _ (n + 128) (by omega)) (bnd (sub_eq _ _) (ifp ?_ (bnd (awake_k 72 (by decide)) rfl)))
  rw [Int.pow_add, Int.mul_emod, p17_128]; omega
end Go.Proofs.Ytiphpcehmjcejaa.Pure
