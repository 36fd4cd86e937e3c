/- What is squashed and stretched again is no further from what it was than half a step, and one; what is stretched and squashed again is itself. No condition. -/
import Derived.Test.YtiphpcehmjcejaaPRingx4
import Derived.Test.YtiphpcehmjcejaaRingBase
import Derived.Test.YtiphpcehmjcejaaRingBrute
namespace Go.Proofs.Ytiphpcehmjcejaa.Pure
open Go.RowKit Go.Proofs.Ytiphpcehmjcejaa.PRing Go.Proofs.YtiphpcehmjcejaaW.PrintWords Go.Proofs.YtiphpcehmjcejaaW.PrintLast Go.Proofs.YtiphpcehmjcejaaW.PrintMore

theorem squash_nat (d x : Nat) (hx : x < 3329) : ((x : Int) % 3329 * 2 ^ (d + 1) + 3329) / 6658 % 2 ^ d = (((x * 2 ^ (d + 1) + 3329) / 6658 % 2 ^ d : Nat) : Int) := by
  rw [Int.emod_eq_of_lt (a := (x : Int)) (by omega) (by omega)]
  simp only [Int.natCast_emod, Int.natCast_ediv, Int.natCast_add, Int.natCast_mul, Int.natCast_pow]
  rfl
theorem stretch_nat (d y : Nat) (hy : y < 2 ^ d) : (6658 * ((y : Int) % 2 ^ d) + 2 ^ d) / 2 ^ (d + 1) = (((6658 * y + 2 ^ d) / 2 ^ (d + 1) : Nat) : Int) := by
  have : ((y : Int) % 2 ^ d) = y := Int.emod_eq_of_lt (by omega) (by exact_mod_cast hy)
  rw [this]
  simp only [Int.natCast_ediv, Int.natCast_add, Int.natCast_mul, Int.natCast_pow]
  rfl
theorem near_plain (d : Nat) (x : Nat) (h1 : 1 ≤ d) (h2 : d ≤ 11) (hx : x < 3329) :
    mn ((((6658 * ((x * 2 ^ (d + 1) + 3329) / 6658 % 2 ^ d) + 2 ^ d) / 2 ^ (d + 1) : Nat) - (x : Int)) % 3329) (3329 - (((6658 * ((x * 2 ^ (d + 1) + 3329) / 6658 % 2 ^ d) + 2 ^ d) / 2 ^ (d + 1) : Nat) - (x : Int)) % 3329) ≤ (3329 + 2 ^ (d + 1) - 1) / 2 ^ (d + 1) + 1 := by
  have h := allB_at (allB_at nearX_all (d - 1) (by omega)) x hx
  simp only [nearX, decide_eq_true_eq, show d - 1 + 1 = d from by omega] at h
  generalize (6658 * ((x * 2 ^ (d + 1) + 3329) / 6658 % 2 ^ d) + 2 ^ d) / 2 ^ (d + 1) = st at *
  have hp : 0 < 2 ^ (d + 1) := Nat.two_pow_pos _
  have e : (((st : Nat) : Int) - x) % 3329 = (((st + 3329 - x) % 3329 : Nat) : Int) := by omega
  have hs : ((3329 : Int) + 2 ^ (d + 1) - 1) / 2 ^ (d + 1) = (((3329 + 2 ^ (d + 1) - 1) / 2 ^ (d + 1) : Nat) : Int) := by
    rw [Int.natCast_ediv, Int.natCast_sub (by omega)]
    simp only [Int.natCast_add, Int.natCast_pow]
    rfl
  rw [e, hs]
  unfold mn
  generalize (3329 + 2 ^ (d + 1) - 1) / 2 ^ (d + 1) = q at *
  have hb : (st + 3329 - x) % 3329 < 3329 := Nat.mod_lt _ (by decide)
  generalize (st + 3329 - x) % 3329 = b at *
  split at h
  · rw [if_pos (by omega)]; omega
  · rw [if_neg (by omega)]; omega
theorem nearY_plain (d : Nat) (y : Nat) (h1 : 1 ≤ d) (h2 : d ≤ 11) (hy : y < 2 ^ d) :
    ((6658 * y + 2 ^ d) / 2 ^ (d + 1) * 2 ^ (d + 1) + 3329) / 6658 % 2 ^ d = y ∧ (6658 * y + 2 ^ d) / 2 ^ (d + 1) < 3329 := by
  have h := allB_at (allB_at nearY_all (d - 1) (by omega)) y (by rw [show d - 1 + 1 = d from by omega]; exact hy)
  simp only [nearY, Bool.and_eq_true, beq_iff_eq, decide_eq_true_eq, show d - 1 + 1 = d from by omega] at h
  exact h

theorem RingNear : chatelainelaw3_RingNear.Pure := by
  intro a0 a1 a2 _ _ _
  refine ⟨72, ?_⟩
  unfold chatelainelaw3_RingNear.f
  obtain ⟨e0, b0, b0'⟩ := low_eq a0 3329 (by decide) (by decide)
  obtain ⟨e2, b2, b2'⟩ := low_eq a2 11 (by decide) (by decide)
  obtain ⟨x, hx⟩ := Int.eq_ofNat_of_zero_le b0
  obtain ⟨t, ht⟩ := Int.eq_ofNat_of_zero_le b2
  rw [hx] at e0 b0'
  rw [ht] at e2 b2'
  refine bnd e0 (bnd e2 ?_)
  obtain ⟨d, hd⟩ : ∃ d, d = t + 1 := ⟨_, rfl⟩
  have hw : wrap64 (1 + (t : Int)) = (d : Int) := by rw [w64 (by omega) (by omega)]; omega
  have hw2 : wrap64 ((d : Int) + 1) = ((d + 1 : Nat) : Int) := by rw [w64 (by omega) (by omega)]; omega
  rw [hw, hw2, shl1 d (by omega), shl1 (d + 1) (by omega)]
  have hpb := pow2_bd d (by omega)
  have hpc : (2 : Int) ^ (d + 1) = 2 * 2 ^ d := by rw [Int.pow_succ, Int.mul_comm]
  refine ifp (by omega) ?_
  obtain ⟨e1, b1, b1'⟩ := low_eq a1 (2 ^ d) (by omega) (by omega)
  obtain ⟨y, hy⟩ := Int.eq_ofNat_of_zero_le b1
  rw [hy] at e1 b1'
  refine bnd e1 ?_
  have hyd : y < 2 ^ d := by exact_mod_cast b1'
  have hsl : (x * 2 ^ (d + 1) + 3329) / 6658 % 2 ^ d < 2 ^ d := Nat.mod_lt _ (Nat.two_pow_pos _)
  refine bnd (squash_eq d x (by omega) (by omega)) ?_
  rw [squash_nat d x (by omega)]
  refine bnd (stretch_eq d _ (by omega) (by omega)) ?_
  rw [stretch_nat d _ hsl]
  refine bnd (sub_eq _ _) ?_
  have hn := near_plain d x (by omega) (by omega) (by omega)
  obtain ⟨hy1, hy2⟩ := nearY_plain d y (by omega) (by omega) hyd
  refine ifp (by omega) (ifp (by omega) (ifp (by exact_mod_cast hsl) ?_))
  have hback := em ((((6658 * ((x * 2 ^ (d + 1) + 3329) / 6658 % 2 ^ d) + 2 ^ d) / 2 ^ (d + 1) : Nat) : Int) - (x : Int))
  have hbig : wrap64 (shr .i64 (wrap64 (wrap64 (3329 + 2 ^ (d + 1)) - 1)) ((d + 1 : Nat) : Int) + 1) = (3329 + 2 ^ (d + 1) - 1) / 2 ^ (d + 1) + 1 := by
    rw [w64 (n := 3329 + 2 ^ (d + 1)) (by omega) (by omega), w64 (n := 3329 + 2 ^ (d + 1) - 1) (by omega) (by omega), shr_lit _ _ (by omega)]
    have hq0 : 0 ≤ ((3329 : Int) + 2 ^ (d + 1) - 1) / 2 ^ (d + 1) := Int.ediv_nonneg (by omega) (by omega)
    have hq1 : ((3329 : Int) + 2 ^ (d + 1) - 1) / 2 ^ (d + 1) ≤ 3329 + 2 ^ (d + 1) - 1 := Int.ediv_le_self _ (by omega)
    rw [w64 (by omega) (by omega)]
  rw [hbig, w64 (n := 3329 - _) (by omega) (by omega)]
  refine ifp hn ?_
  refine bnd (stretch_eq d _ (by omega) (by omega)) ?_
  rw [stretch_nat d _ hyd]
  refine bnd (squash_eq d _ (by omega) (by omega)) ?_
  rw [squash_nat d _ hy2, hy1]
  exact ifp rfl (bnd (awake_k 72 (by decide)) rfl)
end Go.Proofs.Ytiphpcehmjcejaa.Pure
