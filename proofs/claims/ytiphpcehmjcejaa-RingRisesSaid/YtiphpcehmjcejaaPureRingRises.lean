/- What is stretched rises, in steps that are unlike by one at most; what is squashed rises up to the last half step, and is 0 there. No condition. -/
import Derived.Test.YtiphpcehmjcejaaPRingx3
import Derived.Test.YtiphpcehmjcejaaRingBase
import Derived.Test.YtiphpcehmjcejaaRingBrute
namespace Go.Proofs.Ytiphpcehmjcejaa.Pure
open Go.RowKit Go.Proofs.Ytiphpcehmjcejaa.PRing Go.Proofs.YtiphpcehmjcejaaW.PrintWords Go.Proofs.YtiphpcehmjcejaaW.PrintLast Go.Proofs.YtiphpcehmjcejaaW.PrintMore

theorem squN_cast (d x : Nat) (hx : x < 3329) : ((x : Int) % 3329 * 2 ^ (d + 1) + 3329) / 6658 % 2 ^ d = (squN d x : Int) := by
  rw [Int.emod_eq_of_lt (a := (x : Int)) (by omega) (by omega)]
  unfold squN
  simp only [Int.natCast_emod, Int.natCast_ediv, Int.natCast_add, Int.natCast_mul, Int.natCast_pow]
  rfl
theorem strN_cast (d y : Nat) (hy : y < 2 ^ d) : (6658 * ((y : Int) % 2 ^ d) + 2 ^ d) / 2 ^ (d + 1) = (strN d y : Int) := by
  have : ((y : Int) % 2 ^ d) = y := Int.emod_eq_of_lt (by omega) (by exact_mod_cast hy)
  rw [this]
  unfold strN
  simp only [Int.natCast_ediv, Int.natCast_add, Int.natCast_mul, Int.natCast_pow]
  rfl
theorem half_cast (d : Nat) (hd : d ≤ 11) : wrap64 (wrap64 (wrap64 (3329 * wrap64 (2 ^ (d + 1) - 1)) + 2 ^ (d + 1)) - 1) / 2 ^ (d + 1) = (((3329 * (2 ^ (d + 1) - 1) + 2 ^ (d + 1) - 1) / 2 ^ (d + 1) : Nat) : Int) := by
  have hb := pow2_bd d hd
  have hp : (2 : Int) ^ (d + 1) = 2 * 2 ^ d := by rw [Int.pow_succ, Int.mul_comm]
  have h2 : ((2 ^ (d + 1) : Nat) : Int) = 2 ^ (d + 1) := by simp only [Int.natCast_pow]; rfl
  have h1 := Nat.two_pow_pos (d + 1)
  generalize hq : (2 : Int) ^ (d + 1) = q at *
  generalize (2 ^ (d + 1) : Nat) = n at *
  rw [w64 (n := q - 1) (by omega) (by omega), w64 (n := 3329 * (q - 1)) (by omega) (by omega), w64 (n := 3329 * (q - 1) + q) (by omega) (by omega), w64 (n := 3329 * (q - 1) + q - 1) (by omega) (by omega), Int.natCast_ediv, h2]
  congr 1
  omega
theorem RingRises : chatelainelaw3_RingRises.Pure := by
  intro a0 a1 a2 _ _ _
  refine ⟨72, ?_⟩
  unfold chatelainelaw3_RingRises.f
  obtain ⟨e0, b0, b0'⟩ := low_eq a0 3328 (by decide) (by decide)
  obtain ⟨e2, b2, b2'⟩ := low_eq a2 11 (by decide) (by decide)
  obtain ⟨x, hx⟩ := Int.eq_ofNat_of_zero_le b0
  obtain ⟨t, ht⟩ := Int.eq_ofNat_of_zero_le b2
  rw [hx] at e0 b0'
  rw [ht] at e2 b2'
  refine bnd e2 ?_
  obtain ⟨d, hd⟩ : ∃ d, d = t + 1 := ⟨_, rfl⟩
  have hw : wrap64 (1 + (t : Int)) = (d : Int) := by rw [w64 (by omega) (by omega)]; omega
  have hw2 : wrap64 ((d : Int) + 1) = ((d + 1 : Nat) : Int) := by rw [w64 (by omega) (by omega)]; omega
  have hpb := pow2_bd d (by omega)
  have hpn : ((2 ^ d : Nat) : Int) = 2 ^ d := by simp only [Int.natCast_pow]; rfl
  have hpc : (2 : Int) ^ (d + 1) = 2 * 2 ^ d := by rw [Int.pow_succ, Int.mul_comm]
  have hp2 : 2 ≤ 2 ^ d := by
    have := Nat.pow_le_pow_right (show 0 < 2 by decide) (show 1 ≤ d by omega)
    omega
  rw [hw, hw2, shl1 d (by omega), shl1 (d + 1) (by omega), w64 (n := 2 ^ d - 1) (by omega) (by omega), shr_lit 3329 d (by omega), shr_lit _ (d + 1) (by omega), half_cast d (by omega)]
  refine ifp (by omega) ?_
  obtain ⟨e1, b1, b1'⟩ := low_eq a1 (2 ^ d - 1) (by omega) (by omega)
  obtain ⟨y, hy⟩ := Int.eq_ofNat_of_zero_le b1
  rw [hy] at e1 b1'
  refine bnd e1 (bnd e0 ?_)
  have hyd : y + 1 < 2 ^ d := by omega
  rw [w64 (n := (y : Int) + 1) (by omega) (by omega), w64 (n := (x : Int) + 1) (by omega) (by omega), show (y : Int) + 1 = ((y + 1 : Nat) : Int) by omega, show (x : Int) + 1 = ((x + 1 : Nat) : Int) by omega]
  refine bnd (stretch_eq d _ (by omega) (by omega)) (bnd (stretch_eq d _ (by omega) (by omega)) (bnd (squash_eq d _ (by omega) (by omega)) (bnd (squash_eq d _ (by omega) (by omega)) (ifp (by omega) (bnd (stretch_eq d 0 (by omega) (by omega)) ?_)))))
  rw [strN_cast d _ hyd, strN_cast d _ (by omega), squN_cast d _ (by omega), squN_cast d _ (by omega)]
  have hA := allB_at (allB_at riseY_all (d - 1) (by omega)) y (by rw [show d - 1 + 1 = d from by omega]; omega)
  have hB := allB_at (allB_at riseX_all (d - 1) (by omega)) x (by omega)
  simp only [riseY, riseX, Bool.and_eq_true, decide_eq_true_eq, show d - 1 + 1 = d from by omega] at hA hB
  obtain ⟨⟨hA1, hA2⟩, hA3⟩ := hA
  obtain ⟨hB1, hB2⟩ := hB
  have h332 : ((3329 / 2 ^ d : Nat) : Int) = 3329 / 2 ^ d := by rw [Int.natCast_ediv, hpn]; rfl
  have hx2 : wrap64 ((x : Int) * 2 ^ (d + 1)) = ((x * 2 ^ (d + 1) : Nat) : Int) := by
    have h3 : x * 2 ^ (d + 1) ≤ 3329 * 4096 := Nat.mul_le_mul (by omega) (by have : 2 ^ (d + 1) = 2 * 2 ^ d := Nat.pow_succ'; omega)
    have : (x : Int) * 2 ^ (d + 1) = ((x * 2 ^ (d + 1) : Nat) : Int) := by simp only [Int.natCast_mul, Int.natCast_pow]; rfl
    rw [this, w64 (by omega) (by omega)]
  have hs : squN d x < 2 ^ d := Nat.mod_lt _ (Nat.two_pow_pos _)
  rw [← h332]
  clear h332
  generalize (3329 / 2 ^ d : Nat) = q33 at *
  rw [w64 (n := (strN d (y + 1) : Int) - strN d y) (by omega) (by omega), w64 (n := (squN d x : Int) + 1) (by omega) (by omega), hx2]
  refine ifp ?_ (ifp (by omega) (ifp (by omega) ?_))
  · have : (6658 * ((0 : Int) % 2 ^ d) + 2 ^ d) / 2 ^ (d + 1) = 0 := by
      rw [Int.zero_emod]
      exact Int.ediv_eq_zero_of_lt (by omega) (by omega)
    exact this
  have hend : ∀ t : Bool, t = true → (if t = true then ((chatelainelaw3_awake.f 72).bind fun t118 => some t118) else some false) = some true := fun t ht => ifp ht (bnd (awake_k 72 (by decide)) rfl)
  generalize (3329 * (2 ^ (d + 1) - 1) + 2 ^ (d + 1) - 1) / 2 ^ (d + 1) = h at *
  generalize x * 2 ^ (d + 1) = z at *
  generalize squN d x = s at *
  generalize squN d (x + 1) = s' at *
  have hfin : (if (s : Int) > 0 then (if ((decide ((x : Int) < (h : Int))) == true) = true then ((chatelainelaw3_awake.f 72).bind fun t118 => (some t118)) else (some false)) else (if ((decide ((x : Int) < (h : Int))) == (decide ((z : Int) < 3329))) = true then ((chatelainelaw3_awake.f 72).bind fun t119 => (some t119)) else (some false))) = some true := by
    have q1 : decide ((x : Int) < (h : Int)) = decide (x < h) := by simp
    have q2 : decide ((z : Int) < 3329) = decide (z < 3329) := by
      rw [Bool.eq_iff_iff]; simp only [decide_eq_true_eq]; omega
    rw [q1, q2]
    by_cases c : 0 < s
    · refine ifp (by omega) (hend _ ?_)
      simpa [c] using hB2
    · refine ifn (by omega) (hend _ ?_)
      simpa [c] using hB2
  by_cases c1 : (s' : Int) = s
  · exact ifp c1 hfin
  · refine ifn c1 ?_
    by_cases c2 : (s' : Int) = s + 1
    · exact ifp c2 hfin
    · refine ifn c2 ?_
      have c3 : s' = 0 ∧ s = 2 ^ d - 1 := by
        simp only [Bool.or_eq_true, Bool.and_eq_true, beq_iff_eq] at hB1
        omega
      exact ifp (by omega) (ifp (by omega) hfin)
end Go.Proofs.Ytiphpcehmjcejaa.Pure
