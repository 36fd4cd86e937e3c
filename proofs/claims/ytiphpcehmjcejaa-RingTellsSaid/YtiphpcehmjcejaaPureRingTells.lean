/- Whatever numbers are reckoned with, each answer is the document's. No condition. -/
import Derived.Test.YtiphpcehmjcejaaPRingx8
import Derived.Test.YtiphpcehmjcejaaRingBase
namespace Go.Proofs.Ytiphpcehmjcejaa.Pure
open Go.RowKit Go.Proofs.Ytiphpcehmjcejaa.PRing Go.Proofs.YtiphpcehmjcejaaW.PrintWords Go.Proofs.YtiphpcehmjcejaaW.PrintLast Go.Proofs.YtiphpcehmjcejaaW.PrintMore
theorem rof_eq (a : Int) : chatelaineref3_Of.f a = some (a % 3329) := by
  unfold chatelaineref3_Of.f
  rcases tmod3329 a with ⟨h1, h2⟩ | ⟨h1, h2, h3⟩
  · have := em a
    rw [h2, w64 (by omega) (by omega), tmod_pos (by omega)]; congr 1; omega
  · have := em a
    rw [h2, w64 (by omega) (by omega), tmod_pos (by omega)]; congr 1; omega
theorem radd_eq (a b : Int) : chatelaineref3_Add.f a b = some ((a + b) % 3329) := by
  unfold chatelaineref3_Add.f
  have h1 := em a; have h2 := em b
  refine bnd (rof_eq _) (bnd (rof_eq _) (bnd (rof_eq _) ?_))
  rw [w64 (by omega) (by omega)]; congr 1; omega
theorem rsub_eq (a b : Int) : chatelaineref3_Sub.f a b = some ((a - b) % 3329) := by
  unfold chatelaineref3_Sub.f
  have h1 := em a; have h2 := em b
  refine bnd (rof_eq _) (bnd (rof_eq _) (bnd (rof_eq _) ?_))
  rw [w64 (by omega) (by omega)]; congr 1; omega
theorem rmul_eq (a b : Int) : chatelaineref3_Mul.f a b = some (a * b % 3329) := by
  unfold chatelaineref3_Mul.f
  have h := mul_bd (em a) (em b)
  refine bnd (rof_eq _) (bnd (rof_eq _) (bnd (rof_eq _) ?_))
  rw [w64 (by omega) (by omega), ← Int.mul_emod]
theorem rpow_l0 (d : Nat) : ∀ (k : Nat) (a n out : Int), 0 ≤ a → a < 3329 → 0 ≤ out → out < 3329 → 0 ≤ n → n < 2 ^ d → n ≤ 9223372036854775807 → d < k →
    chatelaineref3_Pow.l0 k n out a = some (out * a ^ n.toNat % 3329) := by
  induction d with
  | zero =>
    intro k a n out h1 h2 h3 h4 h5 h6 h7 hk
    obtain ⟨k, rfl⟩ : ∃ m, k = m + 1 := ⟨k - 1, by omega⟩
    have hn : n = 0 := by simp at h6; omega
    subst hn
    simp only [chatelaineref3_Pow.l0]
    rw [if_neg (by omega)]
    simp; omega
  | succ d ih =>
    intro k a n out h1 h2 h3 h4 h5 h6 h7 hk
    obtain ⟨k, rfl⟩ : ∃ m, k = m + 1 := ⟨k - 1, by omega⟩
    simp only [chatelaineref3_Pow.l0]
    by_cases hn : n = 0
    · subst hn; rw [if_neg (by omega)]; simp; omega
    · rw [if_pos (by omega), tmod_pos h5]
      have hm := mul_bd ⟨h1, h2⟩ ⟨h1, h2⟩
      have hm2 := mul_bd ⟨h3, h4⟩ ⟨h1, h2⟩
      rw [w64 (n := a * a) (by omega) (by omega), tmod_pos hm.1, Int.tdiv_eq_ediv_of_nonneg h5, w64 (n := n / 2) (by omega) (by omega)]
      have hp : (2:Int) ^ (d + 1) = 2 * 2 ^ d := by rw [Int.pow_succ, Int.mul_comm]
      have e1 := em (a * a); have e2 := em (out * a)
      have key : ∀ o : Int, (o * (a * a % 3329) ^ (n / 2).toNat) % 3329 = (o * a ^ (2 * (n / 2).toNat)) % 3329 := by
        intro o
        rw [Int.pow_mul, show a ^ 2 = a * a by rw [Int.pow_succ, Int.pow_succ]; simp, ← emod_mul_right' o, emod_pow, emod_mul_right']
      by_cases ho : n % 2 = 1
      · rw [if_pos ho, w64 (by omega) (by omega), tmod_pos hm2.1, ih k _ _ _ e1.1 e1.2 e2.1 e2.2 (by omega) (by omega) (by omega) (by omega)]
        congr 1
        rw [key, emod_mul_left', show n.toNat = 2 * (n / 2).toNat + 1 by omega, Int.pow_succ, Int.mul_assoc, Int.mul_comm a]
      · rw [if_neg ho, ih k _ _ _ e1.1 e1.2 h3 h4 (by omega) (by omega) (by omega) (by omega)]
        congr 1
        rw [key, show n.toNat = 2 * (n / 2).toNat by omega]
theorem rpow_eq (k : Nat) (a n : Int) (h0 : 0 ≤ n) (h1 : n ≤ 9223372036854775807) (hk : 63 < k) : chatelaineref3_Pow.f k a n = some (a ^ n.toNat % 3329) := by
  unfold chatelaineref3_Pow.f
  have e := em a
  refine ifn (by omega) (bnd (rof_eq _) ?_)
  rw [rpow_l0 63 k _ n 1 e.1 e.2 (by decide) (by decide) h0 (by omega) h1 hk, Int.one_mul, emod_pow]
theorem rpow_neg (k : Nat) (a n : Int) (h0 : n < 0) : chatelaineref3_Pow.f k a n = some 0 := by
  unfold chatelaineref3_Pow.f
  rw [if_pos h0]
theorem turned_step (k : Nat) (a r i : Int) (hr0 : 0 ≤ r) (hr : r ≤ 1000) (hi : 0 ≤ i) (hi7 : i < 7) :
    chatelaineref3_Turned.l0 (k + 1) 7 a r i = chatelaineref3_Turned.l0 k 7 a (2 * r + shr .i64 a i % 2) (i + 1) := by
  simp only [chatelaineref3_Turned.l0]
  have h2 := Int.emod_nonneg (shr .i64 a i) (show (2:Int) ≠ 0 by decide)
  have h3 := Int.emod_lt_of_pos (shr .i64 a i) (show (0:Int) < 2 by decide)
  rw [if_pos hi7, if_pos hi, and1, w64 (n := 2 * r) (by omega) (by omega), w64 (n := i + 1) (by omega) (by omega), w64 (by omega) (by omega)]
theorem turned_eq (k : Nat) (a : Int) (hk : 7 < k) : chatelaineref3_Turned.f k 7 a = some (rev7 a) := by
  unfold chatelaineref3_Turned.f
  obtain ⟨k, rfl⟩ : ∃ m, k = m + 8 := ⟨k - 8, by omega⟩
  have s0 : shr .i64 a 0 = a := by have := shr_lit a 0 (by decide); simpa using this
  have s1 : shr .i64 a 1 = a / 2 := shr_lit a 1 (by decide)
  have s2 : shr .i64 a 2 = a / 4 := shr_lit a 2 (by decide)
  have s3 : shr .i64 a 3 = a / 8 := shr_lit a 3 (by decide)
  have s4 : shr .i64 a 4 = a / 16 := shr_lit a 4 (by decide)
  have s5 : shr .i64 a 5 = a / 32 := shr_lit a 5 (by decide)
  have s6 : shr .i64 a 6 = a / 64 := shr_lit a 6 (by decide)
  rw [turned_step _ _ _ _ (by omega) (by omega) (by omega) (by omega), s0]
  rw [turned_step _ _ _ _ (by omega) (by omega) (by omega) (by omega), show (0:Int) + 1 = 1 from rfl, s1]
  rw [turned_step _ _ _ _ (by omega) (by omega) (by omega) (by omega), show (1:Int) + 1 = 2 from rfl, s2]
  rw [turned_step _ _ _ _ (by omega) (by omega) (by omega) (by omega), show (2:Int) + 1 = 3 from rfl, s3]
  rw [turned_step _ _ _ _ (by omega) (by omega) (by omega) (by omega), show (3:Int) + 1 = 4 from rfl, s4]
  rw [turned_step _ _ _ _ (by omega) (by omega) (by omega) (by omega), show (4:Int) + 1 = 5 from rfl, s5]
  rw [turned_step _ _ _ _ (by omega) (by omega) (by omega) (by omega), show (5:Int) + 1 = 6 from rfl, s6]
  simp only [chatelaineref3_Turned.l0]
  rw [if_neg (by decide)]
  congr 1
  unfold rev7; omega
theorem rroot_eq (k : Nat) (a : Int) (hk : 63 < k) : chatelaineref3_Root.f k a = some (17 ^ (rev7 a).toNat % 3329) := by
  unfold chatelaineref3_Root.f
  have h := rev7_bd a
  exact bnd (turned_eq k a (by omega)) (bnd (rpow_eq k _ _ (by omega) (by omega) hk) rfl)
theorem rstretch_eq (d : Nat) (y : Int) (h1 : 1 ≤ d) (h2 : d ≤ 11) : chatelaineref3_Stretch.f d y = some ((6658 * (y % 2 ^ d) + 2 ^ d) / 2 ^ (d + 1)) := by
  unfold chatelaineref3_Stretch.f
  have hb := pow2_bd d h2
  have hl := Int.emod_lt_of_pos y (show (0:Int) < 2 ^ d by omega)
  have hn := Int.emod_nonneg y (show (2:Int) ^ d ≠ 0 by omega)
  rw [if_neg (by omega), if_neg (by omega), if_pos (by omega), w64 (n := (d:Int) + 1) (by omega) (by omega), if_pos (by omega), shl1 d (by omega), w64 (n := 2 ^ d - 1) (by omega) (by omega), and_mask y d (by omega), show ((d:Int) + 1) = ((d + 1 : Nat) : Int) by omega, shr_lit _ _ (by omega)]
  rw [w64 (n := 6658 * (y % 2 ^ d)) (by omega) (by omega), w64 (by omega) (by omega)]
theorem rsq_body (d : Nat) (z : Int) (h1 : 1 ≤ d) (h2 : d ≤ 11) (h0 : 0 ≤ z) (h3 : z < 3329) : Int.tmod (wrap64 (Int.tdiv (wrap64 ((wrap64 ((wrap64 (2 * z)) * (shl .i64 1 (d : Int)))) + 3329)) 6658)) (shl .i64 1 (d : Int)) = (z * 2 ^ (d + 1) + 3329) / 6658 % 2 ^ d := by
  have hb := pow2_bd d h2
  have hm := sq_hm d z h2 h0 (by omega)
  have e : 2 * z * 2 ^ d = z * 2 ^ (d + 1) := by rw [Int.pow_succ, Int.mul_comm 2 z, Int.mul_assoc, Int.mul_comm 2]
  rw [w64 (n := 2 * z) (by omega) (by omega), shl1 d (by omega), e]
  generalize z * 2 ^ (d + 1) = z at *
  rw [w64 (n := z) (by omega) (by omega), w64 (n := z + 3329) (by omega) (by omega), Int.tdiv_eq_ediv_of_nonneg (by omega), w64 (n := (z + 3329) / 6658) (by omega) (by omega), tmod_pos (by omega)]
theorem rsquash_eq (d : Nat) (x : Int) (h1 : 1 ≤ d) (h2 : d ≤ 11) : chatelaineref3_Squash.f d x = some ((x % 3329 * 2 ^ (d + 1) + 3329) / 6658 % 2 ^ d) := by
  unfold chatelaineref3_Squash.f
  have he := em x
  have hb := pow2_bd d h2
  rw [if_neg (by omega), if_neg (by omega)]
  refine bnd (rof_eq _) (ifp (by omega) (ifn (by rw [shl1 d (by omega)]; omega) ?_))
  rw [rsq_body d _ h1 h2 he.1 he.2]
theorem stretch_out (d y : Int) (h : d < 1 ∨ 11 < d) : ring_Stretch.f d y = some 0 := by
  unfold ring_Stretch.f
  rcases h with h | h
  · rw [if_pos h]
  · rw [if_neg (by omega), if_pos h]
theorem rstretch_out (d y : Int) (h : d < 1 ∨ 11 < d) : chatelaineref3_Stretch.f d y = some 0 := by
  unfold chatelaineref3_Stretch.f
  rcases h with h | h
  · rw [if_pos h]
  · rw [if_neg (by omega), if_pos h]
theorem squash_out (d y : Int) (h : d < 1 ∨ 11 < d) : ring_Squash.f d y = some 0 := by
  unfold ring_Squash.f
  rcases h with h | h
  · rw [if_pos h]
  · rw [if_neg (by omega), if_pos h]
theorem rsquash_out (d y : Int) (h : d < 1 ∨ 11 < d) : chatelaineref3_Squash.f d y = some 0 := by
  unfold chatelaineref3_Squash.f
  rcases h with h | h
  · rw [if_pos h]
  · rw [if_neg (by omega), if_pos h]
theorem stretch_same (d y : Int) : ∃ r, ring_Stretch.f d y = some r ∧ chatelaineref3_Stretch.f d y = some r := by
  by_cases h : d < 1 ∨ 11 < d
  · exact ⟨0, stretch_out d y h, rstretch_out d y h⟩
  · obtain ⟨e, rfl⟩ := Int.eq_ofNat_of_zero_le (show 0 ≤ d by omega)
    exact ⟨_, stretch_eq e y (by omega) (by omega), rstretch_eq e y (by omega) (by omega)⟩
theorem squash_same (d y : Int) : ∃ r, ring_Squash.f d y = some r ∧ chatelaineref3_Squash.f d y = some r := by
  by_cases h : d < 1 ∨ 11 < d
  · exact ⟨0, squash_out d y h, rsquash_out d y h⟩
  · obtain ⟨e, rfl⟩ := Int.eq_ofNat_of_zero_le (show 0 ≤ d by omega)
    exact ⟨_, squash_eq e y (by omega) (by omega), rsquash_eq e y (by omega) (by omega)⟩
theorem pow_same (k : Nat) (a n : Int) (hn : n ≤ 9223372036854775807) (hk : 63 < k) : ∃ r, ring_Pow.f k a n = some r ∧ chatelaineref3_Pow.f k a n = some r := by
  by_cases h : n < 0
  · exact ⟨0, pow_neg k a n h, rpow_neg k a n h⟩
  · exact ⟨_, pow_eq k a n (by omega) hn hk, rpow_eq k a n (by omega) hn hk⟩
theorem tells_j (a b d : Int) (hb : b ≤ 9223372036854775807) (x : Bool) : chatelainelaw3_RingTells.j0 73 a b d x = some true := by
  simp only [chatelainelaw3_RingTells.j0]
  cases x with
  | true => exact ifp rfl (bnd (awake_k 72 (by decide)) rfl)
  | false =>
    obtain ⟨p, p1, p2⟩ := pow_same 72 a b hb (by decide)
    obtain ⟨s, s1, s2⟩ := squash_same d a
    obtain ⟨t, t1, t2⟩ := stretch_same d a
    refine ifn (by decide) (bnd (of_eq _) (bnd (rof_eq _) (ifp rfl (bnd (add_eq _ _) (bnd (radd_eq _ _) (ifp rfl (bnd (sub_eq _ _) (bnd (rsub_eq _ _) (ifp rfl (bnd (mul_eq _ _) (bnd (rmul_eq _ _) (ifp rfl ?_))))))))))))
    exact bnd p1 (bnd p2 (ifp rfl (bnd (root_eq 72 _ (by decide)) (bnd (rroot_eq 72 _ (by decide)) (ifp rfl (bnd s1 (bnd s2 (ifp rfl (bnd t1 (bnd t2 (ifp rfl (bnd (awake_k 72 (by decide)) rfl))))))))))))
theorem RingTells : chatelainelaw3_RingTells.Pure := by
  intro a b d _ hb _
  refine ⟨73, ?_⟩
  have hb' := (wf_bounds hb).2
  unfold chatelainelaw3_RingTells.f
  by_cases h : a = -9223372036854775808
  · exact ifp h (tells_j a b d hb' _)
  · exact ifn h (tells_j a b d hb' _)
end Go.Proofs.Ytiphpcehmjcejaa.Pure
