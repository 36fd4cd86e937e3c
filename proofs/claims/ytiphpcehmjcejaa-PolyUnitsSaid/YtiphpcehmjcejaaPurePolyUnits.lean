/- What a power of the unknown is carried over to: the same power of each pair's number. No condition. -/
import Derived.Test.YtiphpcehmjcejaaPPolyx26
import Derived.Test.YtiphpcehmjcejaaPolyAwake
namespace Go.Proofs.Ytiphpcehmjcejaa.Pure
open Go.RowKit Go.Proofs.Ytiphpcehmjcejaa.PPoly Go.Proofs.Ytiphpcehmjcejaa.Pm Go.Proofs.Ytiphpcehmjcejaa.PolyB Go.Proofs.YtiphpcehmjcejaaW.PrintWords Go.Proofs.YtiphpcehmjcejaaW.PrintLast Go.Proofs.YtiphpcehmjcejaaW.PrintMore

theorem rv_bd (i : Nat) : rv i ≤ 127 := by unfold rv; omega
theorem units_step (k : Nat) (x0 : Int) (x3 : List Int) (i s r : Nat) (hr : r ≤ 1000) (hs : s < 7) :
    chatelainelaw4_PolyUnits.l1 (k + 1) x0 x3 (i : Int) (r : Int) (s : Int) = chatelainelaw4_PolyUnits.l1 k x0 x3 (i : Int) ((2 * r + i / 2 ^ s % 2 : Nat) : Int) ((s + 1 : Nat) : Int) := by
  refine (chatelainelaw4_PolyUnits.l1.eq_2 _ _ _ _ _ _).trans (ifp (by omega) (ifp (by omega) ?_))
  have h : (i : Int) / 2 ^ s % 2 = ((i / 2 ^ s % 2 : Nat) : Int) := by
    rw [Int.natCast_emod, Int.natCast_ediv, Int.natCast_pow]; rfl
  have hb : i / 2 ^ s % 2 < 2 := Nat.mod_lt _ (by decide)
  rw [shr_lit (i : Int) s (by omega), and1, h]
  generalize i / 2 ^ s % 2 = b at hb
  rw [w64 (n := 2 * (r : Int)) (by omega) (by omega), w64 (n := 2 * (r : Int) + (b : Int)) (by omega) (by omega), w64 (n := (s : Int) + 1) (by omega) (by omega)]
  rw [show 2 * (r : Int) + (b : Int) = ((2 * r + b : Nat) : Int) by omega, show (s : Int) + 1 = ((s + 1 : Nat) : Int) by omega]
def dbl (i s r : Nat) : Nat := 2 * r + i / 2 ^ s % 2
theorem dbl_all : allN (fun i => dbl i 6 (dbl i 5 (dbl i 4 (dbl i 3 (dbl i 2 (dbl i 1 (dbl i 0 0)))))) == rv i && decide (dbl i 5 (dbl i 4 (dbl i 3 (dbl i 2 (dbl i 1 (dbl i 0 0))))) ≤ 1000)) 128 = true := by kernel_rfl
theorem dbl_le (i s r a : Nat) (h : dbl i s r ≤ a) : r ≤ a := by unfold dbl at h; omega
theorem units_l1 (k : Nat) (x0 : Int) (x3 : List Int) (i : Nat) (hi : i < 128) :
    chatelainelaw4_PolyUnits.l1 (k + 7) x0 x3 (i : Int) 0 0 = chatelainelaw4_PolyUnits.l1 k x0 x3 (i : Int) ((rv i : Nat) : Int) 7 := by
  have h := allN_at dbl_all i hi
  rw [Bool.and_eq_true, beq_iff_eq, decide_eq_true_eq] at h
  obtain ⟨e, b5⟩ := h
  have b4 := dbl_le _ _ _ _ b5
  have b3 := dbl_le _ _ _ _ b4
  have b2 := dbl_le _ _ _ _ b3
  have b1 := dbl_le _ _ _ _ b2
  have b0 := dbl_le _ _ _ _ b1
  rw [← e]
  exact (units_step (k + 6) x0 x3 i 0 0 (by decide) (by decide)).trans ((units_step (k + 5) x0 x3 i 1 _ b0 (by decide)).trans ((units_step (k + 4) x0 x3 i 2 _ b1 (by decide)).trans ((units_step (k + 3) x0 x3 i 3 _ b2 (by decide)).trans ((units_step (k + 2) x0 x3 i 4 _ b3 (by decide)).trans ((units_step (k + 1) x0 x3 i 5 _ b4 (by decide)).trans (units_step k x0 x3 i 6 _ b5 (by decide)))))))
theorem ze_pow (i a : Nat) : ze i ^ a % 3329 = 17 ^ ((2 * rv i + 1) * a) % 3329 := by
  have h : ze i = 17 ^ (2 * rv i + 1) % 3329 := by
    unfold ze zeN
    rw [Int.natCast_emod, Int.natCast_pow]; rfl
  rw [h, emod_pow, ← Int.pow_mul]
theorem units_v1 (n j : Nat) (hn : n < 256) (hj : j < 128) : ntt (mono n) (2 * j + n % 2) = 17 ^ ((2 * rv j + 1) * (n / 2)) % 3329 := by
  rw [ntt_mono n j (n % 2) hn hj (Nat.mod_lt _ (by decide)), if_pos rfl, ze_pow]
theorem units_v2 (n j : Nat) (hn : n < 256) (hj : j < 128) : ntt (mono n) (2 * j + (1 - n % 2)) = 0 := by
  rw [ntt_mono n j (1 - n % 2) hn hj (by omega), if_neg (by omega)]
theorem units_e1 (r n : Nat) (hr : r ≤ 127) (hn : n < 256) : wrap64 (wrap64 (wrap64 (2 * (r : Int)) + 1) * wrap64 (Int.tdiv (n : Int) 2)) = (((2 * r + 1) * (n / 2) : Nat) : Int) := by
  rw [w64 (n := 2 * (r : Int)) (by omega) (by omega), w64 (n := 2 * (r : Int) + 1) (by omega) (by omega), Int.tdiv_eq_ediv_of_nonneg (a := (n : Int)) (by omega), w64 (n := (n : Int) / 2) (by omega) (by omega)]
  have e : (2 * (r : Int) + 1) * ((n : Int) / 2) = (((2 * r + 1) * (n / 2) : Nat) : Int) := by push_cast; rfl
  have hp : (2 * r + 1) * (n / 2) ≤ 32640 := (show (2 * r + 1) * (n / 2) ≤ 255 * 128 from Nat.mul_le_mul (by omega) (by omega))
  rw [e]
  generalize (2 * r + 1) * (n / 2) = p at hp ⊢
  exact w64 (by omega) (by omega)
theorem units_e2 (j n : Nat) (hj : j < 128) : wrap64 (wrap64 (2 * (j : Int)) + Int.tmod (n : Int) 2) = ((2 * j + n % 2 : Nat) : Int) := by
  rw [w64 (n := 2 * (j : Int)) (by omega) (by omega), tmod_pos (by omega), w64 (n := 2 * (j : Int) + (n : Int) % 2) (by omega) (by omega)]; omega
theorem units_e3 (j n : Nat) (hj : j < 128) : wrap64 (wrap64 (wrap64 (2 * (j : Int)) + 1) - Int.tmod (n : Int) 2) = ((2 * j + (1 - n % 2) : Nat) : Int) := by
  rw [w64 (n := 2 * (j : Int)) (by omega) (by omega), w64 (n := 2 * (j : Int) + 1) (by omega) (by omega), tmod_pos (by omega), w64 (n := 2 * (j : Int) + 1 - (n : Int) % 2) (by omega) (by omega)]; omega
theorem units_e4 (j : Nat) (hj : j < 128) : wrap64 ((j : Int) + 1) = ((j + 1 : Nat) : Int) := by rw [w64 (n := (j : Int) + 1) (by omega) (by omega)]; omega
theorem units_l0 (n : Nat) (hn : n < 256) : ∀ (m j k : Nat), j + m = 128 → 9 * m + 7000 < k → chatelainelaw4_PolyUnits.l0 k (n : Int) (ofN (ntt (mono n))) (j : Int) = some true := by
  intro m
  induction m with
  | zero =>
    intro j k h hk
    obtain ⟨k, rfl⟩ : ∃ q, k = q + 1 := ⟨k - 1, by omega⟩
    obtain rfl : j = 128 := by omega
    exact (chatelainelaw4_PolyUnits.l0.eq_2 _ _ _ _).trans (ifn (by decide) (bnd (pawake_eq k (by omega)) rfl))
  | succ m ih =>
    intro j k h hk
    obtain ⟨k, rfl⟩ : ∃ q, k = q + 1 + 7 + 1 := ⟨k - 9, by omega⟩
    have hj := rv_bd j
    have hl : ((ofN (ntt (mono n))).length : Int) = 256 := by rw [ofN_length]; rfl
    have hb : n % 2 < 2 := Nat.mod_lt _ (by decide)
    have hj2 : j < 128 := by omega
    have i1 : 2 * j + n % 2 < 256 := by omega
    have i2 : 2 * j + (1 - n % 2) < 256 := by omega
    have hq : n / 2 < 128 := by omega
    have hp : (2 * rv j + 1) * (n / 2) ≤ 32640 := (show (2 * rv j + 1) * (n / 2) ≤ 255 * 128 from Nat.mul_le_mul (by omega) (by omega))
    have c0 : (j : Int) < 128 := by omega
    refine (chatelainelaw4_PolyUnits.l0.eq_2 _ _ _ _).trans (ifp c0 ?_)
    refine (units_l1 (k + 1) _ _ j hj2).trans ?_
    refine (chatelainelaw4_PolyUnits.l1.eq_2 _ _ _ _ _ _).trans (ifn (by decide) ?_)
    rw [units_e1 (rv j) n hj hn, units_e2 j n hj2, units_e3 j n hj2, units_e4 j hj2, hl, rd_ofN _ _ i1, rd_ofN _ _ i2, units_v1 n j hn hj2, units_v2 n j hn hj2]
    refine bnd (pow_eq k 17 _ (Int.natCast_nonneg _) (by generalize (2 * rv j + 1) * (n / 2) = p at hp ⊢; omega) (by omega)) ?_
    rw [Int.toNat_natCast]
    exact ifp (by omega) (ifp (by omega) (ifp rfl (ifp (by omega) (ifp (by omega) (ifp rfl (ih (j + 1) k (by omega) (by omega)))))))
theorem PolyUnits : chatelainelaw4_PolyUnits.Pure := by
  intro a _
  refine ⟨9000, ?_⟩
  unfold chatelainelaw4_PolyUnits.f
  obtain ⟨e, b1, b2⟩ := low_eq a 256 (by decide) (by decide)
  obtain ⟨n, hn⟩ := Int.eq_ofNat_of_zero_le b1
  rw [hn] at e b2
  refine bnd e (bnd (unit_eq n (by omega)) (bnd (over_unit 9000 n (by omega)) (ifp (by rw [ofN_length]; rfl) ?_)))
  exact units_l0 n (by omega) 128 0 9000 (by omega) (by omega)
end Go.Proofs.Ytiphpcehmjcejaa.Pure
