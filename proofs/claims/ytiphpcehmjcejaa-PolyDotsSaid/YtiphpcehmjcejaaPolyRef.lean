import Derived.Test.YtiphpcehmjcejaaPPDotx10
import Derived.Test.YtiphpcehmjcejaaPPDotx12
import Derived.Test.YtiphpcehmjcejaaPPDotx13
import Derived.Test.YtiphpcehmjcejaaPPDotx14
import Derived.Test.YtiphpcehmjcejaaPPDotx15
import Derived.Test.YtiphpcehmjcejaaPPDotx2
import Derived.Test.YtiphpcehmjcejaaPPDotx5
import Derived.Test.YtiphpcehmjcejaaPPDotx8
import Derived.Test.YtiphpcehmjcejaaPPDotx9
import Derived.Test.YtiphpcehmjcejaaPolyMore
import Derived.Test.YtiphpcehmjcejaaPolyAwake
import Derived.Test.YtiphpcehmjcejaaPolyBase
import Derived.Test.YtiphpcehmjcejaaPolyRing
import Derived.Test.YtiphpcehmjcejaaPolyMath
import Derived.Test.YtiphpcehmjcejaaPolyAlg
namespace Go.Proofs.Ytiphpcehmjcejaa.PolyD
open Go.RowKit Go.Proofs.Ytiphpcehmjcejaa.PPDot Go.Proofs.Ytiphpcehmjcejaa.Pm Go.Proofs.YtiphpcehmjcejaaW.PrintWords Go.Proofs.YtiphpcehmjcejaaW.PrintLast Go.Proofs.YtiphpcehmjcejaaW.PrintMore

/-! ### the document's answer: numbers -/
theorem rof_eq (a : Int) : chatelaineref3_Of.f a = some (a % 3329) := by
  unfold chatelaineref3_Of.f
  rcases tmod3329 a with ⟨h1, h2⟩ | ⟨h1, h2, h3⟩
  · have := em a
    rw [h2, w64 (by omega) (by omega), tmod_pos (by omega)]; congr 1; omega
  · have := em a
    rw [h2, w64 (by omega) (by omega), tmod_pos (by omega)]; congr 1; omega
theorem radd_eq (a b : Int) : chatelaineref3_Add.f a b = some ((a + b) % 3329) := by
  unfold chatelaineref3_Add.f
  have h1 := em a; have h2 := em b
  refine bnd (rof_eq _) (bnd (rof_eq _) (bnd (rof_eq _) ?_))
  rw [w64 (by omega) (by omega)]; congr 1; omega
theorem rpow_l0 (d : Nat) : ∀ (k : Nat) (a n out : Int), 0 ≤ a → a < 3329 → 0 ≤ out → out < 3329 → 0 ≤ n → n < 2 ^ d → n ≤ 9223372036854775807 → d < k →
    chatelaineref3_Pow.l0 k n out a = some (out * a ^ n.toNat % 3329) := by
  induction d with
  | zero =>
    intro k a n out h1 h2 h3 h4 h5 h6 h7 hk
    obtain ⟨k, rfl⟩ : ∃ m, k = m + 1 := ⟨k - 1, by omega⟩
    have hn : n = 0 := by simp at h6; omega
    subst hn
    simp only [chatelaineref3_Pow.l0]
    rw [if_neg (by omega)]
    simp; omega
  | succ d ih =>
    intro k a n out h1 h2 h3 h4 h5 h6 h7 hk
    obtain ⟨k, rfl⟩ : ∃ m, k = m + 1 := ⟨k - 1, by omega⟩
    simp only [chatelaineref3_Pow.l0]
    by_cases hn : n = 0
    · subst hn; rw [if_neg (by omega)]; simp; omega
    · rw [if_pos (by omega), tmod_pos h5]
      have hm := mul_bd ⟨h1, h2⟩ ⟨h1, h2⟩
      have hm2 := mul_bd ⟨h3, h4⟩ ⟨h1, h2⟩
      rw [w64 (n := a * a) (by omega) (by omega), tmod_pos hm.1, Int.tdiv_eq_ediv_of_nonneg h5, w64 (n := n / 2) (by omega) (by omega)]
      have hp : (2:Int) ^ (d + 1) = 2 * 2 ^ d := by rw [Int.pow_succ, Int.mul_comm]
      have e1 := em (a * a); have e2 := em (out * a)
      have key : ∀ o : Int, (o * (a * a % 3329) ^ (n / 2).toNat) % 3329 = (o * a ^ (2 * (n / 2).toNat)) % 3329 := by
        intro o
        rw [Int.pow_mul, show a ^ 2 = a * a by rw [Int.pow_succ, Int.pow_succ]; simp, ← emod_mul_right' o, emod_pow, emod_mul_right']
      by_cases ho : n % 2 = 1
      · rw [if_pos ho, w64 (by omega) (by omega), tmod_pos hm2.1, ih k _ _ _ e1.1 e1.2 e2.1 e2.2 (by omega) (by omega) (by omega) (by omega)]
        congr 1
        rw [key, emod_mul_left', show n.toNat = 2 * (n / 2).toNat + 1 by omega, Int.pow_succ, Int.mul_assoc, Int.mul_comm a]
      · rw [if_neg ho, ih k _ _ _ e1.1 e1.2 h3 h4 (by omega) (by omega) (by omega) (by omega)]
        congr 1
        rw [key, show n.toNat = 2 * (n / 2).toNat by omega]
theorem rpow_eq (k : Nat) (a n : Int) (h0 : 0 ≤ n) (h1 : n ≤ 9223372036854775807) (hk : 63 < k) : chatelaineref3_Pow.f k a n = some (a ^ n.toNat % 3329) := by
  unfold chatelaineref3_Pow.f
  have e := em a
  refine ifn (by omega) (bnd (rof_eq _) ?_)
  rw [rpow_l0 63 k _ n 1 e.1 e.2 (by decide) (by decide) h0 (by omega) h1 hk, Int.one_mul, emod_pow]
theorem rpow_neg (k : Nat) (a n : Int) (h0 : n < 0) : chatelaineref3_Pow.f k a n = some 0 := by
  unfold chatelaineref3_Pow.f
  rw [if_pos h0]
theorem turned_step (k : Nat) (a r i : Int) (hr0 : 0 ≤ r) (hr : r ≤ 1000) (hi : 0 ≤ i) (hi7 : i < 7) :
    chatelaineref3_Turned.l0 (k + 1) 7 a r i = chatelaineref3_Turned.l0 k 7 a (2 * r + shr .i64 a i % 2) (i + 1) := by
  simp only [chatelaineref3_Turned.l0]
  have h2 := Int.emod_nonneg (shr .i64 a i) (show (2:Int) ≠ 0 by decide)
  have h3 := Int.emod_lt_of_pos (shr .i64 a i) (show (0:Int) < 2 by decide)
  rw [if_pos hi7, if_pos hi, and1, w64 (n := 2 * r) (by omega) (by omega), w64 (n := i + 1) (by omega) (by omega), w64 (by omega) (by omega)]
theorem turned_eq (k : Nat) (a : Int) (hk : 7 < k) : chatelaineref3_Turned.f k 7 a = some (rev7 a) := by
  unfold chatelaineref3_Turned.f
  obtain ⟨k, rfl⟩ : ∃ m, k = m + 8 := ⟨k - 8, by omega⟩
  have s0 : shr .i64 a 0 = a := by have := shr_lit a 0 (by decide); simpa using this
  have s1 : shr .i64 a 1 = a / 2 := shr_lit a 1 (by decide)
  have s2 : shr .i64 a 2 = a / 4 := shr_lit a 2 (by decide)
  have s3 : shr .i64 a 3 = a / 8 := shr_lit a 3 (by decide)
  have s4 : shr .i64 a 4 = a / 16 := shr_lit a 4 (by decide)
  have s5 : shr .i64 a 5 = a / 32 := shr_lit a 5 (by decide)
  have s6 : shr .i64 a 6 = a / 64 := shr_lit a 6 (by decide)
  rw [turned_step _ _ _ _ (by omega) (by omega) (by omega) (by omega), s0]
  rw [turned_step _ _ _ _ (by omega) (by omega) (by omega) (by omega), show (0:Int) + 1 = 1 from rfl, s1]
  rw [turned_step _ _ _ _ (by omega) (by omega) (by omega) (by omega), show (1:Int) + 1 = 2 from rfl, s2]
  rw [turned_step _ _ _ _ (by omega) (by omega) (by omega) (by omega), show (2:Int) + 1 = 3 from rfl, s3]
  rw [turned_step _ _ _ _ (by omega) (by omega) (by omega) (by omega), show (3:Int) + 1 = 4 from rfl, s4]
  rw [turned_step _ _ _ _ (by omega) (by omega) (by omega) (by omega), show (4:Int) + 1 = 5 from rfl, s5]
  rw [turned_step _ _ _ _ (by omega) (by omega) (by omega) (by omega), show (5:Int) + 1 = 6 from rfl, s6]
  simp only [chatelaineref3_Turned.l0]
  rw [if_neg (by decide)]
  congr 1
  unfold rev7; omega
/-! ### May -/
theorem rmay_l0 (x : List Int) (hl : x.length = 256) : ∀ (m i k : Nat), i + m = 256 → (∀ n, n < i → 0 ≤ at_ x n ∧ at_ x n < 3329) → 2 * m + 2 ≤ k → ∃ t, chatelaineref4_May.l0 k x (i : Int) = some t ∧ (t = true ↔ Poly x) := by
  intro m
  induction m with
  | zero =>
    intro i k h hx hk
    obtain ⟨k, rfl⟩ : ∃ q, k = q + 2 := ⟨k - 2, by omega⟩
    refine ⟨true, ?_, ⟨fun _ => ⟨hl, fun n hn => hx n (by omega)⟩, fun _ => rfl⟩⟩
    rw [chatelaineref4_May.l0, if_neg (by omega), chatelaineref4_May.j1, if_neg (by decide), hl]
    rfl
  | succ m ih =>
    intro i k h hx hk
    obtain ⟨k, rfl⟩ : ∃ q, k = q + 2 := ⟨k - 2, by omega⟩
    have e : ((x.length : Int) == 256) = true := by rw [hl]; rfl
    rw [chatelaineref4_May.l0, if_pos (by omega), chatelaineref4_May.j1, e, if_pos rfl, if_pos (by omega), if_pos (by omega), rd_at]
    by_cases h0 : at_ x i < 0
    · exact ⟨false, by rw [if_pos h0], ⟨fun c => (by cases c), fun c => absurd (c.2 i (by omega)).1 (by omega)⟩⟩
    · rw [if_neg h0]
      by_cases h1 : at_ x i ≥ 3329
      · exact ⟨false, by rw [if_pos h1], ⟨fun c => (by cases c), fun c => absurd (c.2 i (by omega)).2 (by omega)⟩⟩
      · rw [if_neg h1, w64 (by omega) (by omega), show (i : Int) + 1 = ((i + 1 : Nat) : Int) by omega]
        exact ih (i + 1) k (by omega) (fun n hn => by
          by_cases c : n = i
          · rw [c]; omega
          · exact hx n (by omega)) (by omega)
theorem rmay_any (k : Nat) (x : List Int) (hk : 600 ≤ k) : ∃ t, chatelaineref4_May.f k x = some t ∧ (t = true ↔ Poly x) := by
  unfold chatelaineref4_May.f
  by_cases hl : x.length = 256
  · exact rmay_l0 x hl 256 0 k (by omega) (fun n hn => by omega) (by omega)
  · have e : ((x.length : Int) == 256) = false := by rw [beq_eq_false_iff_ne]; omega
    refine ⟨false, ?_, ⟨fun c => (by cases c), fun c => absurd c.1 hl⟩⟩
    obtain ⟨k, rfl⟩ : ∃ q, k = q + 2 := ⟨k - 2, by omega⟩
    rw [chatelaineref4_May.l0, e]
    split <;> rw [chatelaineref4_May.j1, if_neg (by decide), e]
theorem rmay_yes (k : Nat) (x : List Int) (h : Poly x) (hk : 600 ≤ k) : chatelaineref4_May.f k x = some true := by
  obtain ⟨t, e, b⟩ := rmay_any k x hk
  rw [e, b.mpr h]
theorem rmay_no (k : Nat) (x : List Int) (h : ¬ Poly x) (hk : 600 ≤ k) : chatelaineref4_May.f k x = some false := by
  obtain ⟨t, e, b⟩ := rmay_any k x hk
  cases t with
  | false => exact e
  | true => exact absurd (b.mp rfl) h

/-! ### Over -/
theorem back_no (k : Nat) (x : List Int) (h : ¬ Poly x) (hk : 300 ≤ k) : poly_Back.f k x = some [] := by
  unfold poly_Back.f
  exact bnd (may_no k x h hk) (ifn (by decide) rfl)

/-! ### Add, Sub -/
theorem at_snoc (out : List Int) (v : Int) (n : Nat) (h : n < out.length + 1) : at_ (out ++ [v]) n = if n < out.length then at_ out n else v := by
  unfold at_
  rw [List.getD_eq_getElem?_getD, List.getD_eq_getElem?_getD]
  by_cases c : n < out.length
  · rw [if_pos c, List.getElem?_append_left c]
  · rw [if_neg c, List.getElem?_append_right (by omega), show n - out.length = 0 by omega]
    rfl
theorem radd_l0 (x y : List Int) (hx : Poly x) (hy : Poly y) : ∀ (m j k : Nat) (out : List Int), j + m = 256 → out.length = j → (∀ n, n < j → at_ out n = (at_ x n + at_ y n) % 3329) → m + 650 ≤ k → chatelaineref4_Add.l0 k x y out (j : Int) = some (ofN fun n => (at_ x n + at_ y n) % 3329) := by
  have hx1 := hx.1
  have hy1 := hy.1
  intro m
  induction m with
  | zero =>
    intro j k out h hl ho hk
    obtain ⟨k, rfl⟩ : ∃ q, k = q + 1 := ⟨k - 1, by omega⟩
    rw [chatelaineref4_Add.l0, if_neg (by omega)]
    congr 1
    exact eq_ofN (by omega) fun n hn => ho n (by omega)
  | succ m ih =>
    intro j k out h hl ho hk
    obtain ⟨k, rfl⟩ : ∃ q, k = q + 1 := ⟨k - 1, by omega⟩
    rw [chatelaineref4_Add.l0, if_pos (by omega)]
    refine bnd (rmay_yes k x hx (by omega)) (ifp rfl (bnd (rmay_yes k y hy (by omega)) (ifp rfl (ifp (by omega) (ifp (by omega) (ifp (by omega) ?_))))))
    rw [rd_at, rd_at]
    refine bnd (radd_eq _ _) (ifp (by omega) ?_)
    rw [w64 (by omega) (by omega), show (j : Int) + 1 = ((j + 1 : Nat) : Int) by omega]
    refine ih (j + 1) k _ (by omega) (by rw [List.length_append, hl]; rfl) (fun n hn => ?_) (by omega)
    rw [at_snoc out _ n (by omega)]
    by_cases c : n < out.length
    · rw [if_pos c]; exact ho n (by omega)
    · rw [if_neg c, show n = j by omega]
theorem raddp_eq (k : Nat) (x y : List Int) (hx : Poly x) (hy : Poly y) (hk : 1000 ≤ k) : chatelaineref4_Add.f k x y = some (ofN fun n => (at_ x n + at_ y n) % 3329) :=
  radd_l0 x y hx hy 256 0 k [] (by omega) rfl (fun n hn => by omega) (by omega)
theorem raddp_no (k : Nat) (x y : List Int) (h : ¬ (Poly x ∧ Poly y)) (hk : 1000 ≤ k) : chatelaineref4_Add.f k x y = some [] := by
  obtain ⟨k, rfl⟩ : ∃ q, k = q + 1 := ⟨k - 1, by omega⟩
  unfold chatelaineref4_Add.f
  rw [chatelaineref4_Add.l0, if_pos (by decide)]
  by_cases hx : Poly x
  · exact bnd (rmay_yes k x hx (by omega)) (ifp rfl (bnd (rmay_no k y (fun hy => h ⟨hx, hy⟩) (by omega)) (ifn (by decide) rfl)))
  · exact bnd (rmay_no k x hx (by omega)) (ifn (by decide) rfl)
theorem padd_no (k : Nat) (x y : List Int) (h : ¬ (Poly x ∧ Poly y)) (hk : 1000 ≤ k) : poly_Add.f k x y = some [] := by
  obtain ⟨k, rfl⟩ : ∃ q, k = q + 1 := ⟨k - 1, by omega⟩
  unfold poly_Add.f poly_each_at_ring_Add.f
  by_cases hx : Poly x
  · refine bnd (bnd (may_yes _ x hx (by omega)) (ifp rfl (bnd (may_no _ y (fun hy => h ⟨hx, hy⟩) (by omega)) ?_))) rfl
    rw [poly_each_at_ring_Add.j0, if_pos (by decide)]
  · refine bnd (bnd (may_no _ x hx (by omega)) (ifn (by decide) ?_)) rfl
    rw [poly_each_at_ring_Add.j0, if_pos rfl]
/-! ### Times -/
theorem rze (k : Nat) (j : Nat) (hk : 80 < k) : chatelaineref3_Turned.f k 7 (j : Int) = some (rv j : Int) ∧ chatelaineref3_Pow.f k 17 (2 * (rv j : Int) + 1) = some (ze j) := by
  have e : rev7 (j : Int) = (rv j : Int) := by unfold rev7 rv; omega
  refine ⟨by rw [turned_eq k _ (by omega), e], ?_⟩
  have hb : rv j ≤ 127 := by unfold rv; omega
  rw [rpow_eq k 17 _ (by omega) (by omega) (by omega), show (2 * (rv j : Int) + 1).toNat = 2 * rv j + 1 by omega]
  congr 1
theorem rtimes_l0 (x y : List Int) (hx : Poly x) (hy : Poly y) : ∀ (m j k : Nat) (out : List Int), j + m = 128 → out.length = 2 * j → (∀ n, n < 2 * j → at_ out n = tim (at_ x) (at_ y) n) → m + 90 < k →
    chatelaineref4_Times.l0 k x y out (j : Int) = some (ofN (tim (at_ x) (at_ y))) := by
  have hx1 := hx.1
  have hy1 := hy.1
  intro m
  induction m with
  | zero =>
    intro j k out h hl ho hk
    obtain ⟨k, rfl⟩ : ∃ q, k = q + 1 := ⟨k - 1, by omega⟩
    rw [chatelaineref4_Times.l0, if_neg (by omega)]
    congr 1
    exact eq_ofN (by omega) fun n hn => ho n (by omega)
  | succ m ih =>
    intro j k out h hl ho hk
    obtain ⟨k, rfl⟩ : ∃ q, k = q + 1 := ⟨k - 1, by omega⟩
    obtain ⟨q1, q2⟩ := rze k j (by omega)
    have hrb : rv j ≤ 127 := by unfold rv; omega
    rw [chatelaineref4_Times.l0, if_pos (by omega)]
    refine bnd q1 ?_
    rw [w64 (n := 2 * (rv j : Int)) (by omega) (by omega), w64 (n := 2 * (rv j : Int) + 1) (by omega) (by omega)]
    refine bnd q2 ?_
    rw [w64 (n := 2 * (j : Int)) (by omega) (by omega), w64 (n := 2 * (j : Int) + 1) (by omega) (by omega), show 2 * (j : Int) + 1 = ((2 * j + 1 : Nat) : Int) by omega, show 2 * (j : Int) = ((2 * j : Nat) : Int) by omega]
    refine ifp (by omega) (ifp (by omega) (ifp (by omega) (ifp (by omega) (ifp (by omega) (ifp (by omega) ?_)))))
    rw [rd_at, rd_at, rd_at, rd_at]
    have ha := hx.2 (2 * j) (by omega)
    have hb := hx.2 (2 * j + 1) (by omega)
    have hc := hy.2 (2 * j) (by omega)
    have hd := hy.2 (2 * j + 1) (by omega)
    have hz := ze_bd j
    have m1 := mul_bd ha hc
    have m2 := mul_bd hb hd
    have m3 := mul_bd ha hd
    have m4 := mul_bd hb hc
    have m7 := mul_bd hz (em (at_ x (2 * j + 1) * at_ y (2 * j + 1)))
    rw [w64 (n := at_ x (2 * j) * at_ y (2 * j)) (by omega) (by omega), w64 (n := at_ x (2 * j + 1) * at_ y (2 * j + 1)) (by omega) (by omega), tmod_pos m2.1,
      w64 (n := ze j * (at_ x (2 * j + 1) * at_ y (2 * j + 1) % 3329)) (by omega) (by omega), w64 (n := at_ x (2 * j) * at_ y (2 * j) + ze j * (at_ x (2 * j + 1) * at_ y (2 * j + 1) % 3329)) (by omega) (by omega), tmod_pos (a := at_ x (2 * j) * at_ y (2 * j) + ze j * (at_ x (2 * j + 1) * at_ y (2 * j + 1) % 3329)) (by omega),
      w64 (n := at_ x (2 * j) * at_ y (2 * j + 1)) (by omega) (by omega), w64 (n := at_ x (2 * j + 1) * at_ y (2 * j)) (by omega) (by omega), w64 (n := at_ x (2 * j) * at_ y (2 * j + 1) + at_ x (2 * j + 1) * at_ y (2 * j)) (by omega) (by omega), tmod_pos (a := at_ x (2 * j) * at_ y (2 * j + 1) + at_ x (2 * j + 1) * at_ y (2 * j)) (by omega)]
    refine bnd rfl (ifp (by simp only [List.length_cons, List.length_nil]; omega) ?_)
    rw [w64 (n := (j : Int) + 1) (by omega) (by omega), show (j : Int) + 1 = ((j + 1 : Nat) : Int) by omega, ← List.singleton_append, ← List.append_assoc]
    refine ih (j + 1) k _ (by omega) (by simp only [List.length_append, List.length_cons, List.length_nil]; omega) (fun n hn => ?_) (by omega)
    rw [at_snoc _ _ n (by simp only [List.length_append, List.length_cons, List.length_nil]; omega)]
    by_cases c : n < (out ++ [(at_ x (2 * j) * at_ y (2 * j) + ze j * (at_ x (2 * j + 1) * at_ y (2 * j + 1) % 3329)) % 3329]).length
    · rw [if_pos c]
      simp only [List.length_append, List.length_cons, List.length_nil] at c
      rw [at_snoc _ _ n (by omega)]
      by_cases c2 : n < out.length
      · rw [if_pos c2]; exact ho n (by omega)
      · rw [if_neg c2, show n = 2 * j by omega]
        unfold tim
        rw [if_pos (by omega), show 2 * j / 2 = j by omega, Int.mul_comm (ze j)]
    · rw [if_neg c]
      simp only [List.length_append, List.length_cons, List.length_nil] at c
      rw [show n = 2 * j + 1 by omega]
      unfold tim
      rw [if_neg (by omega), show 2 * j + 1 - 1 = 2 * j by omega]
theorem rtimes_eq (k : Nat) (x y : List Int) (hx : Poly x) (hy : Poly y) (hk : 1000 ≤ k) : chatelaineref4_Times.f k x y = some (ofN (tim (at_ x) (at_ y))) := by
  obtain ⟨k, rfl⟩ : ∃ q, k = q + 1 := ⟨k - 1, by omega⟩
  unfold chatelaineref4_Times.f
  refine bnd (rmay_yes _ x hx (by omega)) (ifp rfl (bnd (rmay_yes _ y hy (by omega)) ?_))
  rw [chatelaineref4_Times.j0, if_neg (by decide)]
  exact rtimes_l0 x y hx hy 128 0 k [] (by omega) rfl (fun n hn => by omega) (by omega)
theorem rtimes_no (k : Nat) (x y : List Int) (h : ¬ (Poly x ∧ Poly y)) (hk : 1000 ≤ k) : chatelaineref4_Times.f k x y = some [] := by
  obtain ⟨k, rfl⟩ : ∃ q, k = q + 1 := ⟨k - 1, by omega⟩
  unfold chatelaineref4_Times.f
  by_cases hx : Poly x
  · refine bnd (rmay_yes _ x hx (by omega)) (ifp rfl (bnd (rmay_no _ y (fun hy => h ⟨hx, hy⟩) (by omega)) ?_))
    rw [chatelaineref4_Times.j0, if_pos (by decide)]
  · refine bnd (rmay_no _ x hx (by omega)) (ifn (by decide) ?_)
    rw [chatelaineref4_Times.j0, if_pos rfl]
theorem times_no (k : Nat) (x y : List Int) (h : ¬ (Poly x ∧ Poly y)) (hk : 1000 ≤ k) : poly_Times.f k x y = some [] := by
  obtain ⟨k, rfl⟩ : ∃ q, k = q + 1 := ⟨k - 1, by omega⟩
  unfold poly_Times.f
  by_cases hx : Poly x
  · refine bnd (may_yes _ x hx (by omega)) (ifp rfl (bnd (may_no _ y (fun hy => h ⟨hx, hy⟩) (by omega)) ?_))
    rw [poly_Times.j0, if_pos (by decide)]
  · refine bnd (may_no _ x hx (by omega)) (ifn (by decide) ?_)
    rw [poly_Times.j0, if_pos rfl]

/-! ### both answer alike -/
theorem both_add (k : Nat) (x y : List Int) (hk : 5000 ≤ k) : ∃ r, poly_Add.f k x y = some r ∧ chatelaineref4_Add.f k x y = some r ∧ r.length ≤ 256 := by
  by_cases h : Poly x ∧ Poly y
  · exact ⟨_, padd_eq k x y h.1 h.2 (by omega), raddp_eq k x y h.1 h.2 (by omega), by rw [ofN_length]; omega⟩
  · exact ⟨_, padd_no k x y h (by omega), raddp_no k x y h (by omega), by simp⟩
theorem both_times (k : Nat) (x y : List Int) (hk : 5000 ≤ k) : ∃ r, poly_Times.f k x y = some r ∧ chatelaineref4_Times.f k x y = some r ∧ r.length ≤ 256 := by
  by_cases h : Poly x ∧ Poly y
  · exact ⟨_, times_eq k x y h.1 h.2 (by omega), rtimes_eq k x y h.1 h.2 (by omega), by rw [ofN_length]; omega⟩
  · exact ⟨_, times_no k x y h (by omega), rtimes_no k x y h (by omega), by simp⟩
theorem both_may (k : Nat) (x : List Int) (hk : 5000 ≤ k) : ∃ t, poly_May.f k x = some t ∧ chatelaineref4_May.f k x = some t := by
  by_cases h : Poly x
  · exact ⟨_, may_yes k x h (by omega), rmay_yes k x h (by omega)⟩
  · exact ⟨_, may_no k x h (by omega), rmay_no k x h (by omega)⟩
end Go.Proofs.Ytiphpcehmjcejaa.PolyD
