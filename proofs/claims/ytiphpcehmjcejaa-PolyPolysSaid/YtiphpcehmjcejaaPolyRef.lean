import Derived.Test.YtiphpcehmjcejaaPPTelx10
import Derived.Test.YtiphpcehmjcejaaPPTelx11
import Derived.Test.YtiphpcehmjcejaaPPTelx12
import Derived.Test.YtiphpcehmjcejaaPPTelx13
import Derived.Test.YtiphpcehmjcejaaPPTelx14
import Derived.Test.YtiphpcehmjcejaaPPTelx15
import Derived.Test.YtiphpcehmjcejaaPPTelx16
import Derived.Test.YtiphpcehmjcejaaPPTelx17
import Derived.Test.YtiphpcehmjcejaaPPTelx18
import Derived.Test.YtiphpcehmjcejaaPPTelx19
import Derived.Test.YtiphpcehmjcejaaPPTelx2
import Derived.Test.YtiphpcehmjcejaaPPTelx20
import Derived.Test.YtiphpcehmjcejaaPPTelx3
import Derived.Test.YtiphpcehmjcejaaPPTelx5
import Derived.Test.YtiphpcehmjcejaaPPTelx7
import Derived.Test.YtiphpcehmjcejaaPPTelx8
import Derived.Test.YtiphpcehmjcejaaPPTelx9
import Derived.Test.YtiphpcehmjcejaaPolyMore
import Derived.Test.YtiphpcehmjcejaaPolyAwake
import Derived.Test.YtiphpcehmjcejaaPolyBase
import Derived.Test.YtiphpcehmjcejaaPolyRing
import Derived.Test.YtiphpcehmjcejaaPolyMath
import Derived.Test.YtiphpcehmjcejaaPolyAlg
namespace Go.Proofs.Ytiphpcehmjcejaa.PolyT
open Go.RowKit Go.Proofs.Ytiphpcehmjcejaa.PPTel Go.Proofs.Ytiphpcehmjcejaa.Pm Go.Proofs.YtiphpcehmjcejaaW.PrintWords Go.Proofs.YtiphpcehmjcejaaW.PrintLast Go.Proofs.YtiphpcehmjcejaaW.PrintMore

/-! ### the document's answer: numbers -/
theorem rof_eq (a : Int) : chatelaineref3_Of.f a = some (a % 3329) := by
  unfold chatelaineref3_Of.f
  rcases tmod3329 a with ⟨h1, h2⟩ | ⟨h1, h2, h3⟩
  · have := em a
    rw [h2, w64 (by omega) (by omega), tmod_pos (by omega)]; congr 1; omega
  · have := em a
    rw [h2, w64 (by omega) (by omega), tmod_pos (by omega)]; congr 1; omega
theorem radd_eq (a b : Int) : chatelaineref3_Add.f a b = some ((a + b) % 3329) := by
  unfold chatelaineref3_Add.f
  have h1 := em a; have h2 := em b
  refine bnd (rof_eq _) (bnd (rof_eq _) (bnd (rof_eq _) ?_))
  rw [w64 (by omega) (by omega)]; congr 1; omega
theorem rsub_eq (a b : Int) : chatelaineref3_Sub.f a b = some ((a - b) % 3329) := by
  unfold chatelaineref3_Sub.f
  have h1 := em a; have h2 := em b
  refine bnd (rof_eq _) (bnd (rof_eq _) (bnd (rof_eq _) ?_))
  rw [w64 (by omega) (by omega)]; congr 1; omega
theorem rpow_l0 (d : Nat) : ∀ (k : Nat) (a n out : Int), 0 ≤ a → a < 3329 → 0 ≤ out → out < 3329 → 0 ≤ n → n < 2 ^ d → n ≤ 9223372036854775807 → d < k →
    chatelaineref3_Pow.l0 k n out a = some (out * a ^ n.toNat % 3329) := by
  induction d with
  | zero =>
    intro k a n out h1 h2 h3 h4 h5 h6 h7 hk
    obtain ⟨k, rfl⟩ : ∃ m, k = m + 1 := ⟨k - 1, by omega⟩
    have hn : n = 0 := by simp at h6; omega
    subst hn
    simp only [chatelaineref3_Pow.l0]
    rw [if_neg (by omega)]
    simp; omega
  | succ d ih =>
    intro k a n out h1 h2 h3 h4 h5 h6 h7 hk
    obtain ⟨k, rfl⟩ : ∃ m, k = m + 1 := ⟨k - 1, by omega⟩
    simp only [chatelaineref3_Pow.l0]
    by_cases hn : n = 0
    · subst hn; rw [if_neg (by omega)]; simp; omega
    · rw [if_pos (by omega), tmod_pos h5]
      have hm := mul_bd ⟨h1, h2⟩ ⟨h1, h2⟩
      have hm2 := mul_bd ⟨h3, h4⟩ ⟨h1, h2⟩
      rw [w64 (n := a * a) (by omega) (by omega), tmod_pos hm.1, Int.tdiv_eq_ediv_of_nonneg h5, w64 (n := n / 2) (by omega) (by omega)]
      have hp : (2:Int) ^ (d + 1) = 2 * 2 ^ d := by rw [Int.pow_succ, Int.mul_comm]
      have e1 := em (a * a); have e2 := em (out * a)
      have key : ∀ o : Int, (o * (a * a % 3329) ^ (n / 2).toNat) % 3329 = (o * a ^ (2 * (n / 2).toNat)) % 3329 := by
        intro o
        rw [Int.pow_mul, show a ^ 2 = a * a by rw [Int.pow_succ, Int.pow_succ]; simp, ← emod_mul_right' o, emod_pow, emod_mul_right']
      by_cases ho : n % 2 = 1
      · rw [if_pos ho, w64 (by omega) (by omega), tmod_pos hm2.1, ih k _ _ _ e1.1 e1.2 e2.1 e2.2 (by omega) (by omega) (by omega) (by omega)]
        congr 1
        rw [key, emod_mul_left', show n.toNat = 2 * (n / 2).toNat + 1 by omega, Int.pow_succ, Int.mul_assoc, Int.mul_comm a]
      · rw [if_neg ho, ih k _ _ _ e1.1 e1.2 h3 h4 (by omega) (by omega) (by omega) (by omega)]
        congr 1
        rw [key, show n.toNat = 2 * (n / 2).toNat by omega]
theorem rpow_eq (k : Nat) (a n : Int) (h0 : 0 ≤ n) (h1 : n ≤ 9223372036854775807) (hk : 63 < k) : chatelaineref3_Pow.f k a n = some (a ^ n.toNat % 3329) := by
  unfold chatelaineref3_Pow.f
  have e := em a
  refine ifn (by omega) (bnd (rof_eq _) ?_)
  rw [rpow_l0 63 k _ n 1 e.1 e.2 (by decide) (by decide) h0 (by omega) h1 hk, Int.one_mul, emod_pow]
theorem rpow_neg (k : Nat) (a n : Int) (h0 : n < 0) : chatelaineref3_Pow.f k a n = some 0 := by
  unfold chatelaineref3_Pow.f
  rw [if_pos h0]
theorem turned_step (k : Nat) (a r i : Int) (hr0 : 0 ≤ r) (hr : r ≤ 1000) (hi : 0 ≤ i) (hi7 : i < 7) :
    chatelaineref3_Turned.l0 (k + 1) 7 a r i = chatelaineref3_Turned.l0 k 7 a (2 * r + shr .i64 a i % 2) (i + 1) := by
  simp only [chatelaineref3_Turned.l0]
  have h2 := Int.emod_nonneg (shr .i64 a i) (show (2:Int) ≠ 0 by decide)
  have h3 := Int.emod_lt_of_pos (shr .i64 a i) (show (0:Int) < 2 by decide)
  rw [if_pos hi7, if_pos hi, and1, w64 (n := 2 * r) (by omega) (by omega), w64 (n := i + 1) (by omega) (by omega), w64 (by omega) (by omega)]
theorem turned_eq (k : Nat) (a : Int) (hk : 7 < k) : chatelaineref3_Turned.f k 7 a = some (rev7 a) := by
  unfold chatelaineref3_Turned.f
  obtain ⟨k, rfl⟩ : ∃ m, k = m + 8 := ⟨k - 8, by omega⟩
  have s0 : shr .i64 a 0 = a := by have := shr_lit a 0 (by decide); simpa using this
  have s1 : shr .i64 a 1 = a / 2 := shr_lit a 1 (by decide)
  have s2 : shr .i64 a 2 = a / 4 := shr_lit a 2 (by decide)
  have s3 : shr .i64 a 3 = a / 8 := shr_lit a 3 (by decide)
  have s4 : shr .i64 a 4 = a / 16 := shr_lit a 4 (by decide)
  have s5 : shr .i64 a 5 = a / 32 := shr_lit a 5 (by decide)
  have s6 : shr .i64 a 6 = a / 64 := shr_lit a 6 (by decide)
  rw [turned_step _ _ _ _ (by omega) (by omega) (by omega) (by omega), s0]
  rw [turned_step _ _ _ _ (by omega) (by omega) (by omega) (by omega), show (0:Int) + 1 = 1 from rfl, s1]
  rw [turned_step _ _ _ _ (by omega) (by omega) (by omega) (by omega), show (1:Int) + 1 = 2 from rfl, s2]
  rw [turned_step _ _ _ _ (by omega) (by omega) (by omega) (by omega), show (2:Int) + 1 = 3 from rfl, s3]
  rw [turned_step _ _ _ _ (by omega) (by omega) (by omega) (by omega), show (3:Int) + 1 = 4 from rfl, s4]
  rw [turned_step _ _ _ _ (by omega) (by omega) (by omega) (by omega), show (4:Int) + 1 = 5 from rfl, s5]
  rw [turned_step _ _ _ _ (by omega) (by omega) (by omega) (by omega), show (5:Int) + 1 = 6 from rfl, s6]
  simp only [chatelaineref3_Turned.l0]
  rw [if_neg (by decide)]
  congr 1
  unfold rev7; omega
theorem rroot_eq (k : Nat) (a : Int) (hk : 63 < k) : chatelaineref3_Root.f k a = some (17 ^ (rev7 a).toNat % 3329) := by
  unfold chatelaineref3_Root.f
  have h := rev7_bd a
  exact bnd (turned_eq k a (by omega)) (bnd (rpow_eq k _ _ (by omega) (by omega) hk) rfl)
theorem rroot_rt (k : Nat) (i : Nat) (hk : 71 < k) : chatelaineref3_Root.f k (i : Int) = some (rt i) := by
  rw [rroot_eq k _ (by omega)]
  have : rev7 (i : Int) = (rv i : Int) := by unfold rev7 rv; omega
  rw [this, Int.toNat_natCast]
  congr 1

/-! ### May -/
theorem rmay_l0 (x : List Int) (hl : x.length = 256) : ∀ (m i k : Nat), i + m = 256 → (∀ n, n < i → 0 ≤ at_ x n ∧ at_ x n < 3329) → 2 * m + 2 ≤ k → ∃ t, chatelaineref4_May.l0 k x (i : Int) = some t ∧ (t = true ↔ Poly x) := by
  intro m
  induction m with
  | zero =>
    intro i k h hx hk
    obtain ⟨k, rfl⟩ : ∃ q, k = q + 2 := ⟨k - 2, by omega⟩
    refine ⟨true, ?_, ⟨fun _ => ⟨hl, fun n hn => hx n (by omega)⟩, fun _ => rfl⟩⟩
    rw [chatelaineref4_May.l0, if_neg (by omega), chatelaineref4_May.j1, if_neg (by decide), hl]
    rfl
  | succ m ih =>
    intro i k h hx hk
    obtain ⟨k, rfl⟩ : ∃ q, k = q + 2 := ⟨k - 2, by omega⟩
    have e : ((x.length : Int) == 256) = true := by rw [hl]; rfl
    rw [chatelaineref4_May.l0, if_pos (by omega), chatelaineref4_May.j1, e, if_pos rfl, if_pos (by omega), if_pos (by omega), rd_at]
    by_cases h0 : at_ x i < 0
    · exact ⟨false, by rw [if_pos h0], ⟨fun c => (by cases c), fun c => absurd (c.2 i (by omega)).1 (by omega)⟩⟩
    · rw [if_neg h0]
      by_cases h1 : at_ x i ≥ 3329
      · exact ⟨false, by rw [if_pos h1], ⟨fun c => (by cases c), fun c => absurd (c.2 i (by omega)).2 (by omega)⟩⟩
      · rw [if_neg h1, w64 (by omega) (by omega), show (i : Int) + 1 = ((i + 1 : Nat) : Int) by omega]
        exact ih (i + 1) k (by omega) (fun n hn => by
          by_cases c : n = i
          · rw [c]; omega
          · exact hx n (by omega)) (by omega)
theorem rmay_any (k : Nat) (x : List Int) (hk : 600 ≤ k) : ∃ t, chatelaineref4_May.f k x = some t ∧ (t = true ↔ Poly x) := by
  unfold chatelaineref4_May.f
  by_cases hl : x.length = 256
  · exact rmay_l0 x hl 256 0 k (by omega) (fun n hn => by omega) (by omega)
  · have e : ((x.length : Int) == 256) = false := by rw [beq_eq_false_iff_ne]; omega
    refine ⟨false, ?_, ⟨fun c => (by cases c), fun c => absurd c.1 hl⟩⟩
    obtain ⟨k, rfl⟩ : ∃ q, k = q + 2 := ⟨k - 2, by omega⟩
    rw [chatelaineref4_May.l0, e]
    split <;> rw [chatelaineref4_May.j1, if_neg (by decide), e]
theorem rmay_yes (k : Nat) (x : List Int) (h : Poly x) (hk : 600 ≤ k) : chatelaineref4_May.f k x = some true := by
  obtain ⟨t, e, b⟩ := rmay_any k x hk
  rw [e, b.mpr h]
theorem rmay_no (k : Nat) (x : List Int) (h : ¬ Poly x) (hk : 600 ≤ k) : chatelaineref4_May.f k x = some false := by
  obtain ⟨t, e, b⟩ := rmay_any k x hk
  cases t with
  | false => exact e
  | true => exact absurd (b.mp rfl) h

/-! ### Over -/
theorem rover_l2 (g F : Nat → Int) (L s : Nat) (z i : Int) (hL : 1 ≤ L) (hs : s + 2 * L ≤ 256) (hz : 0 ≤ z ∧ z < 3329) (hg : ∀ n, n < 256 → 0 ≤ g n ∧ g n < 3329)
    (hF : ∀ t, t < L → F (s + t) = (g (s + t) + z * g (s + t + L)) % 3329 ∧ F (s + t + L) = (g (s + t) - z * g (s + t + L)) % 3329) :
    ∀ (m j k : Nat) (x : List Int), j + m = s + L → s ≤ j → x.length = 256 → (∀ n, n < 256 → at_ x n = if n < j ∨ (s + L ≤ n ∧ n < j + L) then F n else g n) → m < k →
      ∃ x', chatelaineref4_Over.l2 k x i L s z j = chatelaineref4_Over.l1 (k - m - 1) x' i L ((s + 2 * L : Nat) : Int) ∧ x'.length = 256 ∧ ∀ n, n < 256 → at_ x' n = if n < s + 2 * L then F n else g n := by
  intro m
  induction m with
  | zero =>
    intro j k x h hj hl hx hk
    obtain ⟨k, rfl⟩ : ∃ q, k = q + 1 := ⟨k - 1, by omega⟩
    refine ⟨x, ?_, hl, fun n hn => ?_⟩
    · simp only [chatelaineref4_Over.l2]
      rw [w64 (n := (s : Int) + L) (by omega) (by omega), if_neg (by omega), w64 (n := 2 * (L : Int)) (by omega) (by omega), w64 (n := (s : Int) + 2 * L) (by omega) (by omega)]
      simp
    · rw [hx n hn]
      by_cases c : n < s + 2 * L
      · rw [if_pos c, if_pos (by omega)]
      · rw [if_neg c, if_neg (by omega)]
  | succ m ih =>
    intro j k x h hj hl hx hk
    obtain ⟨k, rfl⟩ : ∃ q, k = q + 1 := ⟨k - 1, by omega⟩
    have ha : at_ x j = g j := by rw [hx j (by omega), if_neg (by omega)]
    have hb : at_ x (j + L) = g (j + L) := by rw [hx (j + L) (by omega), if_neg (by omega)]
    have hga := hg j (by omega)
    have hgb := hg (j + L) (by omega)
    have hm := mul_bd hz hgb
    have ht := em (z * g (j + L))
    obtain ⟨F1, F2⟩ := hF (j - s) (by omega)
    rw [show s + (j - s) = j by omega] at F1 F2
    -- the step
    have hstep : chatelaineref4_Over.l2 (k + 1) x i L s z j = chatelaineref4_Over.l2 k ((x.set (j + L) (F (j + L))).set j (F j)) i L s z ((j + 1 : Nat) : Int) := by
      simp only [chatelaineref4_Over.l2]
      rw [w64 (n := (s : Int) + L) (by omega) (by omega), w64 (n := (j : Int) + L) (by omega) (by omega), show (j : Int) + L = ((j + L : Nat) : Int) by omega, rd_at, rd_at, ha, hb]
      refine ifp (by omega) (ifp (by omega) (ifp (by omega) (ifp (by omega) (ifp (by omega) ?_))))
      rw [w64 (n := z * g (j + L)) (by omega) (by omega), tmod_pos hm.1, w64 (n := g j - z * g (j + L) % 3329) (by omega) (by omega), w64 (n := g j - z * g (j + L) % 3329 + 3329) (by omega) (by omega), tmod_pos (a := g j - z * g (j + L) % 3329 + 3329) (by omega), Int.toNat_natCast]
      refine bnd rfl ?_
      have e1 : (g j - z * g (j + L) % 3329 + 3329) % 3329 = F (j + L) := by rw [F2]; omega
      rw [e1, rd_at, at_set x (j + L) j _ (by omega), if_neg (by omega), ha, w64 (n := g j + z * g (j + L) % 3329) (by omega) (by omega), tmod_pos (a := g j + z * g (j + L) % 3329) (by omega), Int.toNat_natCast, w64 (n := (j : Int) + 1) (by omega) (by omega)]
      have e2 : (g j + z * g (j + L) % 3329) % 3329 = F j := by rw [F1]; omega
      rw [e2]; rfl
    obtain ⟨x', h1, h2, h3⟩ := ih (j + 1) k ((x.set (j + L) (F (j + L))).set j (F j)) (by omega) (by omega) (by rw [List.length_set, List.length_set]; exact hl) (fun n hn => by
      rw [at_set _ j n _ (by rw [List.length_set]; omega), at_set x (j + L) n _ (by omega)]
      by_cases c1 : n = j
      · rw [if_pos c1, if_pos (by omega), c1]
      · rw [if_neg c1]
        by_cases c2 : n = j + L
        · rw [if_pos c2, if_pos (by omega), c2]
        · rw [if_neg c2, hx n hn]
          by_cases c3 : n < j ∨ (s + L ≤ n ∧ n < j + L)
          · rw [if_pos c3, if_pos (by omega)]
          · rw [if_neg c3, if_neg (by omega)]) (by omega)
    refine ⟨x', ?_, h2, h3⟩
    rw [hstep, h1, show k - m - 1 = k + 1 - (m + 1) - 1 by omega]
theorem rover_l1 (g : Nat → Int) (L i0 : Nat) (hL : 1 ≤ L) (hi : i0 * L = 128) (hg : ∀ n, n < 256 → 0 ≤ g n ∧ g n < 3329)
    (hd : ∀ b t, b < i0 → t < L → (2 * L * b + t) / (2 * L) = b ∧ (2 * L * b + t) % (2 * L) = t ∧ (2 * L * b + t + L) / (2 * L) = b ∧ (2 * L * b + t + L) % (2 * L) = t + L) (hi2 : i0 ≤ 64) :
    ∀ (m b k : Nat) (x : List Int), b + m = i0 → x.length = 256 → (∀ n, n < 256 → at_ x n = if n < 2 * L * b then fwd L (zf i0) g n else g n) → (m + 1) * (L + 2) + 80 < k →
      ∃ x' k', k ≤ k' + (m + 1) * (L + 2) ∧ chatelaineref4_Over.l1 k x ((i0 + b : Nat) : Int) L ((2 * L * b : Nat) : Int) = chatelaineref4_Over.l0 k' x' ((2 * i0 : Nat) : Int) (Int.tdiv L 2) ∧ x'.length = 256 ∧ ∀ n, n < 256 → at_ x' n = fwd L (zf i0) g n := by
  intro m
  induction m with
  | zero =>
    intro b k x h hl hx hk
    obtain ⟨k, rfl⟩ : ∃ q, k = q + 1 := ⟨k - 1, by omega⟩
    have hb : b = i0 := by omega
    subst hb
    have h256 : 2 * L * b = 256 := by rw [Nat.mul_comm 2 L, Nat.mul_assoc, Nat.mul_comm L, Nat.mul_assoc, Nat.mul_comm 2, hi]
    have hLb : L ≤ 128 := Nat.le_of_dvd (by decide) ⟨b, by rw [Nat.mul_comm]; exact hi.symm⟩
    refine ⟨x, k, by omega, ?_, hl, fun n hn => by rw [hx n hn, if_pos (by omega)]⟩
    simp only [chatelaineref4_Over.l1]
    rw [h256, if_neg (by decide), w64 (n := Int.tdiv L 2) (by rw [Int.tdiv_eq_ediv_of_nonneg (by omega)]; omega) (by rw [Int.tdiv_eq_ediv_of_nonneg (by omega)]; omega), show b + b = 2 * b by omega]
  | succ m ih =>
    intro b k x h hl hx hk
    obtain ⟨k, rfl⟩ : ∃ q, k = q + 1 := ⟨k - 1, by omega⟩
    have hbi : b + 1 ≤ i0 := by omega
    have hbl : 2 * L * (b + 1) ≤ 256 := by
      have := Nat.mul_le_mul_left (2 * L) hbi
      have h256 : 2 * L * i0 = 256 := by rw [Nat.mul_comm 2 L, Nat.mul_assoc, Nat.mul_comm L, Nat.mul_assoc, Nat.mul_comm 2, hi]
      omega
    have hs : 2 * L * b + 2 * L ≤ 256 := by rw [Nat.mul_add, Nat.mul_one] at hbl; exact hbl
    have hexp : (m + 1 + 1) * (L + 2) = (m + 1) * (L + 2) + (L + 2) := by rw [Nat.add_mul (m + 1), Nat.one_mul]
    obtain ⟨x1, h1, h2, h3⟩ := rover_l2 g (fwd L (zf i0) g) L (2 * L * b) (rt (i0 + b)) ((i0 + (b + 1) : Nat) : Int) hL hs (rt_bd _) hg (fun t ht => by
      obtain ⟨d1, d2, d3, d4⟩ := hd b t (by omega) ht
      constructor
      · unfold fwd; rw [d1, d2, if_pos ht]; rfl
      · unfold fwd; rw [d3, d4, if_neg (by omega), show 2 * L * b + t + L - L = 2 * L * b + t by omega]; rfl) L (2 * L * b) k x (by omega) (by omega) hl (fun n hn => by
      rw [hx n hn]
      by_cases c : n < 2 * L * b
      · rw [if_pos c, if_pos (by omega)]
      · rw [if_neg c, if_neg (by omega)]) (by omega)
    obtain ⟨x2, k2, q0, q1, q2, q3⟩ := ih (b + 1) (k - L - 1) x1 (by omega) h2 (fun n hn => by rw [h3 n hn, Nat.mul_add, Nat.mul_one]) (by omega)
    refine ⟨x2, k2, by omega, ?_, q2, q3⟩
    simp only [chatelaineref4_Over.l1]
    refine ifp (by omega) (bnd (rroot_rt k (i0 + b) (by omega)) ?_)
    rw [w64 (n := ((i0 + b : Nat) : Int) + 1) (by omega) (by omega), show ((i0 + b : Nat) : Int) + 1 = ((i0 + (b + 1) : Nat) : Int) by omega]
    rw [h1, show 2 * L * b + 2 * L = 2 * L * (b + 1) by rw [Nat.mul_add, Nat.mul_one]]
    exact q1
theorem rover_layer (g : Nat → Int) (L i0 : Nat) (hL : 2 ≤ L) (hi : i0 * L = 128) (hg : ∀ n, n < 256 → 0 ≤ g n ∧ g n < 3329)
    (hd : ∀ b t, b < i0 → t < L → (2 * L * b + t) / (2 * L) = b ∧ (2 * L * b + t) % (2 * L) = t ∧ (2 * L * b + t + L) / (2 * L) = b ∧ (2 * L * b + t + L) % (2 * L) = t + L) (hi2 : i0 ≤ 64)
    (k : Nat) (x : List Int) (hl : x.length = 256) (hx : ∀ n, n < 256 → at_ x n = g n) (hk : 600 < k) :
    ∃ x' k', k ≤ k' + 400 ∧ chatelaineref4_Over.l0 k x (i0 : Int) L = chatelaineref4_Over.l0 k' x' ((2 * i0 : Nat) : Int) ((L / 2 : Nat) : Int) ∧ x'.length = 256 ∧ ∀ n, n < 256 → at_ x' n = fwd L (zf i0) g n := by
  obtain ⟨k, rfl⟩ : ∃ q, k = q + 1 := ⟨k - 1, by omega⟩
  have hfuel : (i0 + 1) * (L + 2) ≤ 390 := by
    rw [Nat.add_mul, Nat.mul_add, hi]
    have : L ≤ 128 := Nat.le_of_dvd (by decide) ⟨i0, by rw [Nat.mul_comm]; exact hi.symm⟩
    omega
  obtain ⟨x', k', h0, h1, h2, h3⟩ := rover_l1 g L i0 (by omega) hi hg hd hi2 i0 0 k x (by omega) hl (fun n hn => by rw [hx n hn, if_neg (by omega)]) (by omega)
  refine ⟨x', k', by omega, ?_, h2, h3⟩
  simp only [chatelaineref4_Over.l0]
  refine ifp (by omega) ?_
  rw [Nat.mul_zero, Nat.add_zero] at h1
  rw [show Int.tdiv (L : Int) 2 = ((L / 2 : Nat) : Int) by rw [Int.tdiv_eq_ediv_of_nonneg (by omega)]; omega] at h1
  exact h1
theorem rover_eq (k : Nat) (x : List Int) (h : Poly x) (hk : 5000 ≤ k) : chatelaineref4_Over.f k x = some (ofN (ntt (at_ x))) := by
  unfold chatelaineref4_Over.f
  refine bnd (rmay_yes k x h (by omega)) (ifp rfl (ifp (by rw [h.1]; decide) ?_))
  rw [List.nil_append]
  obtain ⟨x1, k1, a1, b1, c1, d1⟩ := rover_layer (at_ x) 128 1 (by decide) rfl h.2 (fun b t hb ht => by omega) (by decide) k x h.1 (fun _ _ => rfl) (by omega)
  obtain ⟨x2, k2, a2, b2, c2, d2⟩ := rover_layer _ 64 2 (by decide) rfl (fun n _ => fwd_bd _ _ _ n) (fun b t hb ht => by omega) (by decide) k1 x1 c1 d1 (by omega)
  obtain ⟨x3, k3, a3, b3, c3, d3⟩ := rover_layer _ 32 4 (by decide) rfl (fun n _ => fwd_bd _ _ _ n) (fun b t hb ht => by omega) (by decide) k2 x2 c2 d2 (by omega)
  obtain ⟨x4, k4, a4, b4, c4, d4⟩ := rover_layer _ 16 8 (by decide) rfl (fun n _ => fwd_bd _ _ _ n) (fun b t hb ht => by omega) (by decide) k3 x3 c3 d3 (by omega)
  obtain ⟨x5, k5, a5, b5, c5, d5⟩ := rover_layer _ 8 16 (by decide) rfl (fun n _ => fwd_bd _ _ _ n) (fun b t hb ht => by omega) (by decide) k4 x4 c4 d4 (by omega)
  obtain ⟨x6, k6, a6, b6, c6, d6⟩ := rover_layer _ 4 32 (by decide) rfl (fun n _ => fwd_bd _ _ _ n) (fun b t hb ht => by omega) (by decide) k5 x5 c5 d5 (by omega)
  obtain ⟨x7, k7, a7, b7, c7, d7⟩ := rover_layer _ 2 64 (by decide) rfl (fun n _ => fwd_bd _ _ _ n) (fun b t hb ht => by omega) (by decide) k6 x6 c6 d6 (by omega)
  have e : chatelaineref4_Over.l0 k x 1 128 = chatelaineref4_Over.l0 k7 x7 128 1 := b1.trans (b2.trans (b3.trans (b4.trans (b5.trans (b6.trans b7)))))
  rw [e]
  obtain ⟨k7, rfl⟩ : ∃ q, k7 = q + 1 := ⟨k7 - 1, by omega⟩
  simp only [chatelaineref4_Over.l0]
  rw [if_neg (by decide), eq_ofN c7 d7]
  rfl
theorem rback_l2 (g F : Nat → Int) (L s : Nat) (z i : Int) (hL : 1 ≤ L) (hs : s + 2 * L ≤ 256) (hz : 0 ≤ z ∧ z < 3329) (hg : ∀ n, n < 256 → 0 ≤ g n ∧ g n < 3329)
    (hF : ∀ t, t < L → F (s + t) = (g (s + t) + g (s + t + L)) % 3329 ∧ F (s + t + L) = (z * (g (s + t + L) - g (s + t))) % 3329) :
    ∀ (m j k : Nat) (x : List Int), j + m = s + L → s ≤ j → x.length = 256 → (∀ n, n < 256 → at_ x n = if n < j ∨ (s + L ≤ n ∧ n < j + L) then F n else g n) → m < k →
      ∃ x', chatelaineref4_Back.l2 k x i L s z j = chatelaineref4_Back.l1 (k - m - 1) x' i L ((s + 2 * L : Nat) : Int) ∧ x'.length = 256 ∧ ∀ n, n < 256 → at_ x' n = if n < s + 2 * L then F n else g n := by
  intro m
  induction m with
  | zero =>
    intro j k x h hj hl hx hk
    obtain ⟨k, rfl⟩ : ∃ q, k = q + 1 := ⟨k - 1, by omega⟩
    refine ⟨x, ?_, hl, fun n hn => ?_⟩
    · simp only [chatelaineref4_Back.l2]
      rw [w64 (n := (s : Int) + L) (by omega) (by omega), if_neg (by omega), w64 (n := 2 * (L : Int)) (by omega) (by omega), w64 (n := (s : Int) + 2 * L) (by omega) (by omega)]
      simp
    · rw [hx n hn]
      by_cases c : n < s + 2 * L
      · rw [if_pos c, if_pos (by omega)]
      · rw [if_neg c, if_neg (by omega)]
  | succ m ih =>
    intro j k x h hj hl hx hk
    obtain ⟨k, rfl⟩ : ∃ q, k = q + 1 := ⟨k - 1, by omega⟩
    have ha : at_ x j = g j := by rw [hx j (by omega), if_neg (by omega)]
    have hb : at_ x (j + L) = g (j + L) := by rw [hx (j + L) (by omega), if_neg (by omega)]
    have hga := hg j (by omega)
    have hgb := hg (j + L) (by omega)
    obtain ⟨F1, F2⟩ := hF (j - s) (by omega)
    rw [show s + (j - s) = j by omega] at F1 F2
    have hstep : chatelaineref4_Back.l2 (k + 1) x i L s z j = chatelaineref4_Back.l2 k ((x.set j (F j)).set (j + L) (F (j + L))) i L s z ((j + 1 : Nat) : Int) := by
      simp only [chatelaineref4_Back.l2]
      rw [w64 (n := (s : Int) + L) (by omega) (by omega), w64 (n := (j : Int) + L) (by omega) (by omega), show (j : Int) + L = ((j + L : Nat) : Int) by omega, rd_at, rd_at, ha, hb]
      refine ifp (by omega) (ifp (by omega) (ifp (by omega) (ifp (by omega) (ifp (by omega) ?_))))
      rw [w64 (n := g j + g (j + L)) (by omega) (by omega), tmod_pos (a := g j + g (j + L)) (by omega), Int.toNat_natCast]
      refine bnd rfl ?_
      rw [← F1, rd_at, at_set x j (j + L) _ (by omega), if_neg (by omega), hb, w64 (n := g (j + L) - g j) (by omega) (by omega), w64 (n := g (j + L) - g j + 3329) (by omega) (by omega)]
      have hm : 0 ≤ z * (g (j + L) - g j + 3329) ∧ z * (g (j + L) - g j + 3329) ≤ 3329 * 6658 := ⟨Int.mul_nonneg hz.1 (by omega), Int.mul_le_mul (by omega) (by omega) (by omega) (by omega)⟩
      rw [w64 (n := z * (g (j + L) - g j + 3329)) (by omega) (by omega), tmod_pos hm.1, Int.toNat_natCast, w64 (n := (j : Int) + 1) (by omega) (by omega)]
      have e1 : z * (g (j + L) - g j + 3329) % 3329 = F (j + L) := by
        rw [F2, Int.mul_add, Int.mul_comm z 3329, Int.add_mul_emod_self_left]
      rw [e1]; rfl
    obtain ⟨x', h1, h2, h3⟩ := ih (j + 1) k ((x.set j (F j)).set (j + L) (F (j + L))) (by omega) (by omega) (by rw [List.length_set, List.length_set]; exact hl) (fun n hn => by
      rw [at_set _ (j + L) n _ (by rw [List.length_set]; omega), at_set x j n _ (by omega)]
      by_cases c1 : n = j + L
      · rw [if_pos c1, if_pos (by omega), c1]
      · rw [if_neg c1]
        by_cases c2 : n = j
        · rw [if_pos c2, if_pos (by omega), c2]
        · rw [if_neg c2, hx n hn]
          by_cases c3 : n < j ∨ (s + L ≤ n ∧ n < j + L)
          · rw [if_pos c3, if_pos (by omega)]
          · rw [if_neg c3, if_neg (by omega)]) (by omega)
    refine ⟨x', ?_, h2, h3⟩
    rw [hstep, h1, show k - m - 1 = k + 1 - (m + 1) - 1 by omega]
theorem rback_l1 (g : Nat → Int) (L i0 : Nat) (hL : 1 ≤ L) (hi : i0 * L = 128) (hg : ∀ n, n < 256 → 0 ≤ g n ∧ g n < 3329)
    (hd : ∀ b t, b < i0 → t < L → (2 * L * b + t) / (2 * L) = b ∧ (2 * L * b + t) % (2 * L) = t ∧ (2 * L * b + t + L) / (2 * L) = b ∧ (2 * L * b + t + L) % (2 * L) = t + L) (hi1 : 1 ≤ i0) (hi2 : i0 ≤ 64) :
    ∀ (m b k : Nat) (x : List Int), b + m = i0 → x.length = 256 → (∀ n, n < 256 → at_ x n = if n < 2 * L * b then bwd L (zb i0) g n else g n) → (m + 1) * (L + 2) + 80 < k →
      ∃ x' k', k ≤ k' + (m + 1) * (L + 2) ∧ chatelaineref4_Back.l1 k x (2 * i0 - 1 - b : Int) L ((2 * L * b : Nat) : Int) = chatelaineref4_Back.l0 k' x' ((i0 : Int) - 1) ((2 * L : Nat) : Int) ∧ x'.length = 256 ∧ ∀ n, n < 256 → at_ x' n = bwd L (zb i0) g n := by
  have hLb : L ≤ 128 := Nat.le_of_dvd (by decide) ⟨i0, by rw [Nat.mul_comm]; exact hi.symm⟩
  have h256 : 2 * L * i0 = 256 := by rw [Nat.mul_comm 2 L, Nat.mul_assoc, Nat.mul_comm L, Nat.mul_assoc, Nat.mul_comm 2, hi]
  intro m
  induction m with
  | zero =>
    intro b k x h hl hx hk
    obtain ⟨k, rfl⟩ : ∃ q, k = q + 1 := ⟨k - 1, by omega⟩
    have hb : b = i0 := by omega
    subst hb
    refine ⟨x, k, by omega, ?_, hl, fun n hn => by rw [hx n hn, if_pos (by omega)]⟩
    simp only [chatelaineref4_Back.l1]
    rw [h256, if_neg (by decide), w64 (n := 2 * (L : Int)) (by omega) (by omega), show 2 * (b : Int) - 1 - b = b - 1 by omega, show 2 * (L : Int) = ((2 * L : Nat) : Int) by omega]
  | succ m ih =>
    intro b k x h hl hx hk
    obtain ⟨k, rfl⟩ : ∃ q, k = q + 1 := ⟨k - 1, by omega⟩
    have hbi : b + 1 ≤ i0 := by omega
    have hbl : 2 * L * (b + 1) ≤ 256 := by
      have := Nat.mul_le_mul_left (2 * L) hbi
      omega
    have hs : 2 * L * b + 2 * L ≤ 256 := by rw [Nat.mul_add, Nat.mul_one] at hbl; exact hbl
    have hexp : (m + 1 + 1) * (L + 2) = (m + 1) * (L + 2) + (L + 2) := by rw [Nat.add_mul (m + 1), Nat.one_mul]
    obtain ⟨x1, h1, h2, h3⟩ := rback_l2 g (bwd L (zb i0) g) L (2 * L * b) (rt (2 * i0 - 1 - b)) (2 * (i0 : Int) - 1 - (b + 1 : Nat)) hL hs (rt_bd _) hg (fun t ht => by
      obtain ⟨d1, d2, d3, d4⟩ := hd b t (by omega) ht
      constructor
      · unfold bwd; rw [d2, if_pos ht]
      · unfold bwd; rw [d3, d4, if_neg (by omega), show 2 * L * b + t + L - L = 2 * L * b + t by omega]; rfl) L (2 * L * b) k x (by omega) (by omega) hl (fun n hn => by
      rw [hx n hn]
      by_cases c : n < 2 * L * b
      · rw [if_pos c, if_pos (by omega)]
      · rw [if_neg c, if_neg (by omega)]) (by omega)
    obtain ⟨x2, k2, q0, q1, q2, q3⟩ := ih (b + 1) (k - L - 1) x1 (by omega) h2 (fun n hn => by rw [h3 n hn, Nat.mul_add, Nat.mul_one]) (by omega)
    refine ⟨x2, k2, by omega, ?_, q2, q3⟩
    simp only [chatelaineref4_Back.l1]
    rw [show 2 * (i0 : Int) - 1 - b = ((2 * i0 - 1 - b : Nat) : Int) by omega]
    refine ifp (by omega) (bnd (rroot_rt k (2 * i0 - 1 - b) (by omega)) ?_)
    rw [w64 (n := ((2 * i0 - 1 - b : Nat) : Int) - 1) (by omega) (by omega), show ((2 * i0 - 1 - b : Nat) : Int) - 1 = 2 * (i0 : Int) - 1 - (b + 1 : Nat) by omega]
    rw [h1, show 2 * L * b + 2 * L = 2 * L * (b + 1) by rw [Nat.mul_add, Nat.mul_one]]
    exact q1
theorem rback_layer (g : Nat → Int) (L i0 : Nat) (hL : 2 ≤ L) (hi : i0 * L = 128) (hg : ∀ n, n < 256 → 0 ≤ g n ∧ g n < 3329)
    (hd : ∀ b t, b < i0 → t < L → (2 * L * b + t) / (2 * L) = b ∧ (2 * L * b + t) % (2 * L) = t ∧ (2 * L * b + t + L) / (2 * L) = b ∧ (2 * L * b + t + L) % (2 * L) = t + L) (hi1 : 1 ≤ i0) (hi2 : i0 ≤ 64)
    (k : Nat) (x : List Int) (hl : x.length = 256) (hx : ∀ n, n < 256 → at_ x n = g n) (hk : 600 < k) :
    ∃ x' k', k ≤ k' + 400 ∧ chatelaineref4_Back.l0 k x (2 * (i0 : Int) - 1) L = chatelaineref4_Back.l0 k' x' ((i0 : Int) - 1) ((2 * L : Nat) : Int) ∧ x'.length = 256 ∧ ∀ n, n < 256 → at_ x' n = bwd L (zb i0) g n := by
  have hLb : L ≤ 128 := Nat.le_of_dvd (by decide) ⟨i0, by rw [Nat.mul_comm]; exact hi.symm⟩
  obtain ⟨k, rfl⟩ : ∃ q, k = q + 1 := ⟨k - 1, by omega⟩
  have hfuel : (i0 + 1) * (L + 2) ≤ 390 := by
    rw [Nat.add_mul, Nat.mul_add, hi]
    omega
  obtain ⟨x', k', h0, h1, h2, h3⟩ := rback_l1 g L i0 (by omega) hi hg hd hi1 hi2 i0 0 k x (by omega) hl (fun n hn => by rw [hx n hn, if_neg (by omega)]) (by omega)
  refine ⟨x', k', by omega, ?_, h2, h3⟩
  simp only [chatelaineref4_Back.l0]
  refine ifp (by omega) ?_
  rw [Nat.mul_zero] at h1
  rw [← h1]
  simp
theorem rback_l3 (g : Nat → Int) (hg : ∀ n, n < 256 → 0 ≤ g n ∧ g n < 3329) : ∀ (m j k : Nat) (x : List Int), j + m = 256 → x.length = 256 → (∀ n, n < 256 → at_ x n = if n < j then g n * 3303 % 3329 else g n) → m < k →
    chatelaineref4_Back.l3 k x (j : Int) = some (ofN fun n => g n * 3303 % 3329) := by
  intro m
  induction m with
  | zero =>
    intro j k x h hl hx hk
    obtain ⟨k, rfl⟩ : ∃ q, k = q + 1 := ⟨k - 1, by omega⟩
    simp only [chatelaineref4_Back.l3]
    rw [if_neg (by omega)]
    congr 1
    exact eq_ofN hl fun n hn => by rw [hx n hn, if_pos (by omega)]
  | succ m ih =>
    intro j k x h hl hx hk
    obtain ⟨k, rfl⟩ : ∃ q, k = q + 1 := ⟨k - 1, by omega⟩
    have ha : at_ x j = g j := by rw [hx j (by omega), if_neg (by omega)]
    have hgj := hg j (by omega)
    simp only [chatelaineref4_Back.l3]
    refine ifp (by omega) (ifp (by omega) (ifp (by omega) ?_))
    rw [rd_at, ha, w64 (n := g j * 3303) (by omega) (by omega), tmod_pos (a := g j * 3303) (by omega), Int.toNat_natCast, w64 (n := (j : Int) + 1) (by omega) (by omega), show (j : Int) + 1 = ((j + 1 : Nat) : Int) by omega]
    refine ih (j + 1) k _ (by omega) (by rw [List.length_set]; exact hl) (fun n hn => ?_) (by omega)
    rw [at_set x j n _ (by omega)]
    by_cases c : n = j
    · rw [if_pos c, if_pos (by omega), c]
    · rw [if_neg c, hx n hn]
      by_cases c2 : n < j
      · rw [if_pos c2, if_pos (by omega)]
      · rw [if_neg c2, if_neg (by omega)]
theorem rback_eq (k : Nat) (x : List Int) (h : Poly x) (hk : 5000 ≤ k) : chatelaineref4_Back.f k x = some (ofN (inv (at_ x))) := by
  unfold chatelaineref4_Back.f
  refine bnd (rmay_yes k x h (by omega)) (ifp rfl (ifp (by rw [h.1]; decide) ?_))
  rw [List.nil_append]
  obtain ⟨x1, k1, a1, b1, c1, d1⟩ := rback_layer (at_ x) 2 64 (by decide) rfl h.2 (fun b t hb ht => by omega) (by decide) (by decide) k x h.1 (fun _ _ => rfl) (by omega)
  obtain ⟨x2, k2, a2, b2, c2, d2⟩ := rback_layer _ 4 32 (by decide) rfl (fun n _ => bwd_bd _ _ _ n) (fun b t hb ht => by omega) (by decide) (by decide) k1 x1 c1 d1 (by omega)
  obtain ⟨x3, k3, a3, b3, c3, d3⟩ := rback_layer _ 8 16 (by decide) rfl (fun n _ => bwd_bd _ _ _ n) (fun b t hb ht => by omega) (by decide) (by decide) k2 x2 c2 d2 (by omega)
  obtain ⟨x4, k4, a4, b4, c4, d4⟩ := rback_layer _ 16 8 (by decide) rfl (fun n _ => bwd_bd _ _ _ n) (fun b t hb ht => by omega) (by decide) (by decide) k3 x3 c3 d3 (by omega)
  obtain ⟨x5, k5, a5, b5, c5, d5⟩ := rback_layer _ 32 4 (by decide) rfl (fun n _ => bwd_bd _ _ _ n) (fun b t hb ht => by omega) (by decide) (by decide) k4 x4 c4 d4 (by omega)
  obtain ⟨x6, k6, a6, b6, c6, d6⟩ := rback_layer _ 64 2 (by decide) rfl (fun n _ => bwd_bd _ _ _ n) (fun b t hb ht => by omega) (by decide) (by decide) k5 x5 c5 d5 (by omega)
  obtain ⟨x7, k7, a7, b7, c7, d7⟩ := rback_layer _ 128 1 (by decide) rfl (fun n _ => bwd_bd _ _ _ n) (fun b t hb ht => by omega) (by decide) (by decide) k6 x6 c6 d6 (by omega)
  have e : chatelaineref4_Back.l0 k x 127 2 = chatelaineref4_Back.l0 k7 x7 0 256 := b1.trans (b2.trans (b3.trans (b4.trans (b5.trans (b6.trans b7)))))
  rw [e]
  obtain ⟨k7, rfl⟩ : ∃ q, k7 = q + 1 := ⟨k7 - 1, by omega⟩
  simp only [chatelaineref4_Back.l0]
  rw [if_neg (by decide)]
  exact rback_l3 _ (fun n _ => bwd_bd _ _ _ n) 256 0 k7 x7 (by omega) c7 (fun n hn => by rw [d7 n hn, if_neg (by omega)]) (by omega)
theorem rover_no (k : Nat) (x : List Int) (h : ¬ Poly x) (hk : 600 ≤ k) : chatelaineref4_Over.f k x = some [] := by
  unfold chatelaineref4_Over.f
  exact bnd (rmay_no k x h hk) (ifn (by decide) rfl)
theorem rback_no (k : Nat) (x : List Int) (h : ¬ Poly x) (hk : 600 ≤ k) : chatelaineref4_Back.f k x = some [] := by
  unfold chatelaineref4_Back.f
  exact bnd (rmay_no k x h hk) (ifn (by decide) rfl)
theorem back_no (k : Nat) (x : List Int) (h : ¬ Poly x) (hk : 300 ≤ k) : poly_Back.f k x = some [] := by
  unfold poly_Back.f
  exact bnd (may_no k x h hk) (ifn (by decide) rfl)

/-! ### Add, Sub -/
theorem at_snoc (out : List Int) (v : Int) (n : Nat) (h : n < out.length + 1) : at_ (out ++ [v]) n = if n < out.length then at_ out n else v := by
  unfold at_
  rw [List.getD_eq_getElem?_getD, List.getD_eq_getElem?_getD]
  by_cases c : n < out.length
  · rw [if_pos c, List.getElem?_append_left c]
  · rw [if_neg c, List.getElem?_append_right (by omega), show n - out.length = 0 by omega]
    rfl
theorem radd_l0 (x y : List Int) (hx : Poly x) (hy : Poly y) : ∀ (m j k : Nat) (out : List Int), j + m = 256 → out.length = j → (∀ n, n < j → at_ out n = (at_ x n + at_ y n) % 3329) → m + 650 ≤ k → chatelaineref4_Add.l0 k x y out (j : Int) = some (ofN fun n => (at_ x n + at_ y n) % 3329) := by
  have hx1 := hx.1
  have hy1 := hy.1
  intro m
  induction m with
  | zero =>
    intro j k out h hl ho hk
    obtain ⟨k, rfl⟩ : ∃ q, k = q + 1 := ⟨k - 1, by omega⟩
    rw [chatelaineref4_Add.l0, if_neg (by omega)]
    congr 1
    exact eq_ofN (by omega) fun n hn => ho n (by omega)
  | succ m ih =>
    intro j k out h hl ho hk
    obtain ⟨k, rfl⟩ : ∃ q, k = q + 1 := ⟨k - 1, by omega⟩
    rw [chatelaineref4_Add.l0, if_pos (by omega)]
    refine bnd (rmay_yes k x hx (by omega)) (ifp rfl (bnd (rmay_yes k y hy (by omega)) (ifp rfl (ifp (by omega) (ifp (by omega) (ifp (by omega) ?_))))))
    rw [rd_at, rd_at]
    refine bnd (radd_eq _ _) (ifp (by omega) ?_)
    rw [w64 (by omega) (by omega), show (j : Int) + 1 = ((j + 1 : Nat) : Int) by omega]
    refine ih (j + 1) k _ (by omega) (by rw [List.length_append, hl]; rfl) (fun n hn => ?_) (by omega)
    rw [at_snoc out _ n (by omega)]
    by_cases c : n < out.length
    · rw [if_pos c]; exact ho n (by omega)
    · rw [if_neg c, show n = j by omega]
theorem raddp_eq (k : Nat) (x y : List Int) (hx : Poly x) (hy : Poly y) (hk : 1000 ≤ k) : chatelaineref4_Add.f k x y = some (ofN fun n => (at_ x n + at_ y n) % 3329) :=
  radd_l0 x y hx hy 256 0 k [] (by omega) rfl (fun n hn => by omega) (by omega)
theorem raddp_no (k : Nat) (x y : List Int) (h : ¬ (Poly x ∧ Poly y)) (hk : 1000 ≤ k) : chatelaineref4_Add.f k x y = some [] := by
  obtain ⟨k, rfl⟩ : ∃ q, k = q + 1 := ⟨k - 1, by omega⟩
  unfold chatelaineref4_Add.f
  rw [chatelaineref4_Add.l0, if_pos (by decide)]
  by_cases hx : Poly x
  · exact bnd (rmay_yes k x hx (by omega)) (ifp rfl (bnd (rmay_no k y (fun hy => h ⟨hx, hy⟩) (by omega)) (ifn (by decide) rfl)))
  · exact bnd (rmay_no k x hx (by omega)) (ifn (by decide) rfl)
theorem rsub_l0 (x y : List Int) (hx : Poly x) (hy : Poly y) : ∀ (m j k : Nat) (out : List Int), j + m = 256 → out.length = j → (∀ n, n < j → at_ out n = (at_ x n - at_ y n) % 3329) → m + 2 ≤ k → chatelaineref4_Sub.l0 k x y out (j : Int) = some (ofN fun n => (at_ x n - at_ y n) % 3329) := by
  have hx1 := hx.1
  have hy1 := hy.1
  intro m
  induction m with
  | zero =>
    intro j k out h hl ho hk
    obtain ⟨k, rfl⟩ : ∃ q, k = q + 1 := ⟨k - 1, by omega⟩
    rw [chatelaineref4_Sub.l0, if_neg (by omega)]
    congr 1
    exact eq_ofN (by omega) fun n hn => ho n (by omega)
  | succ m ih =>
    intro j k out h hl ho hk
    obtain ⟨k, rfl⟩ : ∃ q, k = q + 1 := ⟨k - 1, by omega⟩
    rw [chatelaineref4_Sub.l0, if_pos (by omega), if_pos (by omega), if_pos (by omega), if_pos (by omega), rd_at, rd_at]
    refine bnd (rsub_eq _ _) (ifp (by omega) ?_)
    rw [w64 (by omega) (by omega), show (j : Int) + 1 = ((j + 1 : Nat) : Int) by omega]
    refine ih (j + 1) k _ (by omega) (by rw [List.length_append, hl]; rfl) (fun n hn => ?_) (by omega)
    rw [at_snoc out _ n (by omega)]
    by_cases c : n < out.length
    · rw [if_pos c]; exact ho n (by omega)
    · rw [if_neg c, show n = j by omega]
theorem rsubp_eq (k : Nat) (x y : List Int) (hx : Poly x) (hy : Poly y) (hk : 1000 ≤ k) : chatelaineref4_Sub.f k x y = some (ofN fun n => (at_ x n - at_ y n) % 3329) := by
  obtain ⟨k, rfl⟩ : ∃ q, k = q + 1 := ⟨k - 1, by omega⟩
  unfold chatelaineref4_Sub.f
  refine bnd (rmay_yes _ x hx (by omega)) (ifp rfl (bnd (rmay_yes _ y hy (by omega)) ?_))
  rw [chatelaineref4_Sub.j0, if_neg (by decide)]
  exact rsub_l0 x y hx hy 256 0 k [] (by omega) rfl (fun n hn => by omega) (by omega)
theorem rsubp_no (k : Nat) (x y : List Int) (h : ¬ (Poly x ∧ Poly y)) (hk : 1000 ≤ k) : chatelaineref4_Sub.f k x y = some [] := by
  obtain ⟨k, rfl⟩ : ∃ q, k = q + 1 := ⟨k - 1, by omega⟩
  unfold chatelaineref4_Sub.f
  by_cases hx : Poly x
  · refine bnd (rmay_yes _ x hx (by omega)) (ifp rfl (bnd (rmay_no _ y (fun hy => h ⟨hx, hy⟩) (by omega)) ?_))
    rw [chatelaineref4_Sub.j0, if_pos (by decide)]
  · refine bnd (rmay_no _ x hx (by omega)) (ifn (by decide) ?_)
    rw [chatelaineref4_Sub.j0, if_pos rfl]
theorem padd_no (k : Nat) (x y : List Int) (h : ¬ (Poly x ∧ Poly y)) (hk : 1000 ≤ k) : poly_Add.f k x y = some [] := by
  obtain ⟨k, rfl⟩ : ∃ q, k = q + 1 := ⟨k - 1, by omega⟩
  unfold poly_Add.f poly_each_at_ring_Add.f
  by_cases hx : Poly x
  · refine bnd (bnd (may_yes _ x hx (by omega)) (ifp rfl (bnd (may_no _ y (fun hy => h ⟨hx, hy⟩) (by omega)) ?_))) rfl
    rw [poly_each_at_ring_Add.j0, if_pos (by decide)]
  · refine bnd (bnd (may_no _ x hx (by omega)) (ifn (by decide) ?_)) rfl
    rw [poly_each_at_ring_Add.j0, if_pos rfl]
theorem psub_no (k : Nat) (x y : List Int) (h : ¬ (Poly x ∧ Poly y)) (hk : 1000 ≤ k) : poly_Sub.f k x y = some [] := by
  obtain ⟨k, rfl⟩ : ∃ q, k = q + 1 := ⟨k - 1, by omega⟩
  unfold poly_Sub.f poly_each_at_ring_Sub.f
  by_cases hx : Poly x
  · refine bnd (bnd (may_yes _ x hx (by omega)) (ifp rfl (bnd (may_no _ y (fun hy => h ⟨hx, hy⟩) (by omega)) ?_))) rfl
    rw [poly_each_at_ring_Sub.j0, if_pos (by decide)]
  · refine bnd (bnd (may_no _ x hx (by omega)) (ifn (by decide) ?_)) rfl
    rw [poly_each_at_ring_Sub.j0, if_pos rfl]

/-! ### Times -/
theorem rze (k : Nat) (j : Nat) (hk : 80 < k) : chatelaineref3_Turned.f k 7 (j : Int) = some (rv j : Int) ∧ chatelaineref3_Pow.f k 17 (2 * (rv j : Int) + 1) = some (ze j) := by
  have e : rev7 (j : Int) = (rv j : Int) := by unfold rev7 rv; omega
  refine ⟨by rw [turned_eq k _ (by omega), e], ?_⟩
  have hb : rv j ≤ 127 := by unfold rv; omega
  rw [rpow_eq k 17 _ (by omega) (by omega) (by omega), show (2 * (rv j : Int) + 1).toNat = 2 * rv j + 1 by omega]
  congr 1
theorem rtimes_l0 (x y : List Int) (hx : Poly x) (hy : Poly y) : ∀ (m j k : Nat) (out : List Int), j + m = 128 → out.length = 2 * j → (∀ n, n < 2 * j → at_ out n = tim (at_ x) (at_ y) n) → m + 90 < k →
    chatelaineref4_Times.l0 k x y out (j : Int) = some (ofN (tim (at_ x) (at_ y))) := by
  have hx1 := hx.1
  have hy1 := hy.1
  intro m
  induction m with
  | zero =>
    intro j k out h hl ho hk
    obtain ⟨k, rfl⟩ : ∃ q, k = q + 1 := ⟨k - 1, by omega⟩
    rw [chatelaineref4_Times.l0, if_neg (by omega)]
    congr 1
    exact eq_ofN (by omega) fun n hn => ho n (by omega)
  | succ m ih =>
    intro j k out h hl ho hk
    obtain ⟨k, rfl⟩ : ∃ q, k = q + 1 := ⟨k - 1, by omega⟩
    obtain ⟨q1, q2⟩ := rze k j (by omega)
    have hrb : rv j ≤ 127 := by unfold rv; omega
    rw [chatelaineref4_Times.l0, if_pos (by omega)]
    refine bnd q1 ?_
    rw [w64 (n := 2 * (rv j : Int)) (by omega) (by omega), w64 (n := 2 * (rv j : Int) + 1) (by omega) (by omega)]
    refine bnd q2 ?_
    rw [w64 (n := 2 * (j : Int)) (by omega) (by omega), w64 (n := 2 * (j : Int) + 1) (by omega) (by omega), show 2 * (j : Int) + 1 = ((2 * j + 1 : Nat) : Int) by omega, show 2 * (j : Int) = ((2 * j : Nat) : Int) by omega]
    refine ifp (by omega) (ifp (by omega) (ifp (by omega) (ifp (by omega) (ifp (by omega) (ifp (by omega) ?_)))))
    rw [rd_at, rd_at, rd_at, rd_at]
    have ha := hx.2 (2 * j) (by omega)
    have hb := hx.2 (2 * j + 1) (by omega)
    have hc := hy.2 (2 * j) (by omega)
    have hd := hy.2 (2 * j + 1) (by omega)
    have hz := ze_bd j
    have m1 := mul_bd ha hc
    have m2 := mul_bd hb hd
    have m3 := mul_bd ha hd
    have m4 := mul_bd hb hc
    have m7 := mul_bd hz (em (at_ x (2 * j + 1) * at_ y (2 * j + 1)))
    rw [w64 (n := at_ x (2 * j) * at_ y (2 * j)) (by omega) (by omega), w64 (n := at_ x (2 * j + 1) * at_ y (2 * j + 1)) (by omega) (by omega), tmod_pos m2.1,
      w64 (n := ze j * (at_ x (2 * j + 1) * at_ y (2 * j + 1) % 3329)) (by omega) (by omega), w64 (n := at_ x (2 * j) * at_ y (2 * j) + ze j * (at_ x (2 * j + 1) * at_ y (2 * j + 1) % 3329)) (by omega) (by omega), tmod_pos (a := at_ x (2 * j) * at_ y (2 * j) + ze j * (at_ x (2 * j + 1) * at_ y (2 * j + 1) % 3329)) (by omega),
      w64 (n := at_ x (2 * j) * at_ y (2 * j + 1)) (by omega) (by omega), w64 (n := at_ x (2 * j + 1) * at_ y (2 * j)) (by omega) (by omega), w64 (n := at_ x (2 * j) * at_ y (2 * j + 1) + at_ x (2 * j + 1) * at_ y (2 * j)) (by omega) (by omega), tmod_pos (a := at_ x (2 * j) * at_ y (2 * j + 1) + at_ x (2 * j + 1) * at_ y (2 * j)) (by omega)]
    refine bnd rfl (ifp (by simp only [List.length_cons, List.length_nil]; omega) ?_)
    rw [w64 (n := (j : Int) + 1) (by omega) (by omega), show (j : Int) + 1 = ((j + 1 : Nat) : Int) by omega, ← List.singleton_append, ← List.append_assoc]
    refine ih (j + 1) k _ (by omega) (by simp only [List.length_append, List.length_cons, List.length_nil]; omega) (fun n hn => ?_) (by omega)
    rw [at_snoc _ _ n (by simp only [List.length_append, List.length_cons, List.length_nil]; omega)]
    by_cases c : n < (out ++ [(at_ x (2 * j) * at_ y (2 * j) + ze j * (at_ x (2 * j + 1) * at_ y (2 * j + 1) % 3329)) % 3329]).length
    · rw [if_pos c]
      simp only [List.length_append, List.length_cons, List.length_nil] at c
      rw [at_snoc _ _ n (by omega)]
      by_cases c2 : n < out.length
      · rw [if_pos c2]; exact ho n (by omega)
      · rw [if_neg c2, show n = 2 * j by omega]
        unfold tim
        rw [if_pos (by omega), show 2 * j / 2 = j by omega, Int.mul_comm (ze j)]
    · rw [if_neg c]
      simp only [List.length_append, List.length_cons, List.length_nil] at c
      rw [show n = 2 * j + 1 by omega]
      unfold tim
      rw [if_neg (by omega), show 2 * j + 1 - 1 = 2 * j by omega]
theorem rtimes_eq (k : Nat) (x y : List Int) (hx : Poly x) (hy : Poly y) (hk : 1000 ≤ k) : chatelaineref4_Times.f k x y = some (ofN (tim (at_ x) (at_ y))) := by
  obtain ⟨k, rfl⟩ : ∃ q, k = q + 1 := ⟨k - 1, by omega⟩
  unfold chatelaineref4_Times.f
  refine bnd (rmay_yes _ x hx (by omega)) (ifp rfl (bnd (rmay_yes _ y hy (by omega)) ?_))
  rw [chatelaineref4_Times.j0, if_neg (by decide)]
  exact rtimes_l0 x y hx hy 128 0 k [] (by omega) rfl (fun n hn => by omega) (by omega)
theorem rtimes_no (k : Nat) (x y : List Int) (h : ¬ (Poly x ∧ Poly y)) (hk : 1000 ≤ k) : chatelaineref4_Times.f k x y = some [] := by
  obtain ⟨k, rfl⟩ : ∃ q, k = q + 1 := ⟨k - 1, by omega⟩
  unfold chatelaineref4_Times.f
  by_cases hx : Poly x
  · refine bnd (rmay_yes _ x hx (by omega)) (ifp rfl (bnd (rmay_no _ y (fun hy => h ⟨hx, hy⟩) (by omega)) ?_))
    rw [chatelaineref4_Times.j0, if_pos (by decide)]
  · refine bnd (rmay_no _ x hx (by omega)) (ifn (by decide) ?_)
    rw [chatelaineref4_Times.j0, if_pos rfl]
theorem times_no (k : Nat) (x y : List Int) (h : ¬ (Poly x ∧ Poly y)) (hk : 1000 ≤ k) : poly_Times.f k x y = some [] := by
  obtain ⟨k, rfl⟩ : ∃ q, k = q + 1 := ⟨k - 1, by omega⟩
  unfold poly_Times.f
  by_cases hx : Poly x
  · refine bnd (may_yes _ x hx (by omega)) (ifp rfl (bnd (may_no _ y (fun hy => h ⟨hx, hy⟩) (by omega)) ?_))
    rw [poly_Times.j0, if_pos (by decide)]
  · refine bnd (may_no _ x hx (by omega)) (ifn (by decide) ?_)
    rw [poly_Times.j0, if_pos rfl]

/-! ### both answer alike -/
theorem both_add (k : Nat) (x y : List Int) (hk : 5000 ≤ k) : ∃ r, poly_Add.f k x y = some r ∧ chatelaineref4_Add.f k x y = some r ∧ r.length ≤ 256 := by
  by_cases h : Poly x ∧ Poly y
  · exact ⟨_, padd_eq k x y h.1 h.2 (by omega), raddp_eq k x y h.1 h.2 (by omega), by rw [ofN_length]; omega⟩
  · exact ⟨_, padd_no k x y h (by omega), raddp_no k x y h (by omega), by simp⟩
theorem both_sub (k : Nat) (x y : List Int) (hk : 5000 ≤ k) : ∃ r, poly_Sub.f k x y = some r ∧ chatelaineref4_Sub.f k x y = some r ∧ r.length ≤ 256 := by
  by_cases h : Poly x ∧ Poly y
  · exact ⟨_, psub_eq k x y h.1 h.2 (by omega), rsubp_eq k x y h.1 h.2 (by omega), by rw [ofN_length]; omega⟩
  · exact ⟨_, psub_no k x y h (by omega), rsubp_no k x y h (by omega), by simp⟩
theorem both_times (k : Nat) (x y : List Int) (hk : 5000 ≤ k) : ∃ r, poly_Times.f k x y = some r ∧ chatelaineref4_Times.f k x y = some r ∧ r.length ≤ 256 := by
  by_cases h : Poly x ∧ Poly y
  · exact ⟨_, times_eq k x y h.1 h.2 (by omega), rtimes_eq k x y h.1 h.2 (by omega), by rw [ofN_length]; omega⟩
  · exact ⟨_, times_no k x y h (by omega), rtimes_no k x y h (by omega), by simp⟩
theorem both_over (k : Nat) (x : List Int) (hk : 5000 ≤ k) : ∃ r, poly_Over.f k x = some r ∧ chatelaineref4_Over.f k x = some r ∧ r.length ≤ 256 := by
  by_cases h : Poly x
  · exact ⟨_, over_eq k x h hk, rover_eq k x h hk, by rw [ofN_length]; omega⟩
  · exact ⟨_, over_no k x h (by omega), rover_no k x h (by omega), by simp⟩
theorem both_back (k : Nat) (x : List Int) (hk : 5000 ≤ k) : ∃ r, poly_Back.f k x = some r ∧ chatelaineref4_Back.f k x = some r ∧ r.length ≤ 256 := by
  by_cases h : Poly x
  · exact ⟨_, back_eq k x h hk, rback_eq k x h hk, by rw [ofN_length]; omega⟩
  · exact ⟨_, back_no k x h (by omega), rback_no k x h (by omega), by simp⟩
theorem both_may (k : Nat) (x : List Int) (hk : 5000 ≤ k) : ∃ t, poly_May.f k x = some t ∧ chatelaineref4_May.f k x = some t := by
  by_cases h : Poly x
  · exact ⟨_, may_yes k x h (by omega), rmay_yes k x h (by omega)⟩
  · exact ⟨_, may_no k x h (by omega), rmay_no k x h (by omega)⟩
theorem overints (k : Nat) (x : List Int) (hx : x.length ≤ 1000) (hk : 2000 ≤ k) : chatelainelaw0_OverInts.f k x = some () := by
  suffices z : ∀ (m j k : Nat) (x : List Int), x.length ≤ 1000 → j + m = x.length → m < k → chatelainelaw0_OverInts.l0 k x (j : Int) = some () from z x.length 0 k x hx (by omega) (by omega)
  intro m
  induction m with
  | zero =>
    intro j k x hx h hk
    obtain ⟨k, rfl⟩ : ∃ q, k = q + 1 := ⟨k - 1, by omega⟩
    rw [chatelainelaw0_OverInts.l0, if_neg (by omega), if_pos (by omega)]
  | succ m ih =>
    intro j k x hx h hk
    obtain ⟨k, rfl⟩ : ∃ q, k = q + 1 := ⟨k - 1, by omega⟩
    rw [chatelainelaw0_OverInts.l0, if_pos (by omega), if_pos (by omega), w64 (by omega) (by omega), show (j : Int) + 1 = ((j + 1 : Nat) : Int) by omega]
    exact ih (j + 1) k _ (by rw [List.length_set]; exact hx) (by rw [List.length_set]; omega) (by omega)
end Go.Proofs.Ytiphpcehmjcejaa.PolyT
