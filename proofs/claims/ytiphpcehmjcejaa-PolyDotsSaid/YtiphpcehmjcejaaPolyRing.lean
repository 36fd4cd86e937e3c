import Derived.Test.YtiphpcehmjcejaaPPDotx1
import Derived.Test.YtiphpcehmjcejaaPPDotx7
/- What the printed functions of package ring come to: plain numbers. -/
namespace Go.Proofs.Ytiphpcehmjcejaa.PolyD
open Go.RowKit Go.Proofs.Ytiphpcehmjcejaa.PPDot Go.Proofs.YtiphpcehmjcejaaW.PrintWords Go.Proofs.YtiphpcehmjcejaaW.PrintLast Go.Proofs.YtiphpcehmjcejaaW.PrintMore

theorem wf_bounds {a : Int} (h : (Lit.int .i64 a).wf = true) : -9223372036854775808 ≤ a ∧ a ≤ 9223372036854775807 := by
  simp only [Lit.wf, IntKind.min, IntKind.max, IntKind.signed, IntKind.bits, Bool.and_eq_true, decide_eq_true_eq, if_true] at h
  omega
theorem w64 {n : Int} (h0 : -9223372036854775808 ≤ n) (h1 : n ≤ 9223372036854775807) : wrap64 n = n := by unfold wrap64; omega

theorem wrap_i64_small {n : Int} (h0 : 0 ≤ n) (h1 : n ≤ 9223372036854775807) : IntKind.i64.wrap n = n := by
  rw [IntKind.wrap_i64]; omega
theorem and_mask (x : Int) (i : Nat) (hi : i ≤ 62) : Go.bits .and .i64 x (2 ^ i - 1) = x % 2 ^ i := by
  have hp : (0:Int) < 2 ^ i := Int.pow_pos (by decide)
  have hm : ((2:Int) ^ i - 1) = ((2 ^ i - 1 : Nat) : Int) := by
    have := Nat.two_pow_pos i
    rw [Int.natCast_sub this]; simp
  have h64 : (2:Nat) ^ i ≤ 2 ^ 62 := Nat.pow_le_pow_right (by decide) hi
  have hb : Go.bits .and .i64 x (2 ^ i - 1) = IntKind.i64.wrap (((BitVec.ofInt 64 x &&& BitVec.ofInt 64 (2 ^ i - 1)).toNat : Nat) : Int) := rfl
  rw [hb, hm, BitVec.ofInt_natCast, BitVec.toNat_and, BitVec.toNat_ofNat, Nat.mod_eq_of_lt (a := 2 ^ i - 1) (by omega), Nat.and_two_pow_sub_one_eq_mod, BitVec.toNat_ofInt]
  have e1 : ((((x % ((2 ^ 64 : Nat) : Int)).toNat % 2 ^ i : Nat)) : Int) = x % 2 ^ i := by
    have h0 : 0 ≤ x % ((2 ^ 64 : Nat) : Int) := Int.emod_nonneg _ (by decide)
    rw [Int.natCast_emod, Int.toNat_of_nonneg h0]
    have hd : ((2:Int) ^ i) ∣ ((2 ^ 64 : Nat) : Int) := ⟨2 ^ (64 - i), by rw [← Int.pow_add, show i + (64 - i) = 64 by omega]; rfl⟩
    have := Int.emod_emod_of_dvd x hd
    simpa using this
  rw [e1]
  have h1 := Int.emod_nonneg x (show (2:Int) ^ i ≠ 0 by omega)
  have h2 := Int.emod_lt_of_pos x hp
  have h3 : (2:Int) ^ i ≤ 2 ^ 62 := by exact_mod_cast h64
  exact wrap_i64_small h1 (by omega)
theorem tmod3329 (a : Int) : (0 ≤ Int.tmod a 3329 ∧ Int.tmod a 3329 = a % 3329) ∨ (Int.tmod a 3329 < 0 ∧ Int.tmod a 3329 = a % 3329 - 3329 ∧ -3329 < Int.tmod a 3329) := by
  have h := Int.tmod_eq_emod (a := a) (b := 3329)
  have hb := Int.emod_nonneg a (show (3329:Int) ≠ 0 by decide)
  have hl := Int.emod_lt_of_pos a (show (0:Int) < 3329 by decide)
  by_cases hc : 0 ≤ a ∨ (3329:Int) ∣ a
  · rw [if_pos hc] at h; omega
  · rw [if_neg hc] at h
    have h2 : ((Int.natAbs 3329 : Nat) : Int) = 3329 := by decide
    rw [h2] at h
    have h3 : a % 3329 ≠ 0 := fun h0 => hc (.inr (Int.dvd_of_emod_eq_zero h0))
    omega
theorem of_eq (a : Int) : ring_Of.f a = some (a % 3329) := by
  unfold ring_Of.f
  rcases tmod3329 a with ⟨h1, h2⟩ | ⟨h1, h2, h3⟩
  · rw [if_neg (by omega), h2]
  · rw [if_pos h1, w64 (by omega) (by omega)]; congr 1; omega
theorem tmod_pos {a : Int} (h : 0 ≤ a) (n : Int) : Int.tmod a n = a % n := Int.tmod_eq_emod_of_nonneg h
theorem em (a : Int) : 0 ≤ a % 3329 ∧ a % 3329 < 3329 := ⟨Int.emod_nonneg a (by decide), Int.emod_lt_of_pos a (by decide)⟩
theorem mul_bd {a b : Int} (ha : 0 ≤ a ∧ a < 3329) (hb : 0 ≤ b ∧ b < 3329) : 0 ≤ a * b ∧ a * b ≤ 11075584 := by
  refine ⟨Int.mul_nonneg ha.1 hb.1, ?_⟩
  have h1 : a * b ≤ 3328 * b := Int.mul_le_mul_of_nonneg_right (by omega) hb.1
  omega
theorem add_eq (a b : Int) : ring_Add.f a b = some ((a + b) % 3329) := by
  unfold ring_Add.f
  rw [of_eq, of_eq]; simp only [Option.bind_some]
  have h1 := em a; have h2 := em b
  rw [w64 (by omega) (by omega), tmod_pos (by omega)]; congr 1; omega
theorem emod_mul_right' (a b : Int) : a * (b % 3329) % 3329 = a * b % 3329 := by rw [Int.mul_emod, Int.emod_emod_of_dvd _ (Int.dvd_refl _), ← Int.mul_emod]
theorem emod_mul_left' (a b : Int) : a % 3329 * b % 3329 = a * b % 3329 := by rw [Int.mul_emod, Int.emod_emod_of_dvd _ (Int.dvd_refl _), ← Int.mul_emod]
theorem emod_pow (a : Int) (n : Nat) : (a % 3329) ^ n % 3329 = a ^ n % 3329 := by
  induction n with
  | zero => simp
  | succ n ih => rw [Int.pow_succ, Int.pow_succ, Int.mul_emod, ih, Int.emod_emod_of_dvd _ (Int.dvd_refl _), ← Int.mul_emod]
theorem pow_l0 (d : Nat) : ∀ (k : Nat) (a n out : Int), 0 ≤ a → a < 3329 → 0 ≤ out → out < 3329 → 0 ≤ n → n < 2 ^ d → n ≤ 9223372036854775807 → d < k →
    ring_Pow.l0 k a n out = some (out * a ^ n.toNat % 3329) := by
  induction d with
  | zero =>
    intro k a n out h1 h2 h3 h4 h5 h6 h7 hk
    obtain ⟨k, rfl⟩ : ∃ m, k = m + 1 := ⟨k - 1, by omega⟩
    have hn : n = 0 := by simp at h6; omega
    subst hn
    simp only [ring_Pow.l0]
    rw [if_neg (by omega)]
    simp; omega
  | succ d ih =>
    intro k a n out h1 h2 h3 h4 h5 h6 h7 hk
    obtain ⟨k, rfl⟩ : ∃ m, k = m + 1 := ⟨k - 1, by omega⟩
    simp only [ring_Pow.l0]
    by_cases hn : n = 0
    · subst hn; rw [if_neg (by omega)]; simp; omega
    · rw [if_pos (by omega), tmod_pos h5]
      have hm := mul_bd ⟨h1, h2⟩ ⟨h1, h2⟩
      have hm2 := mul_bd ⟨h3, h4⟩ ⟨h1, h2⟩
      rw [w64 (by omega) (by omega), tmod_pos hm.1, Int.tdiv_eq_ediv_of_nonneg h5, w64 (n := n / 2) (by omega) (by omega)]
      have hp : (2:Int) ^ (d + 1) = 2 * 2 ^ d := by rw [Int.pow_succ, Int.mul_comm]
      have e1 := em (a * a); have e2 := em (out * a)
      have key : ∀ o : Int, (o * (a * a % 3329) ^ (n / 2).toNat) % 3329 = (o * a ^ (2 * (n / 2).toNat)) % 3329 := by
        intro o
        rw [Int.pow_mul, show a ^ 2 = a * a by rw [Int.pow_succ, Int.pow_succ]; simp, ← emod_mul_right' o, emod_pow, emod_mul_right']
      by_cases ho : n % 2 = 1
      · rw [if_pos ho, w64 (by omega) (by omega), tmod_pos hm2.1, ih k _ _ _ e1.1 e1.2 e2.1 e2.2 (by omega) (by omega) (by omega) (by omega)]
        congr 1
        rw [key, emod_mul_left', show n.toNat = 2 * (n / 2).toNat + 1 by omega, Int.pow_succ, Int.mul_assoc, Int.mul_comm a]
      · rw [if_neg ho, ih k _ _ _ e1.1 e1.2 h3 h4 (by omega) (by omega) (by omega) (by omega)]
        congr 1
        rw [key, show n.toNat = 2 * (n / 2).toNat by omega]
theorem pow_eq (k : Nat) (a n : Int) (h0 : 0 ≤ n) (h1 : n ≤ 9223372036854775807) (hk : 63 < k) : ring_Pow.f k a n = some (a ^ n.toNat % 3329) := by
  unfold ring_Pow.f
  rw [if_neg (by omega), of_eq]; simp only [Option.bind_some]
  have e := em a
  rw [pow_l0 63 k _ n 1 e.1 e.2 (by decide) (by decide) h0 (by omega) h1 hk, Int.one_mul, emod_pow]
theorem pow_neg (k : Nat) (a n : Int) (h0 : n < 0) : ring_Pow.f k a n = some 0 := by
  unfold ring_Pow.f
  rw [if_pos h0]
theorem low_eq (a n : Int) (hn : 0 < n) (hn' : n ≤ 9223372036854775807) : chatelainelaw0_Low.f a n = some (IntKind.u64.wrap a % n) ∧ 0 ≤ IntKind.u64.wrap a % n ∧ IntKind.u64.wrap a % n < n := by
  have e : IntKind.u64.wrap n = n := by simp [IntKind.wrap, IntKind.bits, IntKind.signed]; omega
  have e0 : 0 ≤ IntKind.u64.wrap a := by simp [IntKind.wrap, IntKind.bits, IntKind.signed]; omega
  have h1 := Int.emod_nonneg (IntKind.u64.wrap a) (show n ≠ 0 by omega)
  have h2 := Int.emod_lt_of_pos (IntKind.u64.wrap a) hn
  refine ⟨?_, h1, h2⟩
  unfold chatelainelaw0_Low.f
  rw [e, if_neg (by omega), Int.tmod_eq_emod_of_nonneg e0, w64 (by omega) (by omega)]

/-- The seven lowest bits of a number, turned round. -/
def rev7 (a : Int) : Int := 64 * (a % 2) + 32 * (a / 2 % 2) + 16 * (a / 4 % 2) + 8 * (a / 8 % 2) + 4 * (a / 16 % 2) + 2 * (a / 32 % 2) + a / 64 % 2
theorem and1 (x : Int) : Go.bits .and .i64 x 1 = x % 2 := and_mask x 1 (by decide)
theorem rev7_bd (a : Int) : 0 ≤ rev7 a ∧ rev7 a ≤ 127 := by unfold rev7; omega
theorem root_step (k : Nat) (a r i : Int) (hr0 : 0 ≤ r) (hr : r ≤ 1000) (hi : 0 ≤ i) (hi7 : i < 7) :
    ring_Root.l0 (k + 1) a r i = ring_Root.l0 k a (2 * r + shr .i64 a i % 2) (i + 1) := by
  simp only [ring_Root.l0]
  have h2 := Int.emod_nonneg (shr .i64 a i) (show (2:Int) ≠ 0 by decide)
  have h3 := Int.emod_lt_of_pos (shr .i64 a i) (show (0:Int) < 2 by decide)
  rw [if_pos hi7, if_pos hi, and1, w64 (n := 2 * r) (by omega) (by omega), w64 (n := i + 1) (by omega) (by omega), w64 (by omega) (by omega)]
theorem shr_lit (a : Int) (i : Nat) (hi : i ≤ 64) : shr .i64 a (i : Int) = a / 2 ^ i := by
  unfold shr
  rw [Int.toNat_natCast, show IntKind.i64.bits = 64 from rfl, Nat.min_eq_left hi]
theorem root_eq (k : Nat) (a : Int) (hk : 71 < k) : ring_Root.f k a = some (17 ^ (rev7 a).toNat % 3329) := by
  unfold ring_Root.f
  obtain ⟨k, rfl⟩ : ∃ m, k = m + 8 := ⟨k - 8, by omega⟩
  have s0 : shr .i64 a 0 = a := by have := shr_lit a 0 (by decide); simpa using this
  have s1 : shr .i64 a 1 = a / 2 := shr_lit a 1 (by decide)
  have s2 : shr .i64 a 2 = a / 4 := shr_lit a 2 (by decide)
  have s3 : shr .i64 a 3 = a / 8 := shr_lit a 3 (by decide)
  have s4 : shr .i64 a 4 = a / 16 := shr_lit a 4 (by decide)
  have s5 : shr .i64 a 5 = a / 32 := shr_lit a 5 (by decide)
  have s6 : shr .i64 a 6 = a / 64 := shr_lit a 6 (by decide)
  rw [root_step _ _ _ _ (by omega) (by omega) (by omega) (by omega), s0]
  rw [root_step _ _ _ _ (by omega) (by omega) (by omega) (by omega), show (0:Int) + 1 = 1 from rfl, s1]
  rw [root_step _ _ _ _ (by omega) (by omega) (by omega) (by omega), show (1:Int) + 1 = 2 from rfl, s2]
  rw [root_step _ _ _ _ (by omega) (by omega) (by omega) (by omega), show (2:Int) + 1 = 3 from rfl, s3]
  rw [root_step _ _ _ _ (by omega) (by omega) (by omega) (by omega), show (3:Int) + 1 = 4 from rfl, s4]
  rw [root_step _ _ _ _ (by omega) (by omega) (by omega) (by omega), show (4:Int) + 1 = 5 from rfl, s5]
  rw [root_step _ _ _ _ (by omega) (by omega) (by omega) (by omega), show (5:Int) + 1 = 6 from rfl, s6]
  simp only [ring_Root.l0]
  rw [if_neg (by decide)]
  rw [show (2 * (2 * (2 * (2 * (2 * (2 * (2 * 0 + a % 2) + a / 2 % 2) + a / 4 % 2) + a / 8 % 2) + a / 16 % 2) + a / 32 % 2) + a / 64 % 2) = rev7 a by unfold rev7; omega]
  have h := rev7_bd a
  rw [pow_eq k 17 (rev7 a) h.1 (by omega) (by omega)]; rfl
theorem bnd {α β : Type} {o : Option α} {x : α} {f : α → Option β} {r : Option β} (h : o = some x) (k : f x = r) : o.bind f = r := by rw [h]; exact k
theorem ifp {α : Type} {c : Prop} [Decidable c] {a b r : α} (h : c) (k : a = r) : (if c then a else b) = r := by rw [if_pos h]; exact k
theorem ifn {α : Type} {c : Prop} [Decidable c] {a b r : α} (h : ¬ c) (k : b = r) : (if c then a else b) = r := by rw [if_neg h]; exact k
end Go.Proofs.Ytiphpcehmjcejaa.PolyD
