import Derived.KernelRfl
/- Plain mathematics of polys modulo 3329: layers, their closed form, sums. No Go in it. -/
namespace Go.Proofs.Ytiphpcehmjcejaa.Pm

/-! ### congruence modulo 3329 -/
def Cg (a b : Int) : Prop := a % 3329 = b % 3329
theorem Cg.refl (a : Int) : Cg a a := rfl
theorem Cg.of_eq {a b : Int} (h : a = b) : Cg a b := by rw [h]; exact Cg.refl b
theorem Cg.symm {a b : Int} (h : Cg a b) : Cg b a := Eq.symm h
theorem Cg.trans {a b c : Int} (h : Cg a b) (k : Cg b c) : Cg a c := Eq.trans h k
theorem Cg.mod (a : Int) : Cg (a % 3329) a := Int.emod_emod_of_dvd a (Int.dvd_refl _)
theorem Cg.add {a b c d : Int} (h : Cg a b) (k : Cg c d) : Cg (a + c) (b + d) := by
  unfold Cg at *; omega
theorem Cg.sub {a b c d : Int} (h : Cg a b) (k : Cg c d) : Cg (a - c) (b - d) := by
  unfold Cg at *; omega
theorem Cg.neg {a b : Int} (h : Cg a b) : Cg (-a) (-b) := by
  unfold Cg at *; omega
theorem Cg.mul {a b c d : Int} (h : Cg a b) (k : Cg c d) : Cg (a * c) (b * d) := by
  unfold Cg at *; rw [Int.mul_emod, h, k, ← Int.mul_emod]
theorem Cg.mul_left {c d : Int} (a : Int) (k : Cg c d) : Cg (a * c) (a * d) := Cg.mul (Cg.refl a) k
theorem Cg.mul_right {a b : Int} (c : Int) (h : Cg a b) : Cg (a * c) (b * c) := Cg.mul h (Cg.refl c)
theorem Cg.pow {a b : Int} (h : Cg a b) (n : Nat) : Cg (a ^ n) (b ^ n) := by
  induction n with
  | zero => simp only [Int.pow_zero]; exact Cg.refl _
  | succ n ih => rw [Int.pow_succ, Int.pow_succ]; exact Cg.mul ih h
theorem Cg.eq {a b : Int} (h : Cg a b) (ha : 0 ≤ a ∧ a < 3329) (hb : 0 ≤ b ∧ b < 3329) : a = b := by
  unfold Cg at h; omega

/-! ### finite sums -/
def sum (f : Nat → Int) : Nat → Int
  | 0 => 0
  | n + 1 => sum f n + f n
theorem sum_congr {f g : Nat → Int} : ∀ {n : Nat}, (∀ i, i < n → Cg (f i) (g i)) → Cg (sum f n) (sum g n)
  | 0, _ => Cg.refl _
  | n + 1, h => Cg.add (sum_congr fun i hi => h i (by omega)) (h n (by omega))
theorem sum_eq {f g : Nat → Int} : ∀ {n : Nat}, (∀ i, i < n → f i = g i) → sum f n = sum g n
  | 0, _ => rfl
  | n + 1, h => by show sum f n + f n = sum g n + g n; rw [sum_eq fun i hi => h i (by omega), h n (by omega)]
theorem sum_add (f g : Nat → Int) : ∀ n, sum (fun i => f i + g i) n = sum f n + sum g n
  | 0 => rfl
  | n + 1 => by simp only [sum]; rw [sum_add f g n]; omega
theorem sum_sub (f g : Nat → Int) : ∀ n, sum (fun i => f i - g i) n = sum f n - sum g n
  | 0 => rfl
  | n + 1 => by simp only [sum]; rw [sum_sub f g n]; omega
theorem sum_mul (c : Int) (f : Nat → Int) : ∀ n, sum (fun i => c * f i) n = c * sum f n
  | 0 => by simp [sum]
  | n + 1 => by simp only [sum]; rw [sum_mul c f n, Int.mul_add]
theorem sum_zero : ∀ n, sum (fun _ => 0) n = 0
  | 0 => rfl
  | n + 1 => by simp only [sum]; rw [sum_zero n]; rfl
theorem sum_two (f : Nat → Int) : ∀ n, sum f (2 * n) = sum (fun i => f (2 * i) + f (2 * i + 1)) n
  | 0 => rfl
  | n + 1 => by
    show sum f (2 * n + 1 + 1) = _
    simp only [sum]; rw [sum_two f n]; omega
theorem sum_first (f : Nat → Int) : ∀ n, sum f (n + 1) = f 0 + sum (fun i => f (i + 1)) n
  | 0 => by simp [sum]
  | n + 1 => by
    show sum f (n + 1) + f (n + 1) = _
    rw [sum_first f n]; simp only [sum]; omega
theorem sum_one (f : Nat → Int) (a : Nat) (c : Int) (hf : f a = c) : ∀ n, (∀ i, i < n → i ≠ a → f i = 0) → sum f n = if a < n then c else 0
  | 0, _ => by simp [sum]
  | n + 1, h => by
    simp only [sum]
    rw [sum_one f a c hf n fun i hi => h i (by omega)]
    by_cases e : n = a
    · subst e; rw [if_neg (by omega), if_pos (by omega), hf]; omega
    · rw [h n (by omega) e]
      by_cases l : a < n
      · rw [if_pos l, if_pos (by omega)]; omega
      · rw [if_neg l, if_neg (by omega)]; omega
theorem sum_swap (f : Nat → Nat → Int) (m : Nat) : ∀ n, sum (fun i => sum (f i) m) n = sum (fun j => sum (fun i => f i j) n) m
  | 0 => by simp only [sum]; exact (sum_zero m).symm
  | n + 1 => by
    simp only [sum]; rw [sum_swap f m n, ← sum_add]

/-! ### the numbers 17 ^ rev7 -/
def rv (i : Nat) : Nat := 64 * (i % 2) + 32 * (i / 2 % 2) + 16 * (i / 4 % 2) + 8 * (i / 8 % 2) + 4 * (i / 16 % 2) + 2 * (i / 32 % 2) + i / 64 % 2
def rtN (i : Nat) : Nat := 17 ^ rv i % 3329
def rt (i : Nat) : Int := (rtN i : Int)
/-- The number of pair i: 17 ^ (2 rev7 i + 1). -/
def zeN (i : Nat) : Nat := 17 ^ (2 * rv i + 1) % 3329
def ze (i : Nat) : Int := (zeN i : Int)
theorem rt_bd (i : Nat) : 0 ≤ rt i ∧ rt i < 3329 := by
  have : rtN i < 3329 := Nat.mod_lt _ (by decide)
  unfold rt; omega
theorem ze_bd (i : Nat) : 0 ≤ ze i ∧ ze i < 3329 := by
  have : zeN i < 3329 := Nat.mod_lt _ (by decide)
  unfold ze; omega
def allN (p : Nat → Bool) : Nat → Bool
  | 0 => true
  | n + 1 => p n && allN p n
theorem allN_at {p : Nat → Bool} : ∀ {n : Nat}, allN p n = true → ∀ i, i < n → p i = true
  | 0, _, i, hi => absurd hi (Nat.not_lt_zero i)
  | n + 1, h, i, hi => by
    simp only [allN, Bool.and_eq_true] at h
    by_cases e : i = n
    · rw [e]; exact h.1
    · exact allN_at h.2 i (by omega)
/-- A layer's number is the square of the two below it, up to the sign. -/
theorem rt_sq_all : allN (fun i => rtN (2 * i + 2) * rtN (2 * i + 2) % 3329 == rtN (i + 1) && rtN (2 * i + 3) * rtN (2 * i + 3) % 3329 == 3329 - rtN (i + 1)) 63 = true := by kernel_rfl
theorem rt_ze_all : allN (fun i => rtN (64 + i) == zeN (2 * i) && 3329 - rtN (64 + i) == zeN (2 * i + 1)) 64 = true := by kernel_rfl
theorem ze_128_all : allN (fun i => zeN i ^ 128 % 3329 == 3328) 128 = true := by kernel_rfl
theorem rt_back_all : allN (fun i => rtN (127 - i) * rtN (64 + i) % 3329 == 3328) 64 = true := by kernel_rfl
theorem rt_back32 : allN (fun i => rtN (63 - i) * rtN (32 + i) % 3329 == 3328) 32 = true := by kernel_rfl
theorem rt_back16 : allN (fun i => rtN (31 - i) * rtN (16 + i) % 3329 == 3328) 16 = true := by kernel_rfl
theorem rt_back8 : allN (fun i => rtN (15 - i) * rtN (8 + i) % 3329 == 3328) 8 = true := by kernel_rfl
theorem rt_back4 : allN (fun i => rtN (7 - i) * rtN (4 + i) % 3329 == 3328) 4 = true := by kernel_rfl
theorem rt_back2 : allN (fun i => rtN (3 - i) * rtN (2 + i) % 3329 == 3328) 2 = true := by kernel_rfl
theorem rt_back1 : rtN 1 * rtN 1 % 3329 = 3328 := by kernel_rfl
theorem rt_cast (i : Nat) : (rtN i : Int) = rt i := rfl

/-! ### layers -/
/-- A layer forward: blocks of 2 L, the numbers z b. -/
def fwd (L : Nat) (z : Nat → Int) (f : Nat → Int) (n : Nat) : Int :=
  if n % (2 * L) < L then (f n + z (n / (2 * L)) * f (n + L)) % 3329 else (f (n - L) - z (n / (2 * L)) * f n) % 3329
def bwd (L : Nat) (z : Nat → Int) (f : Nat → Int) (n : Nat) : Int :=
  if n % (2 * L) < L then (f n + f (n + L)) % 3329 else (z (n / (2 * L)) * (f n - f (n - L))) % 3329
theorem fwd_bd (L : Nat) (z f : Nat → Int) (n : Nat) : 0 ≤ fwd L z f n ∧ fwd L z f n < 3329 := by
  unfold fwd; split <;> exact ⟨Int.emod_nonneg _ (by decide), Int.emod_lt_of_pos _ (by decide)⟩
theorem bwd_bd (L : Nat) (z f : Nat → Int) (n : Nat) : 0 ≤ bwd L z f n ∧ bwd L z f n < 3329 := by
  unfold bwd; split <;> exact ⟨Int.emod_nonneg _ (by decide), Int.emod_lt_of_pos _ (by decide)⟩
/-- The layers' numbers: forward (L = 128 / i), back. -/
def zf (i : Nat) : Nat → Int := fun b => rt (i + b)
def zb (i : Nat) : Nat → Int := fun b => rt (2 * i - 1 - b)
def ntt (f : Nat → Int) : Nat → Int := fwd 2 (zf 64) (fwd 4 (zf 32) (fwd 8 (zf 16) (fwd 16 (zf 8) (fwd 32 (zf 4) (fwd 64 (zf 2) (fwd 128 (zf 1) f))))))
def inv (f : Nat → Int) : Nat → Int := fun n => bwd 128 (zb 1) (bwd 64 (zb 2) (bwd 32 (zb 4) (bwd 16 (zb 8) (bwd 8 (zb 16) (bwd 4 (zb 32) (bwd 2 (zb 64) f)))))) n * 3303 % 3329

/-! ### the closed form -/
/-- The number of block j behind the layer of length L = 128 / i: j even: z (j / 2); odd: its negative. -/
def cn (i j : Nat) : Int := if j % 2 = 0 then rt (i + j / 2) else - rt (i + j / 2)
theorem cn_sq (i j : Nat) (hi : 1 ≤ i) (h : i + j / 2 ≤ 63) : Cg (rt (2 * i + j) * rt (2 * i + j)) (cn i j) := by
  have h1 := allN_at rt_sq_all (i + j / 2 - 1) (by omega)
  simp only [Bool.and_eq_true, beq_iff_eq] at h1
  obtain ⟨h1, h2⟩ := h1
  unfold cn Cg
  split
  · rw [show 2 * (i + j / 2 - 1) + 2 = 2 * i + j by omega, show i + j / 2 - 1 + 1 = i + j / 2 by omega] at h1
    have : ((rtN (2 * i + j) * rtN (2 * i + j) % 3329 : Nat) : Int) = rt (i + j / 2) := by rw [h1]; rfl
    have hb := rt_bd (i + j / 2)
    rw [Int.emod_eq_of_lt hb.1 hb.2, ← this]
    simp only [Int.natCast_emod, Int.natCast_mul]; rfl
  · rw [show 2 * (i + j / 2 - 1) + 3 = 2 * i + j by omega, show i + j / 2 - 1 + 1 = i + j / 2 by omega] at h2
    have hl : rtN (i + j / 2) < 3329 := Nat.mod_lt _ (by decide)
    have : ((rtN (2 * i + j) * rtN (2 * i + j) % 3329 : Nat) : Int) = 3329 - rt (i + j / 2) := by rw [h2]; unfold rt; omega
    have hq : (rt (2 * i + j) * rt (2 * i + j)) % 3329 = 3329 - rt (i + j / 2) := by
      rw [← this]; simp only [Int.natCast_emod, Int.natCast_mul]; rfl
    rw [hq]; omega
/-- What a poly is at a layer: L = 128 / i, 256 = L M. -/
def At (L M : Nat) (c : Nat → Int) (f g : Nat → Int) : Prop := ∀ j t, t < L → j < M → Cg (g (j * L + t)) (sum (fun m => f (t + m * L) * c j ^ m) M)
theorem at_first (f : Nat → Int) : At 128 2 (cn 1) f (fwd 128 (zf 1) f) := by
  intro j t ht hj
  unfold fwd zf
  obtain h | h : j = 0 ∨ j = 1 := by omega
  · subst h
    rw [if_pos (by omega)]
    refine Cg.trans (Cg.mod _) (Cg.of_eq ?_)
    simp only [sum, cn]
    rw [show (0 * 128 + t) / (2 * 128) = 0 by omega, show 0 * 128 + t = t by omega]
    simp only [Int.pow_succ, Int.pow_zero, Int.one_mul, Int.mul_one, Nat.zero_mul, Nat.one_mul, Nat.add_zero, if_pos, Int.zero_add, Nat.zero_div]
    simp [Int.mul_comm]
  · subst h
    rw [if_neg (by omega)]
    refine Cg.trans (Cg.mod _) (Cg.of_eq ?_)
    simp only [sum, cn]
    rw [show (1 * 128 + t) / (2 * 128) = 0 by omega, show 1 * 128 + t - 128 = t by omega, show t + 1 * 128 = 1 * 128 + t by omega]
    simp only [Int.pow_succ, Int.pow_zero, Int.one_mul, Int.mul_one, Nat.zero_mul, Nat.one_mul, Nat.add_zero, Int.zero_add]
    simp [Int.mul_comm]
    rw [Int.mul_neg, Nat.add_comm 128 t]; omega
theorem at_next (L M i : Nat) (hM : M = 2 * i) (hL : 0 < L) (hi : 1 ≤ i) (hi2 : i ≤ 32) (f g : Nat → Int) (h : At (2 * L) M (cn i) f g) : At L (2 * M) (cn (2 * i)) f (fwd L (zf (2 * i)) g) := by
  intro j t ht hj
  have hjm : j = 2 * (j / 2) + j % 2 := by omega
  have hb : j / 2 < M := by omega
  obtain ⟨b, hbd⟩ : ∃ b, b = j / 2 := ⟨_, rfl⟩
  rw [← hbd] at hjm hb
  have hA := h b t (by omega) hb
  have hB := h b (t + L) (by omega) hb
  -- sums over evens and odds
  have key : ∀ x : Int, Cg (x * x) (cn i b) → Cg (sum (fun m => f (t + m * L) * x ^ m) (2 * M)) (g (b * (2 * L) + t) + x * g (b * (2 * L) + (t + L))) := by
    intro x hx
    rw [sum_two]
    have e1 : ∀ m, Cg (f (t + 2 * m * L) * x ^ (2 * m) + f (t + (2 * m + 1) * L) * x ^ (2 * m + 1)) (f (t + m * (2 * L)) * cn i b ^ m + x * (f (t + L + m * (2 * L)) * cn i b ^ m)) := by
      intro m
      have hp : Cg (x ^ (2 * m)) (cn i b ^ m) := by
        rw [Int.pow_mul, show x ^ 2 = x * x by rw [Int.pow_succ, Int.pow_succ]; simp]
        exact Cg.pow hx m
      rw [show t + 2 * m * L = t + m * (2 * L) by rw [Nat.mul_comm 2 m, Nat.mul_assoc], show t + (2 * m + 1) * L = t + L + m * (2 * L) by rw [Nat.add_mul, Nat.one_mul, Nat.mul_comm 2 m, Nat.mul_assoc]; omega]
      refine Cg.add (Cg.mul_left _ hp) ?_
      rw [Int.pow_succ]
      refine Cg.trans (Cg.mul_left _ (Cg.mul_right _ hp)) (Cg.of_eq ?_)
      rw [Int.mul_comm (cn i b ^ m) x, ← Int.mul_assoc, Int.mul_comm _ x, Int.mul_assoc]
    refine Cg.trans (sum_congr fun m _ => e1 m) ?_
    rw [sum_add, sum_mul]
    exact Cg.add hA.symm (Cg.mul_left _ hB.symm)
  have hsq := cn_sq i b hi (by omega)
  have hdiv : (j * L + t) / (2 * L) = b ∧ (j * L + t) % (2 * L) = j % 2 * L + t := by
    have e : j * L + t = 2 * L * b + (j % 2 * L + t) := by
      have : j * L = 2 * b * L + j % 2 * L := by rw [← Nat.add_mul, ← hjm]
      rw [this, Nat.mul_comm 2 b, Nat.mul_comm (2 * L) b, Nat.mul_assoc]; omega
    have hlt : j % 2 * L + t < 2 * L := by
      obtain h0 | h0 : j % 2 = 0 ∨ j % 2 = 1 := by omega
      · rw [h0]; omega
      · rw [h0]; omega
    rw [e]
    exact ⟨by rw [Nat.mul_add_div (by omega), Nat.div_eq_of_lt hlt]; rfl, by rw [Nat.mul_add_mod, Nat.mod_eq_of_lt hlt]⟩
  unfold fwd
  rw [hdiv.1, hdiv.2]
  unfold zf
  obtain h0 | h0 : j % 2 = 0 ∨ j % 2 = 1 := by omega
  · rw [h0, if_pos (by omega)]
    refine Cg.trans (Cg.mod _) ?_
    have hc : cn (2 * i) j = rt (2 * i + b) := by unfold cn; rw [if_pos h0, hbd]
    rw [hc]
    have e1 : j * L + t = b * (2 * L) + t := by
      rw [hjm, h0, Nat.add_zero, Nat.mul_comm 2 b, Nat.mul_assoc]
    rw [e1, show b * (2 * L) + t + L = b * (2 * L) + (t + L) by omega]
    exact (key _ hsq).symm
  · rw [h0, if_neg (by omega)]
    refine Cg.trans (Cg.mod _) ?_
    have hc : cn (2 * i) j = - rt (2 * i + b) := by unfold cn; rw [if_neg (by omega), hbd]
    rw [hc]
    have e1 : j * L + t = b * (2 * L) + (t + L) := by
      rw [hjm, h0, Nat.add_mul, Nat.one_mul, Nat.mul_comm 2 b, Nat.mul_assoc]; omega
    rw [e1, show b * (2 * L) + (t + L) - L = b * (2 * L) + t by omega]
    refine Cg.trans (Cg.of_eq ?_) (key _ (by rw [Int.neg_mul_neg]; exact hsq)).symm
    rw [Int.neg_mul]; omega
theorem cn_ze (j : Nat) (h : j < 128) : Cg (cn 64 j) (ze j) := by
  have h1 := allN_at rt_ze_all (j / 2) (by omega)
  simp only [Bool.and_eq_true, beq_iff_eq] at h1
  have hl : rtN (64 + j / 2) < 3329 := Nat.mod_lt _ (by decide)
  unfold cn ze rt Cg
  split
  · rw [h1.1, show 2 * (j / 2) = j by omega]
  · have h2 := h1.2
    rw [show 2 * (j / 2) + 1 = j by omega] at h2
    rw [← h2]; omega
/-- THE CLOSED FORM: place 2 i + b of a poly that is carried over. -/
theorem ntt_at (f : Nat → Int) (i b : Nat) (hi : i < 128) (hb : b < 2) : Cg (ntt f (2 * i + b)) (sum (fun m => f (2 * m + b) * ze i ^ m) 128) := by
  have h1 := at_first f
  have h2 := at_next 64 2 1 rfl (by decide) (by decide) (by decide) f _ h1
  have h3 := at_next 32 4 2 rfl (by decide) (by decide) (by decide) f _ h2
  have h4 := at_next 16 8 4 rfl (by decide) (by decide) (by decide) f _ h3
  have h5 := at_next 8 16 8 rfl (by decide) (by decide) (by decide) f _ h4
  have h6 := at_next 4 32 16 rfl (by decide) (by decide) (by decide) f _ h5
  have h7 := at_next 2 64 32 rfl (by decide) (by decide) (by decide) f _ h6
  have h := h7 i b hb (by omega)
  unfold ntt
  rw [show 2 * i + b = i * 2 + b by omega]
  refine Cg.trans h (sum_congr fun m _ => ?_)
  rw [show b + m * 2 = 2 * m + b by omega]
  exact Cg.mul_left _ (Cg.pow (cn_ze i hi) m)
end Go.Proofs.Ytiphpcehmjcejaa.Pm
