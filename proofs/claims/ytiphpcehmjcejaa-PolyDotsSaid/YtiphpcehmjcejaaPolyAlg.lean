import Derived.Test.YtiphpcehmjcejaaPolyMath
/- Plain mathematics of polys, second part: back and over, pairs, turns. No Go in it. -/
namespace Go.Proofs.Ytiphpcehmjcejaa.Pm

/-! ### there and back -/
theorem zz (i b : Nat) (hi : i = 64 ∨ i = 32 ∨ i = 16 ∨ i = 8 ∨ i = 4 ∨ i = 2 ∨ i = 1) (hb : b < i) : Cg (zb i b * zf i b) (-1) := by
  have key : ∀ a c : Nat, rtN a * rtN c % 3329 = 3328 → Cg (rt a * rt c) (-1) := by
    intro a c h
    unfold Cg rt
    have : (((rtN a * rtN c % 3329 : Nat)) : Int) = 3328 := by rw [h]; rfl
    rw [Int.natCast_emod, Int.natCast_mul] at this
    exact this
  unfold zb zf
  rcases hi with h | h | h | h | h | h | h <;> subst h
  · have := allN_at rt_back_all b hb; simp only [beq_iff_eq] at this; exact key _ _ this
  · have := allN_at rt_back32 b hb; simp only [beq_iff_eq] at this; exact key _ _ this
  · have := allN_at rt_back16 b hb; simp only [beq_iff_eq] at this; exact key _ _ this
  · have := allN_at rt_back8 b hb; simp only [beq_iff_eq] at this; exact key _ _ this
  · have := allN_at rt_back4 b hb; simp only [beq_iff_eq] at this; exact key _ _ this
  · have := allN_at rt_back2 b hb; simp only [beq_iff_eq] at this; exact key _ _ this
  · obtain rfl : b = 0 := by omega
    exact key _ _ rt_back1
/-- f is c times g, below 256. -/
def Sc (c : Int) (f g : Nat → Int) : Prop := ∀ n, n < 256 → Cg (f n) (c * g n)
/-- What is asked of a layer's length. -/
def Ln (L i : Nat) : Prop := ∀ n, n < 256 → (n % (2 * L) < L → n + L < 256 ∧ (n + L) % (2 * L) = n % (2 * L) + L ∧ (n + L) / (2 * L) = n / (2 * L)) ∧ (¬ n % (2 * L) < L → L ≤ n ∧ (n - L) % (2 * L) < L ∧ (n - L) / (2 * L) = n / (2 * L)) ∧ n / (2 * L) < i
theorem ln128 : Ln 128 1 := fun n hn => by omega
theorem ln64 : Ln 64 2 := fun n hn => by omega
theorem ln32 : Ln 32 4 := fun n hn => by omega
theorem ln16 : Ln 16 8 := fun n hn => by omega
theorem ln8 : Ln 8 16 := fun n hn => by omega
theorem ln4 : Ln 4 32 := fun n hn => by omega
theorem ln2 : Ln 2 64 := fun n hn => by omega
theorem bwd_sc {L i : Nat} (hl : Ln L i) (z : Nat → Int) {c : Int} {f g : Nat → Int} (h : Sc c f g) : Sc c (bwd L z f) (bwd L z g) := by
  intro n hn
  obtain ⟨h1, h2, _⟩ := hl n hn
  unfold bwd
  split
  · rename_i hc
    refine Cg.trans (Cg.mod _) (Cg.trans (Cg.add (h n hn) (h _ (h1 hc).1)) (Cg.trans (Cg.of_eq (Int.mul_add _ _ _).symm) (Cg.mul_left c (Cg.mod _).symm)))
  · rename_i hc
    refine Cg.trans (Cg.mod _) (Cg.trans (Cg.mul_left _ (Cg.sub (h n hn) (h (n - L) (by omega)))) (Cg.trans (Cg.of_eq ?_) (Cg.mul_left c (Cg.mod _).symm)))
    rw [← Int.mul_sub, ← Int.mul_assoc, Int.mul_comm _ c, Int.mul_assoc]
theorem fwd_sc {L i : Nat} (hl : Ln L i) (z : Nat → Int) {c : Int} {f g : Nat → Int} (h : Sc c f g) : Sc c (fwd L z f) (fwd L z g) := by
  intro n hn
  obtain ⟨h1, h2, _⟩ := hl n hn
  unfold fwd
  split
  · rename_i hc
    refine Cg.trans (Cg.mod _) (Cg.trans (Cg.add (h n hn) (Cg.mul_left _ (h _ (h1 hc).1))) (Cg.trans (Cg.of_eq ?_) (Cg.mul_left c (Cg.mod _).symm)))
    rw [Int.mul_add, ← Int.mul_assoc _ c, Int.mul_comm _ c, Int.mul_assoc c]
  · rename_i hc
    refine Cg.trans (Cg.mod _) (Cg.trans (Cg.sub (h (n - L) (by omega)) (Cg.mul_left _ (h n hn))) (Cg.trans (Cg.of_eq ?_) (Cg.mul_left c (Cg.mod _).symm)))
    rw [Int.mul_sub, ← Int.mul_assoc _ c, Int.mul_comm _ c, Int.mul_assoc c]
theorem bwd_fwd {L i : Nat} (hl : Ln L i) (hi : i = 64 ∨ i = 32 ∨ i = 16 ∨ i = 8 ∨ i = 4 ∨ i = 2 ∨ i = 1) (g : Nat → Int) : Sc 2 (bwd L (zb i) (fwd L (zf i) g)) g := by
  intro n hn
  obtain ⟨h1, h2, h3⟩ := hl n hn
  have hz := zz i (n / (2 * L)) hi h3
  unfold bwd
  split
  · rename_i hc
    obtain ⟨a, b, c⟩ := h1 hc
    refine Cg.trans (Cg.mod _) ?_
    unfold fwd
    rw [if_pos hc, if_neg (by omega), c, show n + L - L = n by omega]
    exact Cg.trans (Cg.add (Cg.mod _) (Cg.mod _)) (Cg.of_eq (by omega))
  · rename_i hc
    obtain ⟨a, b, c⟩ := h2 hc
    refine Cg.trans (Cg.mod _) ?_
    unfold fwd
    rw [if_neg hc, if_pos b, c, show n - L + L = n by omega]
    refine Cg.trans (Cg.mul_left _ (Cg.sub (Cg.mod _) (Cg.mod _))) ?_
    generalize zf i (n / (2 * L)) = z at *
    generalize zb i (n / (2 * L)) = y at *
    refine Cg.trans (Cg.of_eq (b := (y * z) * (-2 * g n)) ?_) (Cg.trans (Cg.mul_right _ hz) (Cg.of_eq (by omega)))
    rw [Int.mul_assoc y, show g (n - L) - z * g n - (g (n - L) + z * g n) = z * (-2 * g n) by rw [Int.mul_left_comm]; omega]
theorem fwd_bwd {L i : Nat} (hl : Ln L i) (hi : i = 64 ∨ i = 32 ∨ i = 16 ∨ i = 8 ∨ i = 4 ∨ i = 2 ∨ i = 1) (g : Nat → Int) : Sc 2 (fwd L (zf i) (bwd L (zb i) g)) g := by
  intro n hn
  obtain ⟨h1, h2, h3⟩ := hl n hn
  have hz := zz i (n / (2 * L)) hi h3
  unfold fwd
  split
  · rename_i hc
    obtain ⟨a, b, c⟩ := h1 hc
    refine Cg.trans (Cg.mod _) ?_
    unfold bwd
    rw [if_pos hc, if_neg (by omega), c, show n + L - L = n by omega]
    generalize zf i (n / (2 * L)) = z at *
    generalize zb i (n / (2 * L)) = y at *
    refine Cg.trans (Cg.add (Cg.mod _) (Cg.mul_left _ (Cg.mod _))) ?_
    rw [← Int.mul_assoc, Int.mul_comm z y]
    refine Cg.trans (Cg.add (Cg.refl _) (Cg.mul_right _ hz)) (Cg.of_eq (by omega))
  · rename_i hc
    obtain ⟨a, b, c⟩ := h2 hc
    refine Cg.trans (Cg.mod _) ?_
    unfold bwd
    rw [if_neg hc, if_pos b, show n - L + L = n by omega]
    generalize zf i (n / (2 * L)) = z at *
    generalize zb i (n / (2 * L)) = y at *
    refine Cg.trans (Cg.sub (Cg.mod _) (Cg.mul_left _ (Cg.mod _))) ?_
    rw [← Int.mul_assoc, Int.mul_comm z y]
    refine Cg.trans (Cg.sub (Cg.refl _) (Cg.mul_right _ hz)) (Cg.of_eq (by omega))
theorem Sc.trans {c d : Int} {f g h : Nat → Int} (a : Sc c f g) (b : Sc d g h) : Sc (c * d) f h := fun n hn => by
  rw [Int.mul_assoc]; exact Cg.trans (a n hn) (Cg.mul_left c (b n hn))
theorem sc_128 {c : Int} (h : c * 3303 % 3329 = 1) (a : Int) : Cg (c * a * 3303) a := by
  have : Cg (c * 3303) 1 := h
  refine Cg.trans (Cg.of_eq (b := (c * 3303) * a) (by rw [Int.mul_assoc, Int.mul_comm a, ← Int.mul_assoc])) (Cg.trans (Cg.mul_right a this) (Cg.of_eq (Int.one_mul a)))
theorem inv_ntt (f : Nat → Int) (n : Nat) (hn : n < 256) : Cg (inv (ntt f) n) (f n) := by
  unfold inv ntt
  refine Cg.trans (Cg.mod _) ?_
  have a1 := bwd_fwd ln2 (i := 64) (by decide) (fwd 4 (zf 32) (fwd 8 (zf 16) (fwd 16 (zf 8) (fwd 32 (zf 4) (fwd 64 (zf 2) (fwd 128 (zf 1) f))))))
  have a2 := (bwd_sc ln4 (zb 32) a1).trans (bwd_fwd ln4 (i := 32) (by decide) _)
  have a3 := (bwd_sc ln8 (zb 16) a2).trans (bwd_fwd ln8 (i := 16) (by decide) _)
  have a4 := (bwd_sc ln16 (zb 8) a3).trans (bwd_fwd ln16 (i := 8) (by decide) _)
  have a5 := (bwd_sc ln32 (zb 4) a4).trans (bwd_fwd ln32 (i := 4) (by decide) _)
  have a6 := (bwd_sc ln64 (zb 2) a5).trans (bwd_fwd ln64 (i := 2) (by decide) _)
  have a7 := (bwd_sc ln128 (zb 1) a6).trans (bwd_fwd ln128 (i := 1) (by decide) _)
  exact Cg.trans (Cg.mul_right 3303 (a7 n hn)) (sc_128 (by decide) _)
theorem ntt_sc {c : Int} {f g : Nat → Int} (h : Sc c f g) : Sc c (ntt f) (ntt g) := fwd_sc ln2 _ (fwd_sc ln4 _ (fwd_sc ln8 _ (fwd_sc ln16 _ (fwd_sc ln32 _ (fwd_sc ln64 _ (fwd_sc ln128 _ h))))))
theorem ntt_inv (f : Nat → Int) (n : Nat) (hn : n < 256) : Cg (ntt (inv f) n) (f n) := by
  have hs : Sc 3303 (inv f) (bwd 128 (zb 1) (bwd 64 (zb 2) (bwd 32 (zb 4) (bwd 16 (zb 8) (bwd 8 (zb 16) (bwd 4 (zb 32) (bwd 2 (zb 64) f))))))) := fun m _ => by
    unfold inv; exact Cg.trans (Cg.mod _) (Cg.of_eq (Int.mul_comm _ _))
  have h := ntt_sc hs n hn
  refine Cg.trans h ?_
  unfold ntt
  have a1 := fwd_bwd ln128 (i := 1) (by decide) (bwd 64 (zb 2) (bwd 32 (zb 4) (bwd 16 (zb 8) (bwd 8 (zb 16) (bwd 4 (zb 32) (bwd 2 (zb 64) f))))))
  have a2 := (fwd_sc ln64 (zf 2) a1).trans (fwd_bwd ln64 (i := 2) (by decide) _)
  have a3 := (fwd_sc ln32 (zf 4) a2).trans (fwd_bwd ln32 (i := 4) (by decide) _)
  have a4 := (fwd_sc ln16 (zf 8) a3).trans (fwd_bwd ln16 (i := 8) (by decide) _)
  have a5 := (fwd_sc ln8 (zf 16) a4).trans (fwd_bwd ln8 (i := 16) (by decide) _)
  have a6 := (fwd_sc ln4 (zf 32) a5).trans (fwd_bwd ln4 (i := 32) (by decide) _)
  have a7 := (fwd_sc ln2 (zf 64) a6).trans (fwd_bwd ln2 (i := 64) (by decide) _)
  refine Cg.trans (Cg.mul_left 3303 (a7 n hn)) (Cg.trans (Cg.of_eq ?_) (sc_128 (c := 2 * 2 * 2 * 2 * 2 * 2 * 2) (by decide) (f n)))
  rw [Int.mul_comm]
theorem inv_bd (f : Nat → Int) (n : Nat) : 0 ≤ inv f n ∧ inv f n < 3329 := by
  unfold inv; exact ⟨Int.emod_nonneg _ (by decide), Int.emod_lt_of_pos _ (by decide)⟩

/-! ### pairs -/
/-- The value of the even (b = 0) or odd (b = 1) numbers at the number of pair i. -/
def E (f : Nat → Int) (i b : Nat) : Int := sum (fun m => f (2 * m + b) * ze i ^ m) 128
theorem E_congr {f g : Nat → Int} (i b : Nat) (hb : b < 2) (h : ∀ n, n < 256 → Cg (f n) (g n)) : Cg (E f i b) (E g i b) :=
  sum_congr fun m hm => Cg.mul_right _ (h _ (by omega))
theorem E_add (f g : Nat → Int) (i b : Nat) : E (fun n => f n + g n) i b = E f i b + E g i b := by
  unfold E
  rw [← sum_add]
  exact sum_eq fun m _ => Int.add_mul _ _ _
theorem E_sub (f g : Nat → Int) (i b : Nat) : E (fun n => f n - g n) i b = E f i b - E g i b := by
  unfold E
  rw [← sum_sub]
  exact sum_eq fun m _ => Int.sub_mul _ _ _
theorem E_mul (c : Int) (f : Nat → Int) (i b : Nat) : E (fun n => c * f n) i b = c * E f i b := by
  unfold E
  rw [← sum_mul]
  exact sum_eq fun m _ => Int.mul_assoc _ _ _
theorem E_zero (i b : Nat) : E (fun _ => 0) i b = 0 := by
  unfold E
  rw [sum_eq (g := fun _ => 0) fun m _ => Int.zero_mul _]
  exact sum_zero _
theorem ntt_E (f : Nat → Int) (i b : Nat) (hi : i < 128) (hb : b < 2) : Cg (ntt f (2 * i + b)) (E f i b) := ntt_at f i b hi hb
theorem ze_128 (i : Nat) (hi : i < 128) : Cg (ze i ^ 128) (-1) := by
  have h := allN_at ze_128_all i hi
  simp only [beq_iff_eq] at h
  unfold Cg ze
  have : (((zeN i ^ 128 % 3329 : Nat)) : Int) = 3328 := by rw [h]; rfl
  rw [Int.natCast_emod, Int.natCast_pow] at this
  exact this
/-- Times the unknown. -/
def sh (f : Nat → Int) (n : Nat) : Int := if n = 0 then - f 255 else f (n - 1)
theorem E_sh0 (f : Nat → Int) (i : Nat) (hi : i < 128) : Cg (E (sh f) i 0) (ze i * E f i 1) := by
  have hz := ze_128 i hi
  unfold E
  rw [sum_first _ 127]
  rw [← sum_mul]
  show Cg _ (sum _ 127 + _)
  have e1 : ∀ m, m < 127 → sh f (2 * (m + 1) + 0) * ze i ^ (m + 1) = ze i * (f (2 * m + 1) * ze i ^ m) := by
    intro m _
    unfold sh
    rw [if_neg (by omega), show 2 * (m + 1) + 0 - 1 = 2 * m + 1 by omega, Int.pow_succ, ← Int.mul_assoc, Int.mul_comm _ (ze i)]
  rw [sum_eq e1]
  have e2 : sh f (2 * 0 + 0) * ze i ^ 0 = - f 255 := by unfold sh; simp
  rw [e2, Int.add_comm]
  refine Cg.add (Cg.refl _) ?_
  refine Cg.symm (Cg.trans (Cg.of_eq (b := f 255 * ze i ^ 128) ?_) (Cg.trans (Cg.mul_left _ hz) (Cg.of_eq (by omega))))
  show ze i * (f 255 * ze i ^ 127) = f 255 * ze i ^ 128
  rw [Int.pow_succ _ 127, Int.mul_left_comm, Int.mul_comm (ze i)]
theorem E_sh1 (f : Nat → Int) (i : Nat) : E (sh f) i 1 = E f i 0 := by
  unfold E
  refine sum_eq fun m _ => ?_
  unfold sh
  rw [if_neg (by omega), show 2 * m + 1 - 1 = 2 * m + 0 by omega]
/-- Turned by n places (n at most 256). -/
def T (n : Nat) (f : Nat → Int) (j : Nat) : Int := if n ≤ j then f (j - n) else - f (j + 256 - n)
theorem T_zero (f : Nat → Int) (j : Nat) : T 0 f j = f j := by unfold T; rw [if_pos (by omega)]; rfl
theorem T_succ (n : Nat) (f : Nat → Int) (j : Nat) (hj : j < 256) (hn : n < 256) : T (n + 1) f j = sh (T n f) j := by
  unfold T sh
  dsimp only
  by_cases h : j = 0
  · subst h
    rw [if_neg (by omega), if_pos rfl, if_pos (by omega), show 0 + 256 - (n + 1) = 255 - n by omega]
  · rw [if_neg h]
    by_cases h2 : n + 1 ≤ j
    · rw [if_pos h2, if_pos (by omega), show j - 1 - n = j - (n + 1) by omega]
    · rw [if_neg h2, if_neg (by omega), show j - 1 + 256 - n = j + 256 - (n + 1) by omega]
def mono (n : Nat) (i : Nat) : Int := if i = n then 1 else 0
theorem T_mono (n j : Nat) (hj : j < 256) (hn : n < 256) : T n (mono 0) j = mono n j := by
  unfold T mono
  by_cases h : n ≤ j
  · rw [if_pos h]
    by_cases h2 : j = n
    · rw [if_pos (by omega), if_pos h2]
    · rw [if_neg (by omega), if_neg h2]
  · rw [if_neg h, if_neg (by omega), if_neg (by omega)]; rfl
theorem E_mono (n i b : Nat) (hn : n < 256) (hb : b < 2) : E (mono n) i b = if b = n % 2 then ze i ^ (n / 2) else 0 := by
  unfold E
  by_cases h : b = n % 2
  · rw [if_pos h, sum_one _ (n / 2) (ze i ^ (n / 2)) (by show mono n (2 * (n / 2) + b) * _ = _; unfold mono; rw [if_pos (by omega), Int.one_mul]) 128 (fun m _ hm => by
      show mono n (2 * m + b) * _ = 0
      unfold mono; rw [if_neg (by omega), Int.zero_mul]), if_pos (by omega)]
  · rw [if_neg h, sum_eq (g := fun _ => 0) (fun m _ => by show mono n (2 * m + b) * _ = 0; unfold mono; rw [if_neg (by omega), Int.zero_mul])]
    exact sum_zero _
/-- The pairs' product, told of the turned one. -/
theorem E_T (f : Nat → Int) (i : Nat) (hi : i < 128) : ∀ n, n ≤ 256 →
    Cg (E (T n f) i 0) (E f i 0 * E (T n (mono 0)) i 0 + ze i * (E f i 1 * E (T n (mono 0)) i 1)) ∧ Cg (E (T n f) i 1) (E f i 0 * E (T n (mono 0)) i 1 + E f i 1 * E (T n (mono 0)) i 0) := by
  intro n
  induction n with
  | zero =>
    intro _
    have h0 : E (T 0 (mono 0)) i 0 = 1 := by rw [show T 0 (mono 0) = mono 0 from funext (T_zero _), E_mono 0 i 0 (by decide) (by decide), if_pos rfl]; rfl
    have h1 : E (T 0 (mono 0)) i 1 = 0 := by rw [show T 0 (mono 0) = mono 0 from funext (T_zero _), E_mono 0 i 1 (by decide) (by decide), if_neg (by decide)]
    rw [h0, h1, show T 0 f = f from funext (T_zero f)]
    exact ⟨Cg.of_eq (by omega), Cg.of_eq (by omega)⟩
  | succ n ih =>
    intro hn
    obtain ⟨i0, i1⟩ := ih (by omega)
    have q : ∀ (g : Nat → Int) (b : Nat), b < 2 → Cg (E (T (n + 1) g) i b) (E (sh (T n g)) i b) := fun g b hb => E_congr i b hb fun j hj => Cg.of_eq (T_succ n g j hj (by omega))
    have f0 := Cg.trans (q f 0 (by decide)) (E_sh0 (T n f) i hi)
    have f1 := Cg.trans (q f 1 (by decide)) (Cg.of_eq (E_sh1 (T n f) i))
    have m0 := Cg.trans (q (mono 0) 0 (by decide)) (E_sh0 (T n (mono 0)) i hi)
    have m1 := Cg.trans (q (mono 0) 1 (by decide)) (Cg.of_eq (E_sh1 (T n (mono 0)) i))
    generalize E (T (n + 1) f) i 0 = F0 at *
    generalize E (T (n + 1) f) i 1 = F1 at *
    generalize E (T (n + 1) (mono 0)) i 0 = M0 at *
    generalize E (T (n + 1) (mono 0)) i 1 = M1 at *
    generalize E (T n f) i 0 = G0 at *
    generalize E (T n f) i 1 = G1 at *
    generalize E (T n (mono 0)) i 0 = N0 at *
    generalize E (T n (mono 0)) i 1 = N1 at *
    generalize E f i 0 = a at *
    generalize E f i 1 = b at *
    generalize ze i = z at *
    refine ⟨Cg.trans f0 (Cg.trans (Cg.mul_left z i1) (Cg.symm (Cg.trans (Cg.add (Cg.mul_left a m0) (Cg.mul_left z (Cg.mul_left b m1))) (Cg.of_eq ?_)))), Cg.trans f1 (Cg.trans i0 (Cg.symm (Cg.trans (Cg.add (Cg.mul_left a m1) (Cg.mul_left b m0)) (Cg.of_eq ?_))))⟩
    · rw [Int.mul_add, Int.mul_left_comm a z]
    · rw [Int.mul_left_comm b z]
/-- The product, pair by pair, of what is carried over. -/
def tim (f g : Nat → Int) (n : Nat) : Int :=
  if n % 2 = 0 then (f n * g n + f (n + 1) * g (n + 1) % 3329 * ze (n / 2)) % 3329 else (f (n - 1) * g n + f n * g (n - 1)) % 3329
theorem tim_bd (f g : Nat → Int) (n : Nat) : 0 ≤ tim f g n ∧ tim f g n < 3329 := by
  unfold tim; split <;> exact ⟨Int.emod_nonneg _ (by decide), Int.emod_lt_of_pos _ (by decide)⟩
theorem tim_ntt (f g : Nat → Int) (i : Nat) (hi : i < 128) :
    Cg (tim (ntt f) (ntt g) (2 * i)) (E f i 0 * E g i 0 + ze i * (E f i 1 * E g i 1)) ∧ Cg (tim (ntt f) (ntt g) (2 * i + 1)) (E f i 0 * E g i 1 + E f i 1 * E g i 0) := by
  have a0 := ntt_E f i 0 hi (by decide)
  have a1 := ntt_E f i 1 hi (by decide)
  have b0 := ntt_E g i 0 hi (by decide)
  have b1 := ntt_E g i 1 hi (by decide)
  rw [Nat.add_zero] at a0 b0
  unfold tim
  rw [if_pos (by omega), if_neg (by omega), show 2 * i / 2 = i by omega, show 2 * i + 1 - 1 = 2 * i by omega]
  refine ⟨Cg.trans (Cg.mod _) (Cg.add (Cg.mul a0 b0) ?_), Cg.trans (Cg.mod _) (Cg.add (Cg.mul a0 b1) (Cg.mul a1 b0))⟩
  refine Cg.trans (Cg.mul_right _ (Cg.mod _)) (Cg.trans (Cg.mul_right _ (Cg.mul a1 b1)) (Cg.of_eq (Int.mul_comm _ _)))
/-- A poly's turns, weighed by another one's numbers, carried over: the product of both. -/
theorem tim_turns (f g : Nat → Int) (n : Nat) (hn : n < 256) : Cg (tim (ntt f) (ntt g) n) (ntt (fun j => sum (fun i => g i * T i f j) 256) n) := by
  have hsum : ∀ (h : Nat → Int) (i b : Nat), E (fun j => sum (fun k => g k * T k h j) 256) i b = sum (fun k => g k * E (T k h) i b) 256 := by
    intro h i b
    have : ∀ m, m < 128 → sum (fun k => g k * T k h (2 * m + b)) 256 * ze i ^ m = sum (fun k => g k * (T k h (2 * m + b) * ze i ^ m)) 256 := by
      intro m _
      rw [Int.mul_comm, ← sum_mul]
      exact sum_eq fun k _ => by rw [Int.mul_comm, Int.mul_assoc]
    unfold E
    rw [sum_eq this, sum_swap]
    exact sum_eq fun k _ => sum_mul _ _ _
  have hg : ∀ i b, b < 2 → Cg (E g i b) (sum (fun k => g k * E (T k (mono 0)) i b) 256) := by
    intro i b hb
    rw [← hsum (mono 0) i b]
    refine E_congr i b hb fun j hj => Cg.of_eq ?_
    show g j = _
    rw [sum_one (fun k => g k * T k (mono 0) j) j (g j) (by rw [T_mono j j hj hj]; unfold mono; rw [if_pos rfl, Int.mul_one]) 256 (fun k hk hne => by
      show g k * T k (mono 0) j = 0
      rw [T_mono k j hj hk]; unfold mono; rw [if_neg (fun e => hne e.symm), Int.mul_zero]), if_pos hj]
  have hp : ∀ i b, i < 128 → b < 2 → Cg (ntt (fun j => sum (fun k => g k * T k f j) 256) (2 * i + b)) (sum (fun k => g k * E (T k f) i b) 256) := fun i b hi hb => Cg.trans (ntt_E _ i b hi hb) (Cg.of_eq (hsum f i b))
  obtain ⟨i, b, hb, rfl⟩ : ∃ i b, b < 2 ∧ n = 2 * i + b := ⟨n / 2, n % 2, by omega, by omega⟩
  have hi : i < 128 := by omega
  obtain ⟨t0, t1⟩ := tim_ntt f g i hi
  have w0 : Cg (sum (fun k => g k * E (T k f) i 0) 256) (E f i 0 * E g i 0 + ze i * (E f i 1 * E g i 1)) := by
    have e1 : ∀ k, k < 256 → Cg (g k * E (T k f) i 0) (E f i 0 * (g k * E (T k (mono 0)) i 0) + ze i * (E f i 1 * (g k * E (T k (mono 0)) i 1))) := by
      intro k hk
      refine Cg.trans (Cg.mul_left _ (E_T f i hi k (by omega)).1) (Cg.of_eq ?_)
      rw [Int.mul_add, Int.mul_left_comm (g k), Int.mul_left_comm (g k) (ze i), Int.mul_left_comm (g k) (E f i 1)]
    refine Cg.trans (sum_congr e1) ?_
    rw [sum_add, sum_mul, sum_mul, sum_mul]
    exact Cg.add (Cg.mul_left _ (hg i 0 (by decide)).symm) (Cg.mul_left _ (Cg.mul_left _ (hg i 1 (by decide)).symm))
  have w1 : Cg (sum (fun k => g k * E (T k f) i 1) 256) (E f i 0 * E g i 1 + E f i 1 * E g i 0) := by
    have e1 : ∀ k, k < 256 → Cg (g k * E (T k f) i 1) (E f i 0 * (g k * E (T k (mono 0)) i 1) + E f i 1 * (g k * E (T k (mono 0)) i 0)) := by
      intro k hk
      refine Cg.trans (Cg.mul_left _ (E_T f i hi k (by omega)).2) (Cg.of_eq ?_)
      rw [Int.mul_add, Int.mul_left_comm (g k), Int.mul_left_comm (g k) (E f i 1)]
    refine Cg.trans (sum_congr e1) ?_
    rw [sum_add, sum_mul, sum_mul]
    exact Cg.add (Cg.mul_left _ (hg i 1 (by decide)).symm) (Cg.mul_left _ (hg i 0 (by decide)).symm)
  obtain rfl | rfl : b = 0 ∨ b = 1 := by omega
  · exact Cg.trans t0 (Cg.trans w0.symm (hp i 0 hi (by decide)).symm)
  · exact Cg.trans t1 (Cg.trans w1.symm (hp i 1 hi (by decide)).symm)
/-- One turned poly: the product with the turned one. -/
theorem tim_turn (f : Nat → Int) (b n : Nat) (hn : n < 256) (hb : b < 256) : Cg (tim (ntt f) (ntt (mono b)) n) (ntt (T b f) n) := by
  refine Cg.trans (tim_turns f (mono b) n hn) ?_
  have hc : Sc 1 (fun j => sum (fun i => mono b i * T i f j) 256) (T b f) := fun j hj => Cg.of_eq (by
    rw [Int.one_mul]
    show sum (fun i => mono b i * T i f j) 256 = _
    rw [sum_one (fun i => mono b i * T i f j) b (T b f j) (by unfold mono; rw [if_pos rfl, Int.one_mul]) 256 (fun k _ hne => by show mono b k * _ = 0; unfold mono; rw [if_neg hne, Int.zero_mul]), if_pos hb])
  exact Cg.trans (ntt_sc hc n hn) (Cg.of_eq (Int.one_mul _))
theorem ntt_add (f g : Nat → Int) (n : Nat) (hn : n < 256) : Cg (ntt (fun j => f j + g j) n) (ntt f n + ntt g n) := by
  obtain ⟨i, b, hb, rfl⟩ : ∃ i b, b < 2 ∧ n = 2 * i + b := ⟨n / 2, n % 2, by omega, by omega⟩
  refine Cg.trans (ntt_E _ i b (by omega) hb) ?_
  rw [E_add]
  exact Cg.add (ntt_E f i b (by omega) hb).symm (ntt_E g i b (by omega) hb).symm
theorem ntt_congr {f g : Nat → Int} (h : ∀ n, n < 256 → Cg (f n) (g n)) (n : Nat) (hn : n < 256) : Cg (ntt f n) (ntt g n) := by
  have : Sc 1 f g := fun m hm => Cg.trans (h m hm) (Cg.of_eq (Int.one_mul _).symm)
  exact Cg.trans (ntt_sc this n hn) (Cg.of_eq (Int.one_mul _))
end Go.Proofs.Ytiphpcehmjcejaa.Pm
