/- What packing and unpacking numbers computes: digits of one number. -/
import Derived.Test.YtggiddekbocokaaDoorPLHx10
import Derived.Test.YtggiddekbocokaaDoorPLHx7
import Derived.Test.YtggiddekbocokaaDoorPLHx8
import Derived.Laws.BitsLemmas
namespace Go.Proofs.YtggiddekbocokaaDoor.PackH
open Go.RowKit Go.Proofs.YtggiddekbocokaaDoor.PLH Go.Proofs.YtggiddekbocokaaDoorW.PrintWords Go.Proofs.YtggiddekbocokaaDoorW.PrintLast Go.Proofs.YtggiddekbocokaaDoorW.PrintMore

theorem bnd {α β : Type} {o : Option α} {x : α} {f : α → Option β} {r : Option β} (h : o = some x) (k : f x = r) : o.bind f = r := by rw [h]; exact k
theorem ifp {α : Type} {c : Prop} [Decidable c] {a b r : α} (h : c) (k : a = r) : (if c then a else b) = r := by rw [if_pos h]; exact k
theorem ifn {α : Type} {c : Prop} [Decidable c] {a b r : α} (h : ¬ c) (k : b = r) : (if c then a else b) = r := by rw [if_neg h]; exact k
theorem w64 {n : Int} (h0 : -9223372036854775808 ≤ n) (h1 : n ≤ 9223372036854775807) : wrap64 n = n := by unfold wrap64; omega
theorem rdI (l : List Int) (i : Nat) (h : i < l.length) : rd l (i : Int) = l[i] := by
  unfold rd
  rw [Int.toNat_natCast, List.getD_eq_getElem?_getD, List.getElem?_eq_getElem h]
  rfl
theorem wraps_i64 (n : Int) (h₀ : 0 ≤ n) (h₁ : n < 2 ^ 63) : IntKind.i64.wrap n = n := by rw [IntKind.wrap_i64]; omega
/-- Numbers of d bits each, the first the lowest. -/
def val (d : Nat) : List Int → Nat
  | [] => 0
  | x :: r => x.toNat + 2 ^ d * val d r
/-- So many digits to the base 256, the lowest first. -/
def digs : Nat → Nat → List Int
  | 0, _ => []
  | n + 1, m => ((m % 256 : Nat) : Int) :: digs n (m / 256)
theorem digs_len : ∀ (n m : Nat), (digs n m).length = n
  | 0, _ => rfl
  | n + 1, m => by rw [digs, List.length_cons, digs_len n]
theorem or_add (h x i : Nat) (hi : i ≤ 63) (hh : h < 2 ^ i) (hx : x % 2 ^ i = 0) (hb : x < 2 ^ 63) : Go.bits .or .i64 (h : Int) (x : Int) = ((h + x : Nat) : Int) := by
  have h63 : h < 2 ^ 63 := Nat.lt_of_lt_of_le hh (Nat.pow_le_pow_right (by decide) hi)
  rw [(bits_nat .i64 63 (by decide) wraps_i64 h x h63 hb).2]
  have hq : x = 2 ^ i * (x / 2 ^ i) := by
    have := Nat.div_add_mod x (2 ^ i)
    omega
  have := Nat.two_pow_add_eq_or_of_lt hh (x / 2 ^ i)
  rw [← hq] at this
  rw [Nat.or_comm, ← this, Nat.add_comm]
/-! ### Packing -/
theorem pack_step (d n x h : Nat) (hn : n < 8) (hd : d ≤ 24) (hx : x < 2 ^ d) (hh : h < 2 ^ n) :
    Go.bits .or .i64 (h : Int) (shl .i64 (x : Int) (n : Int)) = ((h + x * 2 ^ n : Nat) : Int) ∧ h + x * 2 ^ n < 2 ^ (n + d) := by
  have h1 : x * 2 ^ n < 2 ^ (n + d) := by rw [Nat.add_comm n d, Nat.pow_add]; exact Nat.mul_lt_mul_of_pos_right hx (Nat.two_pow_pos n)
  have h2 : (2 : Nat) ^ (n + d) ≤ 2 ^ 31 := Nat.pow_le_pow_right (by decide) (by omega)
  have hs : shl .i64 (x : Int) (n : Int) = ((x * 2 ^ n : Nat) : Int) := by
    unfold shl
    rw [Int.toNat_natCast, Nat.min_eq_left (by simp only [IntKind.bits]; omega), show (x : Int) * 2 ^ n = ((x * 2 ^ n : Nat) : Int) by push_cast; rfl]
    exact wraps_i64 _ (by omega) (by have := Nat.lt_of_lt_of_le h1 h2; omega)
  refine ⟨by rw [hs]; exact or_add h _ n (by omega) hh (Nat.mul_mod_left _ _) (by omega), ?_⟩
  have h3 : h + x * 2 ^ n < 2 ^ n + x * 2 ^ n := by omega
  have h4 : 2 ^ n + x * 2 ^ n = (x + 1) * 2 ^ n := by rw [Nat.add_mul]; omega
  have h5 : (x + 1) * 2 ^ n ≤ 2 ^ d * 2 ^ n := Nat.mul_le_mul_right _ hx
  rw [Nat.pow_add, Nat.mul_comm (2 ^ n)]
  omega
theorem digs_step (n h V t : Nat) (hn : 8 ≤ n) (ht : 1 ≤ t) : digs t (h + 2 ^ n * V) = ((h % 256 : Nat) : Int) :: digs (t - 1) (h / 256 + 2 ^ (n - 8) * V) := by
  obtain ⟨t', rfl⟩ : ∃ t', t = t' + 1 := ⟨t - 1, by omega⟩
  have hp : (2 : Nat) ^ n * V = 256 * (2 ^ (n - 8) * V) := by
    rw [← Nat.mul_assoc, show (256 : Nat) = 2 ^ 8 by decide, ← Nat.pow_add]
    congr 2
    omega
  rw [digs, hp, Nat.add_mul_mod_self_left, Nat.add_mul_div_left _ _ (by decide)]
  rfl
/-- Are numbers such of d bits? -/
def fit (d : Nat) (xs : List Int) : Prop := ∀ x ∈ xs, 0 ≤ x ∧ x < (2 ^ d : Nat)
theorem pack_all (d : Nat) (hd1 : 1 ≤ d) (hd : d ≤ 24) (xs : List Int) (hxs : fit d xs) (hl : xs.length < 4294967296) : ∀ k : Nat,
    (∀ (m i n h : Nat) (out : List Int), i + m = xs.length → n < 8 → h < 2 ^ n → 6 * m + 1 ≤ k → out.length + 4 * m + 4 < 140737488355328 →
      bits_Pack.l0 k (d : Int) out (h : Int) (n : Int) xs (xs.length : Int) (i : Int) = some (out ++ digs ((n + d * m + 7) / 8) (h + 2 ^ n * val d (xs.drop i)))) ∧
    (∀ (m i n h : Nat) (out : List Int), i + m + 1 = xs.length → n ≤ 31 → h < 2 ^ n → 6 * m + n / 8 + 2 ≤ k → out.length + n / 8 + 4 * m + 4 < 140737488355328 →
      bits_Pack.l1 k (d : Int) out (h : Int) (n : Int) xs (xs.length : Int) (i : Int) = some (out ++ digs ((n + d * m + 7) / 8) (h + 2 ^ n * val d (xs.drop (i + 1)))))
  | 0 => ⟨fun _ _ _ _ _ _ _ _ hk => by omega, fun _ _ _ _ _ _ _ _ hk => by omega⟩
  | 1 => by
    refine ⟨fun m i n h out hi hn hh hk ho => ?_, fun _ _ _ _ _ _ _ _ hk => by omega⟩
    obtain rfl : m = 0 := by omega
    rw [bits_Pack.l0, if_neg (by omega), List.drop_of_length_le (by omega)]
    by_cases c : n = 0
    · subst c
      rw [if_neg (by omega)]
      simp [digs]
    · rw [if_pos (by omega), if_pos (by omega), show (n + d * 0 + 7) / 8 = 1 by omega]
      simp [digs, val]
  | k + 2 => by
    have ih1 := pack_all d hd1 hd xs hxs hl (k + 1)
    have ih0 := pack_all d hd1 hd xs hxs hl k
    constructor
    · intro m i n h out hi hn hh hk ho
      cases m with
      | zero =>
        rw [bits_Pack.l0, if_neg (by omega), List.drop_of_length_le (by omega)]
        by_cases c : n = 0
        · subst c
          rw [if_neg (by omega)]
          simp [digs]
        · rw [if_pos (by omega), if_pos (by omega), show (n + d * 0 + 7) / 8 = 1 by omega]
          simp [digs, val]
      | succ m =>
        have hil : i < xs.length := by omega
        obtain ⟨hx0, hx1⟩ := hxs xs[i] (List.getElem_mem hil)
        obtain ⟨x, hx⟩ := Int.eq_ofNat_of_zero_le hx0
        have hxd : x < 2 ^ d := by rw [hx] at hx1; exact_mod_cast hx1
        obtain ⟨hor, hlt⟩ := pack_step d n x h hn hd hxd hh
        have e : xs.drop i = xs[i] :: xs.drop (i + 1) := (List.getElem_cons_drop hil).symm
        rw [bits_Pack.l0, if_pos (by omega), if_pos (by omega), if_pos (by omega), rdI xs i hil, hx, if_neg (by omega), if_pos (by omega)]
        have hshr : shr .i64 (x : Int) (d : Int) = 0 := by
          unfold shr
          rw [Int.toNat_natCast, Nat.min_eq_left (by simp only [IntKind.bits]; omega)]
          exact Int.ediv_eq_zero_of_lt (by omega) (by exact_mod_cast hxd)
        rw [hshr, bits_Pack.j2, if_neg (by simp), if_pos (by omega), hor, w64 (by omega) (by omega), show (n : Int) + (d : Int) = ((n + d : Nat) : Int) by omega,
          ih0.2 m i (n + d) (h + x * 2 ^ n) out (by omega) (by omega) hlt (by omega) (by omega), e, val, hx, Int.toNat_natCast]
        congr 3
        · rw [Nat.mul_add]; omega
        · rw [Nat.mul_add, Nat.pow_add, Nat.mul_comm x, Nat.mul_assoc]; omega
    · intro m i n h out hi hn hh hk ho
      rw [bits_Pack.l1]
      by_cases c : 8 ≤ n
      · have hh8 : h / 256 < 2 ^ (n - 8) := by
          rw [Nat.div_lt_iff_lt_mul (by decide), show (256 : Nat) = 2 ^ 8 by decide, ← Nat.pow_add, show n - 8 + 8 = n by omega]
          exact hh
        rw [if_pos (by omega), if_pos (by omega), w64 (by omega) (by omega), show (n : Int) - 8 = ((n - 8 : Nat) : Int) by omega, show (h : Int) % 256 = ((h % 256 : Nat) : Int) by omega, show (h : Int) / 256 = ((h / 256 : Nat) : Int) by omega,
          ih1.2 m i (n - 8) (h / 256) _ hi (by omega) hh8 (by omega) (by rw [List.length_append]; simp only [List.length_cons, List.length_nil]; omega),
          digs_step n h _ ((n + d * m + 7) / 8) c (by omega), List.append_assoc, List.cons_append, List.nil_append]
        congr 4
        omega
      · rw [if_neg (by omega), w64 (by omega) (by omega), show (i : Int) + 1 = ((i + 1 : Nat) : Int) by omega, ih1.1 m (i + 1) n h out (by omega) (by omega) hh (by omega) (by omega)]
theorem pack_ok (k d : Nat) (hd1 : 1 ≤ d) (hd : d ≤ 24) (xs : List Int) (hxs : fit d xs) (hl : xs.length < 4294967296) (hk : 6 * xs.length + 2 ≤ k) :
    bits_Pack.f k (d : Int) xs = some (digs ((d * xs.length + 7) / 8) (val d xs)) := by
  obtain ⟨k, rfl⟩ : ∃ k', k = k' + 1 := ⟨k - 1, by omega⟩
  rw [bits_Pack.f, if_neg (by omega), decide_eq_false (by omega), bits_Pack.j0, if_neg (by simp)]
  have := (pack_all d hd1 hd xs hxs hl k).1 xs.length 0 0 0 [] (by omega) (by omega) (by simp) (by omega) (by simp only [List.length_nil]; omega)
  rw [Int.natCast_zero] at this
  rw [this]
  simp
/-! ### Unpacking -/
/-- So many numbers of d bits each, the lowest first. -/
def unp (d : Nat) : Nat → Nat → List Int
  | 0, _ => []
  | n + 1, m => ((m % 2 ^ d : Nat) : Int) :: unp d n (m / 2 ^ d)
theorem unp_len (d : Nat) : ∀ (n m : Nat), (unp d n m).length = n
  | 0, _ => rfl
  | n + 1, m => by rw [unp, List.length_cons, unp_len d n]
theorem unp_fit (d : Nat) : ∀ (n m : Nat), fit d (unp d n m)
  | 0, _ => fun x hx => by simp [unp] at hx
  | n + 1, m => fun x hx => by
    rw [unp, List.mem_cons] at hx
    rcases hx with rfl | hx
    · have := Nat.mod_lt m (Nat.two_pow_pos d)
      exact ⟨by omega, by exact_mod_cast this⟩
    · exact unp_fit d n _ x hx
theorem unp_step (d n h V t : Nat) (hn : d ≤ n) (ht : 1 ≤ t) : unp d t (h + 2 ^ n * V) = ((h % 2 ^ d : Nat) : Int) :: unp d (t - 1) (h / 2 ^ d + 2 ^ (n - d) * V) := by
  obtain ⟨t', rfl⟩ : ∃ t', t = t' + 1 := ⟨t - 1, by omega⟩
  have hp : (2 : Nat) ^ n * V = 2 ^ d * (2 ^ (n - d) * V) := by
    rw [← Nat.mul_assoc, ← Nat.pow_add]
    congr 2
    omega
  rw [unp, hp, Nat.add_mul_mod_self_left, Nat.add_mul_div_left _ _ (Nat.two_pow_pos d)]
  rfl
/-- Bytes of a number are such; numbers of its bytes are such. -/
theorem digs_fit : ∀ (n m : Nat), fit 8 (digs n m)
  | 0, _ => fun x hx => by simp [digs] at hx
  | n + 1, m => fun x hx => by
    rw [digs, List.mem_cons] at hx
    rcases hx with rfl | hx
    · have := Nat.mod_lt m (show 256 > 0 by decide)
      exact ⟨by omega, by omega⟩
    · exact digs_fit n _ x hx
theorem val_digs : ∀ (n m : Nat), m < 256 ^ n → val 8 (digs n m) = m
  | 0, m, h => by simp at h; simp [digs, val, h]
  | n + 1, m, h => by
    have h2 : m / 256 < 256 ^ n := by rw [Nat.div_lt_iff_lt_mul (by decide), ← Nat.pow_succ]; exact h
    rw [digs, val, val_digs n _ h2, Int.toNat_natCast]
    omega
theorem val_lt (d : Nat) : ∀ (xs : List Int), fit d xs → val d xs < 2 ^ (d * xs.length)
  | [], _ => by simp [val]
  | x :: r, h => by
    obtain ⟨h0, h1⟩ := h x (List.mem_cons_self ..)
    have ih := val_lt d r (fun y hy => h y (List.mem_cons_of_mem _ hy))
    obtain ⟨y, hy⟩ := Int.eq_ofNat_of_zero_le h0
    rw [hy] at h1
    have hyd : y < 2 ^ d := by exact_mod_cast h1
    rw [val, hy, Int.toNat_natCast, List.length_cons, Nat.mul_add, Nat.mul_one, Nat.pow_add]
    have h3 : 2 ^ d * (val d r + 1) ≤ 2 ^ d * 2 ^ (d * r.length) := Nat.mul_le_mul_left _ ih
    rw [Nat.mul_add, Nat.mul_one] at h3
    rw [Nat.mul_comm (2 ^ (d * r.length))]
    omega
theorem unp_val (d : Nat) : ∀ (xs : List Int), fit d xs → unp d xs.length (val d xs) = xs
  | [], _ => rfl
  | x :: r, h => by
    obtain ⟨h0, h1⟩ := h x (List.mem_cons_self ..)
    obtain ⟨y, hy⟩ := Int.eq_ofNat_of_zero_le h0
    rw [hy] at h1
    have hyd : y < 2 ^ d := by exact_mod_cast h1
    rw [List.length_cons, unp, val, hy, Int.toNat_natCast, Nat.add_mul_mod_self_left, Nat.mod_eq_of_lt hyd, Nat.add_mul_div_left _ _ (Nat.two_pow_pos d), Nat.div_eq_of_lt hyd, Nat.zero_add,
      unp_val d r (fun z hz => h z (List.mem_cons_of_mem _ hz))]
theorem or_step (d n x h : Nat) (hn : n < 24) (hd : d ≤ 8) (hx : x < 2 ^ d) (hh : h < 2 ^ n) :
    Go.bits .or .i64 (h : Int) (shl .i64 (x : Int) (n : Int)) = ((h + x * 2 ^ n : Nat) : Int) ∧ h + x * 2 ^ n < 2 ^ (n + d) := by
  have h1 : x * 2 ^ n < 2 ^ (n + d) := by rw [Nat.add_comm n d, Nat.pow_add]; exact Nat.mul_lt_mul_of_pos_right hx (Nat.two_pow_pos n)
  have h2 : (2 : Nat) ^ (n + d) ≤ 2 ^ 31 := Nat.pow_le_pow_right (by decide) (by omega)
  have hs : shl .i64 (x : Int) (n : Int) = ((x * 2 ^ n : Nat) : Int) := by
    unfold shl
    rw [Int.toNat_natCast, Nat.min_eq_left (by simp only [IntKind.bits]; omega), show (x : Int) * 2 ^ n = ((x * 2 ^ n : Nat) : Int) by push_cast; rfl]
    exact wraps_i64 _ (by omega) (by have := Nat.lt_of_lt_of_le h1 h2; omega)
  refine ⟨by rw [hs]; exact or_add h _ n (by omega) hh (Nat.mul_mod_left _ _) (by omega), ?_⟩
  have h3 : h + x * 2 ^ n < 2 ^ n + x * 2 ^ n := by omega
  have h4 : 2 ^ n + x * 2 ^ n = (x + 1) * 2 ^ n := by rw [Nat.add_mul]; omega
  have h5 : (x + 1) * 2 ^ n ≤ 2 ^ d * 2 ^ n := Nat.mul_le_mul_right _ hx
  rw [Nat.pow_add, Nat.mul_comm (2 ^ n)]
  omega
theorem low_is (d h : Nat) (hd : d ≤ 62) (hh : h < 2 ^ 63) : bits_Low.f (d : Int) (h : Int) = some ((h % 2 ^ d : Nat) : Int) := by
  unfold bits_Low.f
  rw [if_neg (by omega), if_neg (by omega), if_pos (by omega)]
  have hs : wrap64 (shl .i64 1 (d : Int) - 1) = 2 ^ d - 1 := by
    have h2 : (2 : Nat) ^ d ≤ 2 ^ 62 := Nat.pow_le_pow_right (by decide) hd
    have h3 : (shl .i64 1 (d : Int)) = ((2 ^ d : Nat) : Int) := by
      unfold shl
      rw [Int.toNat_natCast, Nat.min_eq_left (by simp only [IntKind.bits]; omega), Int.one_mul, show (2 : Int) ^ d = ((2 ^ d : Nat) : Int) by push_cast; rfl]
      generalize (2 : Nat) ^ d = P at h2
      exact wraps_i64 _ (by omega) (by omega)
    rw [h3, show (2 : Int) ^ d = ((2 ^ d : Nat) : Int) by push_cast; rfl]
    generalize (2 : Nat) ^ d = P at h2
    exact w64 (by omega) (by omega)
  rw [hs, bits_mask .i64 63 (by decide) wraps_i64 d (by omega) (h : Int) (by omega) (by exact_mod_cast hh)]
  norm_cast
theorem unpack_all (d : Nat) (hd1 : 1 ≤ d) (hd : d ≤ 24) (xs : List Int) (hxs : fit 8 xs) (hl : xs.length < 1048576) : ∀ k : Nat,
    (∀ (m i n h : Nat) (out : List Int), i + m = xs.length → n < d → h < 2 ^ n → 40 * m + 1 ≤ k → out.length + 40 * m + 64 < 17592186044416 →
      bits_Unpack.l0 k (d : Int) out (h : Int) (n : Int) xs (xs.length : Int) (i : Int) = some (out ++ unp d ((n + 8 * m) / d) (h + 2 ^ n * val 8 (xs.drop i)))) ∧
    (∀ (m i n h : Nat) (out : List Int), i + m + 1 = xs.length → n ≤ 31 → h < 2 ^ n → n < d + 8 → 40 * m + n + 2 ≤ k → out.length + 40 * m + n + 64 < 17592186044416 →
      bits_Unpack.l1 k (d : Int) out (h : Int) (n : Int) xs (xs.length : Int) (i : Int) = some (out ++ unp d ((n + 8 * m) / d) (h + 2 ^ n * val 8 (xs.drop (i + 1)))))
  | 0 => ⟨fun _ _ _ _ _ _ _ _ hk => by omega, fun _ _ _ _ _ _ _ _ _ hk => by omega⟩
  | k + 1 => by
    have ih := unpack_all d hd1 hd xs hxs hl k
    constructor
    · intro m i n h out hi hn hh hk ho
      cases m with
      | zero =>
        rw [bits_Unpack.l0, if_neg (by omega), List.drop_of_length_le (by omega), show (n + 8 * 0) / d = 0 by rw [Nat.mul_zero, Nat.add_zero]; exact Nat.div_eq_of_lt hn]
        simp [unp]
      | succ m =>
        have hil : i < xs.length := by omega
        obtain ⟨hx0, hx1⟩ := hxs xs[i] (List.getElem_mem hil)
        obtain ⟨x, hx⟩ := Int.eq_ofNat_of_zero_le hx0
        have hxd : x < 2 ^ 8 := by rw [hx] at hx1; exact_mod_cast hx1
        obtain ⟨hor, hlt⟩ := or_step 8 n x h (by omega) (by decide) hxd hh
        have e : xs.drop i = xs[i] :: xs.drop (i + 1) := (List.getElem_cons_drop hil).symm
        rw [bits_Unpack.l0, if_pos (by omega), if_pos (by omega), if_pos (by omega), rdI xs i hil, hx, w64 (n := (x : Int)) (by omega) (by omega), if_pos (by omega), hor, w64 (by omega) (by omega), show (n : Int) + 8 = ((n + 8 : Nat) : Int) by omega,
          ih.2 m i (n + 8) (h + x * 2 ^ n) out (by omega) (by omega) hlt (by omega) (by omega) (by omega), e, val, hx, Int.toNat_natCast]
        congr 3
        · congr 1; omega
        · rw [Nat.mul_add, Nat.pow_add, Nat.mul_comm x, Nat.mul_assoc]; omega
    · intro m i n h out hi hn hh hnd hk ho
      rw [bits_Unpack.l1]
      by_cases c : d ≤ n
      · have hp : (2 : Nat) ^ n ≤ 2 ^ 31 := Nat.pow_le_pow_right (by decide) hn
        have hh8 : h / 2 ^ d < 2 ^ (n - d) := by
          rw [Nat.div_lt_iff_lt_mul (Nat.two_pow_pos d), ← Nat.pow_add, show n - d + d = n by omega]
          exact hh
        have hshr : shr .i64 (h : Int) (d : Int) = ((h / 2 ^ d : Nat) : Int) := by
          unfold shr
          rw [Int.toNat_natCast, Nat.min_eq_left (by simp only [IntKind.bits]; omega)]
          norm_cast
        have hdiv : (n + 8 * m) / d = (n - d + 8 * m) / d + 1 := by
          rw [show n + 8 * m = (n - d + 8 * m) + d by omega, Nat.add_div_right _ hd1]
        rw [if_pos (by omega), low_is d h (by omega) (Nat.lt_of_lt_of_le hh (Nat.le_trans hp (by decide))), Option.bind_some, if_pos (by omega), if_pos (by omega), hshr, w64 (by omega) (by omega), show (n : Int) - (d : Int) = ((n - d : Nat) : Int) by omega,
          ih.2 m i (n - d) (h / 2 ^ d) _ hi (by omega) hh8 (by omega) (by omega) (by rw [List.length_append]; simp only [List.length_cons, List.length_nil]; omega),
          unp_step d n h _ ((n + 8 * m) / d) c (by rw [hdiv]; exact Nat.succ_le_succ (Nat.zero_le _)), List.append_assoc, List.cons_append, List.nil_append, hdiv]
        rfl
      · rw [if_neg (by omega), w64 (by omega) (by omega), show (i : Int) + 1 = ((i + 1 : Nat) : Int) by omega, ih.1 m (i + 1) n h out (by omega) (by omega) hh (by omega) (by omega)]
theorem unpack_ok (k d : Nat) (hd1 : 1 ≤ d) (hd : d ≤ 24) (xs : List Int) (hxs : fit 8 xs) (hl : xs.length < 1048576) (hk : 40 * xs.length + 2 ≤ k) :
    bits_Unpack.f k (d : Int) xs = some (unp d (8 * xs.length / d) (val 8 xs)) := by
  obtain ⟨k, rfl⟩ : ∃ k', k = k' + 1 := ⟨k - 1, by omega⟩
  rw [bits_Unpack.f, if_neg (by omega), decide_eq_false (by omega), bits_Unpack.j0, if_neg (by simp)]
  have := (unpack_all d hd1 hd xs hxs hl k).1 xs.length 0 0 0 [] (by omega) (by omega) (by simp) (by omega) (by simp only [List.length_nil]; omega)
  rw [Int.natCast_zero] at this
  rw [this]
  simp
end Go.Proofs.YtggiddekbocokaaDoor.PackH
