/- Any poly's bytes, and any bytes' poly, within any bounds, are the document's. No condition. -/
import Derived.Test.YtaegmnimkemjgaaDoorPLNx1
import Derived.Test.YtaegmnimkemjgaaDoorPLNx6
import Derived.Test.YtaegmnimkemjgaaDoorPLNx7
import Derived.Laws.BitsLemmas
import Derived.Test.YtaegmnimkemjgaaDoorPLNx18
import Derived.Test.YtaegmnimkemjgaaDoorPLNx20
import Derived.Test.YtaegmnimkemjgaaDoorPLNx21
import Derived.Test.YtaegmnimkemjgaaDoorPLNx2
import Derived.Test.YtaegmnimkemjgaaDoorPLNx3
import Derived.Test.YtaegmnimkemjgaaDoorPLNx4
import Derived.Test.YtaegmnimkemjgaaDoorPLNx5
import Derived.Test.YtaegmnimkemjgaaDoorPLNx8
import Derived.Test.YtaegmnimkemjgaaDoorPLNx13
import Derived.Test.YtaegmnimkemjgaaDoorPLNx14
import Derived.Test.YtaegmnimkemjgaaDoorPLNx15
import Derived.Test.YtaegmnimkemjgaaDoorPLNx16
import Derived.Test.YtaegmnimkemjgaaDoorPLNx17
import Derived.Test.YtaegmnimkemjgaaDoorPLNx19
import Derived.Test.YtaegmnimkemjgaaDoorPLNx22
import Derived.Test.YtaegmnimkemjgaaDoorPLNx23
import Derived.Test.YtaegmnimkemjgaaDoorPLNx24
import Derived.Test.YtaegmnimkemjgaaDoorPLNx9
namespace Go.Proofs.YtaegmnimkemjgaaDoor.PackN
open Go.RowKit Go.Proofs.YtaegmnimkemjgaaDoor.PLN Go.Proofs.YtaegmnimkemjgaaDoorW.PrintWords Go.Proofs.YtaegmnimkemjgaaDoorW.PrintLast Go.Proofs.YtaegmnimkemjgaaDoorW.PrintMore

theorem bnd {α β : Type} {o : Option α} {x : α} {f : α → Option β} {r : Option β} (h : o = some x) (k : f x = r) : o.bind f = r := by rw [h]; exact k
theorem ifp {α : Type} {c : Prop} [Decidable c] {a b r : α} (h : c) (k : a = r) : (if c then a else b) = r := by rw [if_pos h]; exact k
theorem ifn {α : Type} {c : Prop} [Decidable c] {a b r : α} (h : ¬ c) (k : b = r) : (if c then a else b) = r := by rw [if_neg h]; exact k
theorem w64 {n : Int} (h0 : -9223372036854775808 ≤ n) (h1 : n ≤ 9223372036854775807) : wrap64 n = n := by unfold wrap64; omega
theorem rdI (l : List Int) (i : Nat) (h : i < l.length) : rd l (i : Int) = l[i] := by
  unfold rd
  rw [Int.toNat_natCast, List.getD_eq_getElem?_getD, List.getElem?_eq_getElem h]
  rfl
theorem wraps_i64 (n : Int) (h₀ : 0 ≤ n) (h₁ : n < 2 ^ 63) : IntKind.i64.wrap n = n := by rw [IntKind.wrap_i64]; omega
/-- Numbers of d bits each, the first the lowest. -/
def val (d : Nat) : List Int → Nat
  | [] => 0
  | x :: r => x.toNat + 2 ^ d * val d r
/-- So many digits to the base 256, the lowest first. -/
def digs : Nat → Nat → List Int
  | 0, _ => []
  | n + 1, m => ((m % 256 : Nat) : Int) :: digs n (m / 256)
theorem digs_len : ∀ (n m : Nat), (digs n m).length = n
  | 0, _ => rfl
  | n + 1, m => by rw [digs, List.length_cons, digs_len n]
theorem or_add (h x i : Nat) (hi : i ≤ 63) (hh : h < 2 ^ i) (hx : x % 2 ^ i = 0) (hb : x < 2 ^ 63) : Go.bits .or .i64 (h : Int) (x : Int) = ((h + x : Nat) : Int) := by
  have h63 : h < 2 ^ 63 := Nat.lt_of_lt_of_le hh (Nat.pow_le_pow_right (by decide) hi)
  rw [(bits_nat .i64 63 (by decide) wraps_i64 h x h63 hb).2]
  have hq : x = 2 ^ i * (x / 2 ^ i) := by
    have := Nat.div_add_mod x (2 ^ i)
    omega
  have := Nat.two_pow_add_eq_or_of_lt hh (x / 2 ^ i)
  rw [← hq] at this
  rw [Nat.or_comm, ← this, Nat.add_comm]
/-! ### Packing -/
theorem pack_step (d n x h : Nat) (hn : n < 8) (hd : d ≤ 24) (hx : x < 2 ^ d) (hh : h < 2 ^ n) :
    Go.bits .or .i64 (h : Int) (shl .i64 (x : Int) (n : Int)) = ((h + x * 2 ^ n : Nat) : Int) ∧ h + x * 2 ^ n < 2 ^ (n + d) := by
  have h1 : x * 2 ^ n < 2 ^ (n + d) := by rw [Nat.add_comm n d, Nat.pow_add]; exact Nat.mul_lt_mul_of_pos_right hx (Nat.two_pow_pos n)
  have h2 : (2 : Nat) ^ (n + d) ≤ 2 ^ 31 := Nat.pow_le_pow_right (by decide) (by omega)
  have hs : shl .i64 (x : Int) (n : Int) = ((x * 2 ^ n : Nat) : Int) := by
    unfold shl
    rw [Int.toNat_natCast, Nat.min_eq_left (by simp only [IntKind.bits]; omega), show (x : Int) * 2 ^ n = ((x * 2 ^ n : Nat) : Int) by push_cast; rfl]
    exact wraps_i64 _ (by omega) (by have := Nat.lt_of_lt_of_le h1 h2; omega)
  refine ⟨by rw [hs]; exact or_add h _ n (by omega) hh (Nat.mul_mod_left _ _) (by omega), ?_⟩
  have h3 : h + x * 2 ^ n < 2 ^ n + x * 2 ^ n := by omega
  have h4 : 2 ^ n + x * 2 ^ n = (x + 1) * 2 ^ n := by rw [Nat.add_mul]; omega
  have h5 : (x + 1) * 2 ^ n ≤ 2 ^ d * 2 ^ n := Nat.mul_le_mul_right _ hx
  rw [Nat.pow_add, Nat.mul_comm (2 ^ n)]
  omega
theorem digs_step (n h V t : Nat) (hn : 8 ≤ n) (ht : 1 ≤ t) : digs t (h + 2 ^ n * V) = ((h % 256 : Nat) : Int) :: digs (t - 1) (h / 256 + 2 ^ (n - 8) * V) := by
  obtain ⟨t', rfl⟩ : ∃ t', t = t' + 1 := ⟨t - 1, by omega⟩
  have hp : (2 : Nat) ^ n * V = 256 * (2 ^ (n - 8) * V) := by
    rw [← Nat.mul_assoc, show (256 : Nat) = 2 ^ 8 by decide, ← Nat.pow_add]
    congr 2
    omega
  rw [digs, hp, Nat.add_mul_mod_self_left, Nat.add_mul_div_left _ _ (by decide)]
  rfl
/-- Are numbers such of d bits? -/
def fit (d : Nat) (xs : List Int) : Prop := ∀ x ∈ xs, 0 ≤ x ∧ x < (2 ^ d : Nat)
theorem pack_all (d : Nat) (hd1 : 1 ≤ d) (hd : d ≤ 24) (xs : List Int) (hxs : fit d xs) (hl : xs.length < 4294967296) : ∀ k : Nat,
    (∀ (m i n h : Nat) (out : List Int), i + m = xs.length → n < 8 → h < 2 ^ n → 6 * m + 1 ≤ k → out.length + 4 * m + 4 < 140737488355328 →
      bits_Pack.l0 k (d : Int) out (h : Int) (n : Int) xs (xs.length : Int) (i : Int) = some (out ++ digs ((n + d * m + 7) / 8) (h + 2 ^ n * val d (xs.drop i)))) ∧
    (∀ (m i n h : Nat) (out : List Int), i + m + 1 = xs.length → n ≤ 31 → h < 2 ^ n → 6 * m + n / 8 + 2 ≤ k → out.length + n / 8 + 4 * m + 4 < 140737488355328 →
      bits_Pack.l1 k (d : Int) out (h : Int) (n : Int) xs (xs.length : Int) (i : Int) = some (out ++ digs ((n + d * m + 7) / 8) (h + 2 ^ n * val d (xs.drop (i + 1)))))
  | 0 => ⟨fun _ _ _ _ _ _ _ _ hk => by omega, fun _ _ _ _ _ _ _ _ hk => by omega⟩
  | 1 => by
    refine ⟨fun m i n h out hi hn hh hk ho => ?_, fun _ _ _ _ _ _ _ _ hk => by omega⟩
    obtain rfl : m = 0 := by omega
    rw [bits_Pack.l0, if_neg (by omega), List.drop_of_length_le (by omega)]
    by_cases c : n = 0
    · subst c
      rw [if_neg (by omega)]
      simp [digs]
    · rw [if_pos (by omega), if_pos (by omega), show (n + d * 0 + 7) / 8 = 1 by omega]
      simp [digs, val]
  | k + 2 => by
    have ih1 := pack_all d hd1 hd xs hxs hl (k + 1)
    have ih0 := pack_all d hd1 hd xs hxs hl k
    constructor
    · intro m i n h out hi hn hh hk ho
      cases m with
      | zero =>
        rw [bits_Pack.l0, if_neg (by omega), List.drop_of_length_le (by omega)]
        by_cases c : n = 0
        · subst c
          rw [if_neg (by omega)]
          simp [digs]
        · rw [if_pos (by omega), if_pos (by omega), show (n + d * 0 + 7) / 8 = 1 by omega]
          simp [digs, val]
      | succ m =>
        have hil : i < xs.length := by omega
        obtain ⟨hx0, hx1⟩ := hxs xs[i] (List.getElem_mem hil)
        obtain ⟨x, hx⟩ := Int.eq_ofNat_of_zero_le hx0
        have hxd : x < 2 ^ d := by rw [hx] at hx1; exact_mod_cast hx1
        obtain ⟨hor, hlt⟩ := pack_step d n x h hn hd hxd hh
        have e : xs.drop i = xs[i] :: xs.drop (i + 1) := (List.getElem_cons_drop hil).symm
        rw [bits_Pack.l0, if_pos (by omega), if_pos (by omega), if_pos (by omega), rdI xs i hil, hx, if_neg (by omega), if_pos (by omega)]
        have hshr : shr .i64 (x : Int) (d : Int) = 0 := by
          unfold shr
          rw [Int.toNat_natCast, Nat.min_eq_left (by simp only [IntKind.bits]; omega)]
          exact Int.ediv_eq_zero_of_lt (by omega) (by exact_mod_cast hxd)
        rw [hshr, bits_Pack.j2, if_neg (by simp), if_pos (by omega), hor, w64 (by omega) (by omega), show (n : Int) + (d : Int) = ((n + d : Nat) : Int) by omega,
          ih0.2 m i (n + d) (h + x * 2 ^ n) out (by omega) (by omega) hlt (by omega) (by omega), e, val, hx, Int.toNat_natCast]
        congr 3
        · rw [Nat.mul_add]; omega
        · rw [Nat.mul_add, Nat.pow_add, Nat.mul_comm x, Nat.mul_assoc]; omega
    · intro m i n h out hi hn hh hk ho
      rw [bits_Pack.l1]
      by_cases c : 8 ≤ n
      · have hh8 : h / 256 < 2 ^ (n - 8) := by
          rw [Nat.div_lt_iff_lt_mul (by decide), show (256 : Nat) = 2 ^ 8 by decide, ← Nat.pow_add, show n - 8 + 8 = n by omega]
          exact hh
        rw [if_pos (by omega), if_pos (by omega), w64 (by omega) (by omega), show (n : Int) - 8 = ((n - 8 : Nat) : Int) by omega, show (h : Int) % 256 = ((h % 256 : Nat) : Int) by omega, show (h : Int) / 256 = ((h / 256 : Nat) : Int) by omega,
          ih1.2 m i (n - 8) (h / 256) _ hi (by omega) hh8 (by omega) (by rw [List.length_append]; simp only [List.length_cons, List.length_nil]; omega),
          digs_step n h _ ((n + d * m + 7) / 8) c (by omega), List.append_assoc, List.cons_append, List.nil_append]
        congr 4
        omega
      · rw [if_neg (by omega), w64 (by omega) (by omega), show (i : Int) + 1 = ((i + 1 : Nat) : Int) by omega, ih1.1 m (i + 1) n h out (by omega) (by omega) hh (by omega) (by omega)]
theorem pack_ok (k d : Nat) (hd1 : 1 ≤ d) (hd : d ≤ 24) (xs : List Int) (hxs : fit d xs) (hl : xs.length < 4294967296) (hk : 6 * xs.length + 2 ≤ k) :
    bits_Pack.f k (d : Int) xs = some (digs ((d * xs.length + 7) / 8) (val d xs)) := by
  obtain ⟨k, rfl⟩ : ∃ k', k = k' + 1 := ⟨k - 1, by omega⟩
  rw [bits_Pack.f, if_neg (by omega), decide_eq_false (by omega), bits_Pack.j0, if_neg (by simp)]
  have := (pack_all d hd1 hd xs hxs hl k).1 xs.length 0 0 0 [] (by omega) (by omega) (by simp) (by omega) (by simp only [List.length_nil]; omega)
  rw [Int.natCast_zero] at this
  rw [this]
  simp
/-! ### Unpacking -/
/-- So many numbers of d bits each, the lowest first. -/
def unp (d : Nat) : Nat → Nat → List Int
  | 0, _ => []
  | n + 1, m => ((m % 2 ^ d : Nat) : Int) :: unp d n (m / 2 ^ d)
theorem unp_len (d : Nat) : ∀ (n m : Nat), (unp d n m).length = n
  | 0, _ => rfl
  | n + 1, m => by rw [unp, List.length_cons, unp_len d n]
theorem unp_fit (d : Nat) : ∀ (n m : Nat), fit d (unp d n m)
  | 0, _ => fun x hx => by simp [unp] at hx
  | n + 1, m => fun x hx => by
    rw [unp, List.mem_cons] at hx
    rcases hx with rfl | hx
    · have := Nat.mod_lt m (Nat.two_pow_pos d)
      exact ⟨by omega, by exact_mod_cast this⟩
    · exact unp_fit d n _ x hx
theorem unp_step (d n h V t : Nat) (hn : d ≤ n) (ht : 1 ≤ t) : unp d t (h + 2 ^ n * V) = ((h % 2 ^ d : Nat) : Int) :: unp d (t - 1) (h / 2 ^ d + 2 ^ (n - d) * V) := by
  obtain ⟨t', rfl⟩ : ∃ t', t = t' + 1 := ⟨t - 1, by omega⟩
  have hp : (2 : Nat) ^ n * V = 2 ^ d * (2 ^ (n - d) * V) := by
    rw [← Nat.mul_assoc, ← Nat.pow_add]
    congr 2
    omega
  rw [unp, hp, Nat.add_mul_mod_self_left, Nat.add_mul_div_left _ _ (Nat.two_pow_pos d)]
  rfl
/-- Bytes of a number are such; numbers of its bytes are such. -/
theorem digs_fit : ∀ (n m : Nat), fit 8 (digs n m)
  | 0, _ => fun x hx => by simp [digs] at hx
  | n + 1, m => fun x hx => by
    rw [digs, List.mem_cons] at hx
    rcases hx with rfl | hx
    · have := Nat.mod_lt m (show 256 > 0 by decide)
      exact ⟨by omega, by omega⟩
    · exact digs_fit n _ x hx
theorem val_digs : ∀ (n m : Nat), m < 256 ^ n → val 8 (digs n m) = m
  | 0, m, h => by simp at h; simp [digs, val, h]
  | n + 1, m, h => by
    have h2 : m / 256 < 256 ^ n := by rw [Nat.div_lt_iff_lt_mul (by decide), ← Nat.pow_succ]; exact h
    rw [digs, val, val_digs n _ h2, Int.toNat_natCast]
    omega
theorem val_lt (d : Nat) : ∀ (xs : List Int), fit d xs → val d xs < 2 ^ (d * xs.length)
  | [], _ => by simp [val]
  | x :: r, h => by
    obtain ⟨h0, h1⟩ := h x (List.mem_cons_self ..)
    have ih := val_lt d r (fun y hy => h y (List.mem_cons_of_mem _ hy))
    obtain ⟨y, hy⟩ := Int.eq_ofNat_of_zero_le h0
    rw [hy] at h1
    have hyd : y < 2 ^ d := by exact_mod_cast h1
    rw [val, hy, Int.toNat_natCast, List.length_cons, Nat.mul_add, Nat.mul_one, Nat.pow_add]
    have h3 : 2 ^ d * (val d r + 1) ≤ 2 ^ d * 2 ^ (d * r.length) := Nat.mul_le_mul_left _ ih
    rw [Nat.mul_add, Nat.mul_one] at h3
    rw [Nat.mul_comm (2 ^ (d * r.length))]
    omega
theorem unp_val (d : Nat) : ∀ (xs : List Int), fit d xs → unp d xs.length (val d xs) = xs
  | [], _ => rfl
  | x :: r, h => by
    obtain ⟨h0, h1⟩ := h x (List.mem_cons_self ..)
    obtain ⟨y, hy⟩ := Int.eq_ofNat_of_zero_le h0
    rw [hy] at h1
    have hyd : y < 2 ^ d := by exact_mod_cast h1
    rw [List.length_cons, unp, val, hy, Int.toNat_natCast, Nat.add_mul_mod_self_left, Nat.mod_eq_of_lt hyd, Nat.add_mul_div_left _ _ (Nat.two_pow_pos d), Nat.div_eq_of_lt hyd, Nat.zero_add,
      unp_val d r (fun z hz => h z (List.mem_cons_of_mem _ hz))]
theorem or_step (d n x h : Nat) (hn : n < 24) (hd : d ≤ 8) (hx : x < 2 ^ d) (hh : h < 2 ^ n) :
    Go.bits .or .i64 (h : Int) (shl .i64 (x : Int) (n : Int)) = ((h + x * 2 ^ n : Nat) : Int) ∧ h + x * 2 ^ n < 2 ^ (n + d) := by
  have h1 : x * 2 ^ n < 2 ^ (n + d) := by rw [Nat.add_comm n d, Nat.pow_add]; exact Nat.mul_lt_mul_of_pos_right hx (Nat.two_pow_pos n)
  have h2 : (2 : Nat) ^ (n + d) ≤ 2 ^ 31 := Nat.pow_le_pow_right (by decide) (by omega)
  have hs : shl .i64 (x : Int) (n : Int) = ((x * 2 ^ n : Nat) : Int) := by
    unfold shl
    rw [Int.toNat_natCast, Nat.min_eq_left (by simp only [IntKind.bits]; omega), show (x : Int) * 2 ^ n = ((x * 2 ^ n : Nat) : Int) by push_cast; rfl]
    exact wraps_i64 _ (by omega) (by have := Nat.lt_of_lt_of_le h1 h2; omega)
  refine ⟨by rw [hs]; exact or_add h _ n (by omega) hh (Nat.mul_mod_left _ _) (by omega), ?_⟩
  have h3 : h + x * 2 ^ n < 2 ^ n + x * 2 ^ n := by omega
  have h4 : 2 ^ n + x * 2 ^ n = (x + 1) * 2 ^ n := by rw [Nat.add_mul]; omega
  have h5 : (x + 1) * 2 ^ n ≤ 2 ^ d * 2 ^ n := Nat.mul_le_mul_right _ hx
  rw [Nat.pow_add, Nat.mul_comm (2 ^ n)]
  omega
theorem low_is (d h : Nat) (hd : d ≤ 62) (hh : h < 2 ^ 63) : bits_Low.f (d : Int) (h : Int) = some ((h % 2 ^ d : Nat) : Int) := by
  unfold bits_Low.f
  rw [if_neg (by omega), if_neg (by omega), if_pos (by omega)]
  have hs : wrap64 (shl .i64 1 (d : Int) - 1) = 2 ^ d - 1 := by
    have h2 : (2 : Nat) ^ d ≤ 2 ^ 62 := Nat.pow_le_pow_right (by decide) hd
    have h3 : (shl .i64 1 (d : Int)) = ((2 ^ d : Nat) : Int) := by
      unfold shl
      rw [Int.toNat_natCast, Nat.min_eq_left (by simp only [IntKind.bits]; omega), Int.one_mul, show (2 : Int) ^ d = ((2 ^ d : Nat) : Int) by push_cast; rfl]
      generalize (2 : Nat) ^ d = P at h2
      exact wraps_i64 _ (by omega) (by omega)
    rw [h3, show (2 : Int) ^ d = ((2 ^ d : Nat) : Int) by push_cast; rfl]
    generalize (2 : Nat) ^ d = P at h2
    exact w64 (by omega) (by omega)
  rw [hs, bits_mask .i64 63 (by decide) wraps_i64 d (by omega) (h : Int) (by omega) (by exact_mod_cast hh)]
  norm_cast
theorem unpack_all (d : Nat) (hd1 : 1 ≤ d) (hd : d ≤ 24) (xs : List Int) (hxs : fit 8 xs) (hl : xs.length < 1048576) : ∀ k : Nat,
    (∀ (m i n h : Nat) (out : List Int), i + m = xs.length → n < d → h < 2 ^ n → 40 * m + 1 ≤ k → out.length + 40 * m + 64 < 17592186044416 →
      bits_Unpack.l0 k (d : Int) out (h : Int) (n : Int) xs (xs.length : Int) (i : Int) = some (out ++ unp d ((n + 8 * m) / d) (h + 2 ^ n * val 8 (xs.drop i)))) ∧
    (∀ (m i n h : Nat) (out : List Int), i + m + 1 = xs.length → n ≤ 31 → h < 2 ^ n → n < d + 8 → 40 * m + n + 2 ≤ k → out.length + 40 * m + n + 64 < 17592186044416 →
      bits_Unpack.l1 k (d : Int) out (h : Int) (n : Int) xs (xs.length : Int) (i : Int) = some (out ++ unp d ((n + 8 * m) / d) (h + 2 ^ n * val 8 (xs.drop (i + 1)))))
  | 0 => ⟨fun _ _ _ _ _ _ _ _ hk => by omega, fun _ _ _ _ _ _ _ _ _ hk => by omega⟩
  | k + 1 => by
    have ih := unpack_all d hd1 hd xs hxs hl k
    constructor
    · intro m i n h out hi hn hh hk ho
      cases m with
      | zero =>
        rw [bits_Unpack.l0, if_neg (by omega), List.drop_of_length_le (by omega), show (n + 8 * 0) / d = 0 by rw [Nat.mul_zero, Nat.add_zero]; exact Nat.div_eq_of_lt hn]
        simp [unp]
      | succ m =>
        have hil : i < xs.length := by omega
        obtain ⟨hx0, hx1⟩ := hxs xs[i] (List.getElem_mem hil)
        obtain ⟨x, hx⟩ := Int.eq_ofNat_of_zero_le hx0
        have hxd : x < 2 ^ 8 := by rw [hx] at hx1; exact_mod_cast hx1
        obtain ⟨hor, hlt⟩ := or_step 8 n x h (by omega) (by decide) hxd hh
        have e : xs.drop i = xs[i] :: xs.drop (i + 1) := (List.getElem_cons_drop hil).symm
        rw [bits_Unpack.l0, if_pos (by omega), if_pos (by omega), if_pos (by omega), rdI xs i hil, hx, w64 (n := (x : Int)) (by omega) (by omega), if_pos (by omega), hor, w64 (by omega) (by omega), show (n : Int) + 8 = ((n + 8 : Nat) : Int) by omega,
          ih.2 m i (n + 8) (h + x * 2 ^ n) out (by omega) (by omega) hlt (by omega) (by omega) (by omega), e, val, hx, Int.toNat_natCast]
        congr 3
        · congr 1; omega
        · rw [Nat.mul_add, Nat.pow_add, Nat.mul_comm x, Nat.mul_assoc]; omega
    · intro m i n h out hi hn hh hnd hk ho
      rw [bits_Unpack.l1]
      by_cases c : d ≤ n
      · have hp : (2 : Nat) ^ n ≤ 2 ^ 31 := Nat.pow_le_pow_right (by decide) hn
        have hh8 : h / 2 ^ d < 2 ^ (n - d) := by
          rw [Nat.div_lt_iff_lt_mul (Nat.two_pow_pos d), ← Nat.pow_add, show n - d + d = n by omega]
          exact hh
        have hshr : shr .i64 (h : Int) (d : Int) = ((h / 2 ^ d : Nat) : Int) := by
          unfold shr
          rw [Int.toNat_natCast, Nat.min_eq_left (by simp only [IntKind.bits]; omega)]
          norm_cast
        have hdiv : (n + 8 * m) / d = (n - d + 8 * m) / d + 1 := by
          rw [show n + 8 * m = (n - d + 8 * m) + d by omega, Nat.add_div_right _ hd1]
        rw [if_pos (by omega), low_is d h (by omega) (Nat.lt_of_lt_of_le hh (Nat.le_trans hp (by decide))), Option.bind_some, if_pos (by omega), if_pos (by omega), hshr, w64 (by omega) (by omega), show (n : Int) - (d : Int) = ((n - d : Nat) : Int) by omega,
          ih.2 m i (n - d) (h / 2 ^ d) _ hi (by omega) hh8 (by omega) (by omega) (by rw [List.length_append]; simp only [List.length_cons, List.length_nil]; omega),
          unp_step d n h _ ((n + 8 * m) / d) c (by rw [hdiv]; exact Nat.succ_le_succ (Nat.zero_le _)), List.append_assoc, List.cons_append, List.nil_append, hdiv]
        rfl
      · rw [if_neg (by omega), w64 (by omega) (by omega), show (i : Int) + 1 = ((i + 1 : Nat) : Int) by omega, ih.1 m (i + 1) n h out (by omega) (by omega) hh (by omega) (by omega)]
theorem unpack_ok (k d : Nat) (hd1 : 1 ≤ d) (hd : d ≤ 24) (xs : List Int) (hxs : fit 8 xs) (hl : xs.length < 1048576) (hk : 40 * xs.length + 2 ≤ k) :
    bits_Unpack.f k (d : Int) xs = some (unp d (8 * xs.length / d) (val 8 xs)) := by
  obtain ⟨k, rfl⟩ : ∃ k', k = k' + 1 := ⟨k - 1, by omega⟩
  rw [bits_Unpack.f, if_neg (by omega), decide_eq_false (by omega), bits_Unpack.j0, if_neg (by simp)]
  have := (unpack_all d hd1 hd xs hxs hl k).1 xs.length 0 0 0 [] (by omega) (by omega) (by simp) (by omega) (by simp only [List.length_nil]; omega)
  rw [Int.natCast_zero] at this
  rw [this]
  simp
end Go.Proofs.YtaegmnimkemjgaaDoor.PackN
namespace Go.Proofs.YtaegmnimkemjgaaDoor.PackN
open Go.RowKit Go.Proofs.YtaegmnimkemjgaaDoor.PLN Go.Proofs.YtaegmnimkemjgaaDoorW.PrintWords Go.Proofs.YtaegmnimkemjgaaDoorW.PrintLast Go.Proofs.YtaegmnimkemjgaaDoorW.PrintMore

theorem and_one (x : Nat) (h : x < 2 ^ 63) : Go.bits .and .i64 (x : Int) 1 = ((x % 2 : Nat) : Int) := by
  have := bits_mask .i64 63 (by decide) wraps_i64 1 (by decide) (x : Int) (by omega) (by exact_mod_cast h)
  rw [show (2 : Int) ^ 1 - 1 = 1 by decide, show (2 : Int) ^ 1 = 2 by decide] at this
  rw [this]
  omega
theorem shr_nat (x k : Nat) (h : k ≤ 64) : shr .i64 (x : Int) (k : Int) = ((x / 2 ^ k : Nat) : Int) := by
  unfold shr
  rw [Int.toNat_natCast, Nat.min_eq_left (by simp only [IntKind.bits]; omega)]
  norm_cast
theorem shl_nat (x k : Nat) (h : k ≤ 62) (hx : x * 2 ^ k < 2 ^ 63) : shl .i64 (x : Int) (k : Int) = ((x * 2 ^ k : Nat) : Int) := by
  unfold shl
  rw [Int.toNat_natCast, Nat.min_eq_left (by simp only [IntKind.bits]; omega), show (x : Int) * 2 ^ k = ((x * 2 ^ k : Nat) : Int) by push_cast; rfl]
  exact wraps_i64 _ (by omega) (by exact_mod_cast hx)
theorem or_u8 (a b : Nat) (ha : a < 256) (hb : b < 256) : Go.bits .or .u8 (a : Int) (b : Int) = ((a ||| b : Nat) : Int) := (bits_nat .u8 8 (by decide) wraps_u8 a b ha hb).2
theorem or_bit (M p c : Nat) (hp : p < 8) (hM : M < 2 ^ p) (hc : c ≤ 1) : Go.bits .or .u8 (M : Int) ((c * 2 ^ p : Nat) : Int) = ((M + 2 ^ p * c : Nat) : Int) := by
  have h2 : 2 ^ p * c ≤ 2 ^ p := by
    have := Nat.mul_le_mul_left (2 ^ p) hc
    omega
  have h3 : (2 : Nat) ^ p ≤ 2 ^ 7 := Nat.pow_le_pow_right (by decide) (by omega)
  rw [Nat.mul_comm c, or_u8 M _ (by omega) (by omega)]
  have := Nat.two_pow_add_eq_or_of_lt hM c
  rw [Nat.or_comm, ← this, Nat.add_comm]
theorem digs_get : ∀ (n m i : Nat) (h : i < (digs n m).length), (digs n m)[i] = ((m / 256 ^ i % 256 : Nat) : Int)
  | 0, m, i, h => by simp [digs] at h
  | n + 1, m, 0, h => by simp [digs]
  | n + 1, m, i + 1, h => by
    have h2 : i < (digs n (m / 256)).length := by rw [digs_len] at h ⊢; omega
    have e : (digs (n + 1) m)[i + 1] = (digs n (m / 256))[i] := rfl
    rw [e, digs_get n (m / 256) i h2, Nat.pow_succ, Nat.mul_comm, Nat.div_div_eq_div_mul]
/-- A bit behind all others. -/
theorem digs_bit : ∀ (n M p c : Nat), M < 2 ^ p → c ≤ 1 → p / 8 < n →
    (digs n M).set (p / 8) (Go.bits .or .u8 ((digs n M).getD (p / 8) 0) ((c * 2 ^ (p % 8) : Nat) : Int)) = digs n (M + 2 ^ p * c)
  | 0, M, p, c, _, _, h => by omega
  | n + 1, M, p, c, hM, hc, h => by
    by_cases hp : p < 8
    · have h0 : p / 8 = 0 := by omega
      have h1 : p % 8 = p := by omega
      have h3 : (2 : Nat) ^ p ≤ 2 ^ 7 := Nat.pow_le_pow_right (by decide) (by omega)
      have h2 : 2 ^ p * c ≤ 2 ^ p := by
        have := Nat.mul_le_mul_left (2 ^ p) hc
        omega
      rw [h0, h1, digs, digs, List.set_cons_zero, List.getD_cons_zero, show M % 256 = M by omega, or_bit M p c hp hM hc, show (M + 2 ^ p * c) % 256 = M + 2 ^ p * c by omega, show M / 256 = 0 by omega, show (M + 2 ^ p * c) / 256 = 0 by omega]
    · have h0 : p / 8 = (p - 8) / 8 + 1 := by omega
      have h1 : p % 8 = (p - 8) % 8 := by omega
      have hM2 : M / 256 < 2 ^ (p - 8) := by
        rw [Nat.div_lt_iff_lt_mul (by decide), show (256 : Nat) = 2 ^ 8 by decide, ← Nat.pow_add, show p - 8 + 8 = p by omega]
        exact hM
      have e : 2 ^ p * c = 256 * (2 ^ (p - 8) * c) := by
        rw [← Nat.mul_assoc, show (256 : Nat) = 2 ^ 8 by decide, ← Nat.pow_add]
        congr 2
        omega
      rw [h0, h1, digs, digs, List.set_cons_succ, List.getD_cons_succ, digs_bit n (M / 256) (p - 8) c hM2 hc (by omega), e, Nat.add_mul_mod_self_left, Nat.add_mul_div_left _ _ (by decide)]
theorem val_snoc (d : Nat) : ∀ (a : List Int) (x : Int), val d (a ++ [x]) = val d a + 2 ^ (d * a.length) * x.toNat
  | [], x => by simp [val]
  | y :: r, x => by
    rw [List.cons_append, val, val, val_snoc d r x, List.length_cons, Nat.mul_add, Nat.mul_add, Nat.mul_one, Nat.pow_add, Nat.mul_comm (2 ^ (d * r.length)) (2 ^ d), Nat.mul_assoc]
    omega
theorem val_lt_take (d i : Nat) (xs : List Int) (h : fit d xs) (hi : i ≤ xs.length) : val d (xs.take i) < 2 ^ (d * i) := by
  have := val_lt d (xs.take i) (fun x hx => h x (List.mem_of_mem_take hx))
  rwa [List.length_take, Nat.min_eq_left hi] at this
/-! ### Packing -/
theorem rpack_place (d i j n L : Nat) (hd : d ≤ 24) (hi : i < L) (hj : j < d) (hl : L < 1000000) (hn : n = (d * L + 7) / 8) : d * i + j < 24000000 ∧ (d * i + j) / 8 < n ∧ wrap64 (wrap64 ((d : Int) * (i : Int)) + (j : Int)) = ((d * i + j : Nat) : Int) := by
  have hq : d * i + j < d * L := by
    have := Nat.mul_le_mul_left d (show i + 1 ≤ L by omega)
    rw [Nat.mul_add] at this
    omega
  have hdl : d * L ≤ 24 * L := Nat.mul_le_mul_right _ hd
  refine ⟨by omega, by omega, ?_⟩
  rw [show (d : Int) * (i : Int) = ((d * i : Nat) : Int) by push_cast; rfl]
  generalize d * i = q at *
  rw [w64 (n := (q : Int)) (by omega) (by omega), w64 (by omega) (by omega)]
  omega
theorem tdiv8 (p : Nat) (h : p < 24000000) : wrap64 (Int.tdiv (p : Int) 8) = ((p / 8 : Nat) : Int) := by
  rw [Int.tdiv_eq_ediv_of_nonneg (by omega), w64 (by omega) (by omega)]
  omega
theorem tmod8 (p : Nat) : Int.tmod (p : Int) 8 = ((p % 8 : Nat) : Int) := by
  rw [Int.tmod_eq_emod_of_nonneg (by omega)]
  omega
theorem bit_small (c p : Nat) (hc : c ≤ 1) : c * 2 ^ (p % 8) < 256 := by
  have h5 : (2 : Nat) ^ (p % 8) ≤ 2 ^ 7 := Nat.pow_le_pow_right (by decide) (by omega)
  have h6 := Nat.mul_le_mul hc h5
  omega
theorem rpack_sum (V q j x : Nat) (h : V < 2 ^ q) : V + 2 ^ q * (x % 2 ^ j) < 2 ^ (q + j) ∧ V + 2 ^ q * (x % 2 ^ j) + 2 ^ (q + j) * (x / 2 ^ j % 2) = V + 2 ^ q * (x % 2 ^ (j + 1)) := by
  constructor
  · have h4 : 2 ^ q * (x % 2 ^ j + 1) ≤ 2 ^ q * 2 ^ j := Nat.mul_le_mul_left _ (Nat.mod_lt _ (Nat.two_pow_pos j))
    rw [Nat.mul_add, Nat.mul_one, ← Nat.pow_add] at h4
    omega
  · rw [Nat.mod_pow_succ, Nat.mul_add, Nat.pow_add, Nat.mul_assoc, Nat.add_assoc]
theorem next_ (j : Nat) (h : j < 1000000) : wrap64 ((j : Int) + 1) = ((j + 1 : Nat) : Int) := by
  rw [w64 (by omega) (by omega)]
  rfl
theorem rpack_bit (d : Nat) (hd : d ≤ 24) (xs : List Int) (hxs : fit d xs) (hl : xs.length < 1000000) (n : Nat) (hn : n = (d * xs.length + 7) / 8) (i : Nat) (hi : i < xs.length) (j : Nat) (hj : j < d) (x : Nat) (hx : xs[i] = (x : Int)) (hx24 : x < 2 ^ 24) (k : Nat) :
    chatelaineref5_Pack.l1 (k + 1) (d : Int) xs (digs n (val d (xs.take i) + 2 ^ (d * i) * ((xs[i]).toNat % 2 ^ j))) (i : Int) (j : Int) = chatelaineref5_Pack.l1 k (d : Int) xs (digs n (val d (xs.take i) + 2 ^ (d * i) * ((xs[i]).toNat % 2 ^ (j + 1)))) (i : Int) ((j + 1 : Nat) : Int) := by
  obtain ⟨p1, p2, p3⟩ := rpack_place d i j n xs.length hd hi hj hl hn
  have hV := val_lt_take d i xs hxs (Nat.le_of_lt hi)
  obtain ⟨s1, s2⟩ := rpack_sum (val d (xs.take i)) (d * i) j x hV
  have hx63 : x / 2 ^ j < 2 ^ 63 := Nat.lt_of_le_of_lt (Nat.div_le_self _ _) (Nat.lt_trans hx24 (by decide))
  have hc : x / 2 ^ j % 2 ≤ 1 := Nat.le_of_lt_succ (Nat.mod_lt _ (by decide))
  have hb := digs_bit n _ (d * i + j) (x / 2 ^ j % 2) s1 hc p2
  have hsm := bit_small (x / 2 ^ j % 2) (d * i + j) hc
  have hsh := shl_nat (x / 2 ^ j % 2) ((d * i + j) % 8) (Nat.le_of_lt (Nat.lt_trans (Nat.mod_lt _ (by decide)) (by decide))) (Nat.lt_trans hsm (by decide))
  have hlen := digs_len n (val d (xs.take i) + 2 ^ (d * i) * (x % 2 ^ j))
  have hji : (j : Int) < (d : Int) := by exact_mod_cast hj
  have hj1 := next_ j (Nat.lt_of_lt_of_le hj (Nat.le_trans hd (by decide)))
  have e256 : (((x / 2 ^ j % 2 * 2 ^ ((d * i + j) % 8) : Nat) : Int)) % 256 = ((x / 2 ^ j % 2 * 2 ^ ((d * i + j) % 8) : Nat) : Int) := Int.emod_eq_of_lt (Int.natCast_nonneg _) (Int.ofNat_lt.mpr hsm)
  have hand := and_one _ hx63
  have hshr := shr_nat x j (Nat.le_trans (Nat.le_of_lt hj) (Nat.le_trans hd (by decide)))
  have ht := tdiv8 _ p1
  have hm := tmod8 (d * i + j)
  rw [hx, Int.toNat_natCast, ← s2, ← hb]
  generalize digs n (val d (xs.take i) + 2 ^ (d * i) * (x % 2 ^ j)) = D at *
  clear hb s1 s2 hV hn hc hsm hx24 hx63
  generalize x / 2 ^ j % 2 * 2 ^ ((d * i + j) % 8) = B at *
  generalize hP : d * i + j = P at *
  rw [chatelaineref5_Pack.l1, if_pos hji, p3, ht, hm, if_pos (Int.natCast_nonneg _), if_pos (by rw [hlen]; exact_mod_cast p2), if_pos (Int.natCast_nonneg _), if_pos (by exact_mod_cast hi), if_pos (Int.natCast_nonneg _), if_pos (Int.natCast_nonneg _),
    rdI xs i hi, hx, hshr, hand, hsh, e256, hj1]
  unfold rd
  rw [Int.toNat_natCast]
theorem rpack_l1 (d : Nat) (hd : d ≤ 24) (xs : List Int) (hxs : fit d xs) (hl : xs.length < 1000000) (n : Nat) (hn : n = (d * xs.length + 7) / 8) (i : Nat) (hi : i < xs.length) : ∀ (m j k : Nat), j + m = d →
    chatelaineref5_Pack.l1 (k + 1 + m) (d : Int) xs (digs n (val d (xs.take i) + 2 ^ (d * i) * ((xs[i]).toNat % 2 ^ j))) (i : Int) (j : Int) = chatelaineref5_Pack.l0 k (d : Int) xs (digs n (val d (xs.take (i + 1)))) ((i + 1 : Nat) : Int)
  | 0, j, k, hj => by
    obtain rfl : j = d := by omega
    obtain ⟨h0, h1⟩ := hxs xs[i] (List.getElem_mem hi)
    have h2 : (xs[i]).toNat < 2 ^ j := by omega
    rw [Nat.add_zero, chatelaineref5_Pack.l1, if_neg (by omega), w64 (by omega) (by omega), List.take_succ_eq_append_getElem hi, val_snoc, List.length_take, Nat.min_eq_left (by omega), Nat.mod_eq_of_lt h2]
    rfl
  | m + 1, j, k, hj => by
    obtain ⟨h0, h1⟩ := hxs xs[i] (List.getElem_mem hi)
    obtain ⟨x, hx⟩ := Int.eq_ofNat_of_zero_le h0
    have hxd : x < 2 ^ 24 := by
      rw [hx] at h1
      have h2 : x < 2 ^ d := by exact_mod_cast h1
      exact Nat.lt_of_lt_of_le h2 (Nat.pow_le_pow_right (by decide) hd)
    have hjd : j < d := by omega
    have step := rpack_bit d hd xs hxs hl n hn i hi j hjd x hx hxd
    rw [show k + 1 + (m + 1) = (k + 1 + m) + 1 by omega, step]
    exact rpack_l1 d hd xs hxs hl n hn i hi m (j + 1) k (by omega)
theorem rpack_l0 (d : Nat) (hd : d ≤ 24) (xs : List Int) (hxs : fit d xs) (hl : xs.length < 1000000) (n : Nat) (hn : n = (d * xs.length + 7) / 8) : ∀ (m i k : Nat), i + m = xs.length → 30 * m < k →
    chatelaineref5_Pack.l0 k (d : Int) xs (digs n (val d (xs.take i))) (i : Int) = some (digs n (val d xs))
  | 0, i, k + 1, hi, hk => by rw [chatelaineref5_Pack.l0, if_neg (by omega), List.take_of_length_le (by omega)]
  | m + 1, i, k + 1, hi, hk => by
    have hil : i < xs.length := by omega
    obtain ⟨h0, h1⟩ := hxs xs[i] (List.getElem_mem hil)
    have hp24 : (2 : Nat) ^ d ≤ 2 ^ 24 := Nat.pow_le_pow_right (by decide) hd
    have hs : shl .i64 1 (d : Int) = ((2 ^ d : Nat) : Int) := by
      have := shl_nat 1 d (by omega) (by omega)
      rw [Nat.one_mul] at this
      exact this
    obtain ⟨k', rfl⟩ : ∃ k', k = (k' + 1 + d) + 1 := ⟨k - 2 - d, by omega⟩
    rw [chatelaineref5_Pack.l0, if_pos (by omega), if_pos (by omega), rdI xs i hil, if_neg (by omega), if_pos (by omega), hs, decide_eq_false (by omega), chatelaineref5_Pack.j2, if_neg (by simp)]
    have := rpack_l1 d hd xs hxs hl n hn i hil d 0 k' (by omega)
    rw [Nat.pow_zero, Nat.mod_one, Nat.mul_zero, Int.natCast_zero] at this
    simp only [Nat.add_zero] at this
    rw [this, rpack_l0 d hd xs hxs hl n hn m (i + 1) k' (by omega) (by omega)]
theorem digs_zero : ∀ n : Nat, digs n 0 = List.replicate n 0
  | 0 => rfl
  | n + 1 => by rw [digs, List.replicate_succ, ← digs_zero n]; rfl
theorem rpack_ok (k d : Nat) (hd1 : 1 ≤ d) (hd : d ≤ 24) (xs : List Int) (hxs : fit d xs) (hl : xs.length < 1000000) (hk : 30 * xs.length + 2 ≤ k) :
    chatelaineref5_Pack.f k (d : Int) xs = some (digs ((d * xs.length + 7) / 8) (val d xs)) := by
  obtain ⟨k, rfl⟩ : ∃ k', k = k' + 1 := ⟨k - 1, by omega⟩
  have hdl : d * xs.length ≤ 24 * xs.length := Nat.mul_le_mul_right _ hd
  have hw : wrap64 (Int.tdiv (wrap64 (wrap64 ((d : Int) * (xs.length : Int)) + 7)) 8) = (((d * xs.length + 7) / 8 : Nat) : Int) := by
    rw [show (d : Int) * (xs.length : Int) = ((d * xs.length : Nat) : Int) by push_cast; rfl, w64 (n := ((d * xs.length : Nat) : Int)) (by omega) (by omega), w64 (n := ((d * xs.length : Nat) : Int) + 7) (by omega) (by omega), Int.tdiv_eq_ediv_of_nonneg (by omega), w64 (by omega) (by omega)]
    omega
  rw [chatelaineref5_Pack.f, if_neg (by omega), decide_eq_false (by omega), chatelaineref5_Pack.j0, if_neg (by simp), hw, if_pos (by omega), if_pos (by omega), Int.toNat_natCast, ← digs_zero]
  have := rpack_l0 d hd xs hxs hl _ rfl xs.length 0 k (by omega) (by omega)
  rw [List.take_zero, val, Int.natCast_zero] at this
  exact this
/-! ### Unpacking -/
theorem val_get : ∀ (b : List Int), fit 8 b → ∀ (q : Nat) (h : q < b.length), b[q] = ((val 8 b / 256 ^ q % 256 : Nat) : Int)
  | [], _, q, h => by simp at h
  | x :: r, hb, 0, h => by
    obtain ⟨h0, h1⟩ := hb x (List.mem_cons_self ..)
    have h1' : x < 256 := h1
    rw [val, List.getElem_cons_zero, Nat.pow_zero, Nat.div_one]
    omega
  | x :: r, hb, q + 1, h => by
    obtain ⟨h0, h1⟩ := hb x (List.mem_cons_self ..)
    have h1' : x < 256 := h1
    have e : (x.toNat + 2 ^ 8 * val 8 r) / 256 = val 8 r := by omega
    rw [List.getElem_cons_succ, val_get r (fun y hy => hb y (List.mem_cons_of_mem _ hy)) q (by simpa using h), val, show (256 : Nat) ^ (q + 1) = 256 * 256 ^ q from Nat.pow_succ', ← Nat.div_div_eq_div_mul, e]
theorem bit_val (V p : Nat) : (V / 256 ^ (p / 8) % 256) / 2 ^ (p % 8) % 2 = V / 2 ^ p % 2 := by
  have hp : p = 8 * (p / 8) + p % 8 := by omega
  have h8 : p % 8 < 8 := Nat.mod_lt _ (by decide)
  conv => rhs; rw [hp, Nat.pow_add, Nat.pow_mul, ← Nat.div_div_eq_div_mul]
  show V / 256 ^ (p / 8) % 256 / 2 ^ (p % 8) % 2 = V / 256 ^ (p / 8) / 2 ^ (p % 8) % 2
  generalize V / 256 ^ (p / 8) = W
  generalize p % 8 = k at *
  have e : (256 : Nat) = 2 ^ k * 2 ^ (8 - k) := by rw [← Nat.pow_add, show k + (8 - k) = 8 by omega]
  have e2 : (2 : Nat) ^ (8 - k) = 2 * 2 ^ (8 - k - 1) := by rw [← Nat.pow_succ']; congr 1; omega
  rw [e, Nat.mod_mul_right_div_self, e2, Nat.mod_mul_right_mod]
theorem bit_is (b : List Int) (hb : fit 8 b) (p : Nat) (hp : p / 8 < b.length) (hp2 : p < 24000000) : chatelaineref5_Bit.f b (p : Int) = some ((val 8 b / 2 ^ p % 2 : Nat) : Int) := by
  have hv := val_get b hb (p / 8) hp
  have hlt : val 8 b / 256 ^ (p / 8) % 256 < 256 := Nat.mod_lt _ (by decide)
  have hbit := bit_val (val 8 b) p
  have hm := tmod8 p
  have h8 : p % 8 ≤ 64 := Nat.le_of_lt (Nat.lt_trans (Nat.mod_lt _ (by decide)) (by decide))
  have hsm : val 8 b / 256 ^ (p / 8) % 256 / 2 ^ (p % 8) < 2 ^ 63 := Nat.lt_of_le_of_lt (Nat.div_le_self _ _) (Nat.lt_trans hlt (by decide))
  have hand := and_one _ hsm
  rw [hbit] at hand
  unfold chatelaineref5_Bit.f
  rw [tdiv8 p hp2, hm, if_pos (Int.natCast_nonneg _), if_pos (Int.ofNat_lt.mpr hp), if_pos (Int.natCast_nonneg _), rdI b _ hp, hv, w64 (Int.le_trans (by decide) (Int.natCast_nonneg _)) (Int.le_trans (Int.le_of_lt (Int.ofNat_lt.mpr hlt)) (by decide)), shr_nat _ _ h8, hand]
theorem runpack_bit (d : Nat) (hd : d ≤ 24) (b : List Int) (hb : fit 8 b) (hl : b.length < 1000000) (i : Nat) (hi : (i + 1) * d ≤ 8 * b.length) (j : Nat) (hj : j < d) (out : List Int) (k : Nat) :
    chatelaineref5_Unpack.l1 (k + 1) (d : Int) b out (i : Int) ((val 8 b / 2 ^ (i * d) % 2 ^ j : Nat) : Int) (j : Int) = chatelaineref5_Unpack.l1 k (d : Int) b out (i : Int) ((val 8 b / 2 ^ (i * d) % 2 ^ (j + 1) : Nat) : Int) ((j + 1 : Nat) : Int) := by
  have hq : i * d + j < 8 * b.length := by
    rw [Nat.add_mul, Nat.one_mul] at hi
    omega
  have hp2 : i * d + j < 24000000 := by omega
  have hw : wrap64 (wrap64 ((i : Int) * (d : Int)) + (j : Int)) = ((i * d + j : Nat) : Int) := by
    rw [show (i : Int) * (d : Int) = ((i * d : Nat) : Int) by push_cast; rfl]
    generalize i * d = q at *
    rw [w64 (n := (q : Int)) (by omega) (by omega), w64 (by omega) (by omega)]
    omega
  have hp8 : (i * d + j) / 8 < b.length := by omega
  have hbit := bit_is b hb (i * d + j) hp8 hp2
  have hji : (j : Int) < (d : Int) := by exact_mod_cast hj
  have hj1 := next_ j (Nat.lt_of_lt_of_le hj (Nat.le_trans hd (by decide)))
  have hc : val 8 b / 2 ^ (i * d + j) % 2 ≤ 1 := Nat.le_of_lt_succ (Nat.mod_lt _ (by decide))
  have hj62 : j ≤ 62 := Nat.le_trans (Nat.le_of_lt hj) (Nat.le_trans hd (by decide))
  have hj63 : j ≤ 63 := Nat.le_succ_of_le hj62
  have hcs : val 8 b / 2 ^ (i * d + j) % 2 * 2 ^ j < 2 ^ 63 := by
    have h5 : (2 : Nat) ^ j ≤ 2 ^ 62 := Nat.pow_le_pow_right (by decide) hj62
    have h6 := Nat.mul_le_mul hc h5
    exact Nat.lt_of_le_of_lt h6 (by decide)
  have hsh := shl_nat _ j hj62 hcs
  have hor := or_add (val 8 b / 2 ^ (i * d) % 2 ^ j) (val 8 b / 2 ^ (i * d + j) % 2 * 2 ^ j) j hj63 (Nat.mod_lt _ (Nat.two_pow_pos j)) (Nat.mul_mod_left _ _) hcs
  have e : val 8 b / 2 ^ (i * d) % 2 ^ j + val 8 b / 2 ^ (i * d + j) % 2 * 2 ^ j = val 8 b / 2 ^ (i * d) % 2 ^ (j + 1) := by
    rw [Nat.mod_pow_succ, Nat.pow_add, Nat.div_div_eq_div_mul, Nat.mul_comm (2 ^ j)]
  rw [chatelaineref5_Unpack.l1, if_pos hji, hw, hbit, Option.bind_some, if_pos (Int.natCast_nonneg _), hsh, hor, e, hj1]
theorem runpack_l1 (d : Nat) (hd : d ≤ 24) (b : List Int) (hb : fit 8 b) (hl : b.length < 1000000) (i : Nat) (hi : (i + 1) * d ≤ 8 * b.length) (out : List Int) (ho : out.length < 17592186044416) : ∀ (m j k : Nat), j + m = d →
    chatelaineref5_Unpack.l1 (k + 1 + m) (d : Int) b out (i : Int) ((val 8 b / 2 ^ (i * d) % 2 ^ j : Nat) : Int) (j : Int) = chatelaineref5_Unpack.l0 k (d : Int) b (out ++ [((val 8 b / 2 ^ (i * d) % 2 ^ d : Nat) : Int)]) (wrap64 ((i : Int) + 1))
  | 0, j, k, hj => by
    obtain rfl : j = d := by omega
    rw [Nat.add_zero, chatelaineref5_Unpack.l1, if_neg (Int.lt_irrefl _), if_pos ho]
  | m + 1, j, k, hj => by
    rw [show k + 1 + (m + 1) = (k + 1 + m) + 1 by omega, runpack_bit d hd b hb hl i hi j (by omega) out]
    exact runpack_l1 d hd b hb hl i hi out ho m (j + 1) k (by omega)
theorem unp_snoc (d : Nat) : ∀ (i V : Nat), unp d (i + 1) V = unp d i V ++ [((V / 2 ^ (i * d) % 2 ^ d : Nat) : Int)]
  | 0, V => by simp [unp]
  | i + 1, V => by
    rw [unp, unp_snoc d i, unp, List.cons_append, Nat.div_div_eq_div_mul, ← Nat.pow_add, show d + i * d = (i + 1) * d by rw [Nat.add_mul]; omega]
theorem lt_div (a d : Nat) (h : 1 ≤ d) : a < (a / d + 1) * d := by
  have h1 := Nat.div_add_mod a d
  have h2 := Nat.mod_lt a (show d > 0 by omega)
  rw [Nat.add_mul, Nat.one_mul, Nat.mul_comm]
  omega
theorem runpack_l0 (d : Nat) (hd1 : 1 ≤ d) (hd : d ≤ 24) (b : List Int) (hb : fit 8 b) (hl : b.length < 1000000) (n : Nat) (hn : n = 8 * b.length / d) : ∀ (m i k : Nat), i + m = n → 30 * m < k →
    chatelaineref5_Unpack.l0 k (d : Int) b (unp d i (val 8 b)) (i : Int) = some (unp d n (val 8 b))
  | 0, i, k + 1, hi, hk => by
    obtain rfl : i = n := by omega
    have h1 : 8 * b.length < (i + 1) * d := by rw [hn]; exact lt_div _ _ hd1
    have h2 : (i + 1) * d ≤ 8 * b.length + d := by
      rw [hn, Nat.add_mul, Nat.one_mul]
      have := Nat.div_mul_le_self (8 * b.length) d
      omega
    have hw : wrap64 (wrap64 ((i : Int) + 1) * (d : Int)) = (((i + 1) * d : Nat) : Int) := by
      have h3 : i < 1000000000 := by
        have := Nat.le_mul_of_pos_right (i + 1) (show 0 < d by omega)
        omega
      rw [w64 (n := (i : Int) + 1) (by omega) (by omega), show ((i : Int) + 1) * (d : Int) = (((i + 1) * d : Nat) : Int) by push_cast; rfl]
      generalize (i + 1) * d = q at *
      exact w64 (by omega) (by omega)
    have hw2 : wrap64 (8 * (b.length : Int)) = ((8 * b.length : Nat) : Int) := by rw [w64 (by omega) (by omega)]; omega
    rw [chatelaineref5_Unpack.l0, hw, hw2, if_neg (fun h => by
      have := Int.ofNat_le.mp h
      omega)]
  | m + 1, i, k + 1, hi, hk => by
    have hi1 : i + 1 ≤ n := by omega
    have h1 : (i + 1) * d ≤ 8 * b.length := by
      have h2 := Nat.mul_le_mul_right d hi1
      have := Nat.div_mul_le_self (8 * b.length) d
      rw [hn] at h2
      omega
    have h3 : i < 1000000000 := by
      have := Nat.le_mul_of_pos_right (i + 1) (show 0 < d by omega)
      omega
    have hw : wrap64 (wrap64 ((i : Int) + 1) * (d : Int)) = (((i + 1) * d : Nat) : Int) := by
      rw [w64 (n := (i : Int) + 1) (by omega) (by omega), show ((i : Int) + 1) * (d : Int) = (((i + 1) * d : Nat) : Int) by push_cast; rfl]
      generalize (i + 1) * d = q at *
      exact w64 (by omega) (by omega)
    have hw2 : wrap64 (8 * (b.length : Int)) = ((8 * b.length : Nat) : Int) := by rw [w64 (by omega) (by omega)]; omega
    obtain ⟨k', rfl⟩ : ∃ k', k = k' + 1 + d := ⟨k - 1 - d, by omega⟩
    have hl1 := runpack_l1 d hd b hb hl i h1 (unp d i (val 8 b)) (by rw [unp_len]; omega) d 0 k' (by omega)
    rw [Nat.pow_zero, Nat.mod_one, Int.natCast_zero, ← unp_snoc, w64 (n := (i : Int) + 1) (by omega) (by omega), show (i : Int) + 1 = ((i + 1 : Nat) : Int) by omega] at hl1
    rw [chatelaineref5_Unpack.l0, hw, hw2, if_pos (Int.ofNat_le.mpr h1), hl1]
    exact runpack_l0 d hd1 hd b hb hl n hn m (i + 1) k' (by omega) (by omega)
theorem runpack_ok (k d : Nat) (hd1 : 1 ≤ d) (hd : d ≤ 24) (b : List Int) (hb : fit 8 b) (hl : b.length < 1000000) (hk : 30 * (8 * b.length / d) + 2 ≤ k) :
    chatelaineref5_Unpack.f k (d : Int) b = some (unp d (8 * b.length / d) (val 8 b)) := by
  obtain ⟨k, rfl⟩ : ∃ k', k = k' + 1 := ⟨k - 1, by omega⟩
  rw [chatelaineref5_Unpack.f, if_neg (by omega), decide_eq_false (by omega), chatelaineref5_Unpack.j0, if_neg (by simp)]
  have := runpack_l0 d hd1 hd b hb hl _ rfl (8 * b.length / d) 0 k (by omega) (by omega)
  rw [unp, Int.natCast_zero] at this
  exact this
end Go.Proofs.YtaegmnimkemjgaaDoor.PackN
namespace Go.Proofs.YtaegmnimkemjgaaDoor.PackN
open Go.RowKit Go.Proofs.YtaegmnimkemjgaaDoor.PLN Go.Proofs.YtaegmnimkemjgaaDoorW.PrintWords Go.Proofs.YtaegmnimkemjgaaDoorW.PrintLast Go.Proofs.YtaegmnimkemjgaaDoorW.PrintMore

/-! ### How many bits a number has -/
def lenTab : ByteArray := ⟨#[0, 1, 2, 2, 3, 3, 3, 3, 4, 4, 4, 4, 4, 4, 4, 4, 5, 5, 5, 5, 5, 5, 5, 5, 5, 5, 5, 5, 5, 5, 5, 5, 6, 6, 6, 6, 6, 6, 6, 6, 6, 6, 6, 6, 6, 6, 6, 6, 6, 6, 6, 6, 6, 6, 6, 6, 6, 6, 6, 6, 6, 6, 6, 6, 7, 7, 7, 7, 7, 7, 7, 7, 7, 7, 7, 7, 7, 7, 7, 7, 7, 7, 7, 7, 7, 7, 7, 7, 7, 7, 7, 7, 7, 7, 7, 7, 7, 7, 7, 7, 7, 7, 7, 7, 7, 7, 7, 7, 7, 7, 7, 7, 7, 7, 7, 7, 7, 7, 7, 7, 7, 7, 7, 7, 7, 7, 7, 7, 8, 8, 8, 8, 8, 8, 8, 8, 8, 8, 8, 8, 8, 8, 8, 8, 8, 8, 8, 8, 8, 8, 8, 8, 8, 8, 8, 8, 8, 8, 8, 8, 8, 8, 8, 8, 8, 8, 8, 8, 8, 8, 8, 8, 8, 8, 8, 8, 8, 8, 8, 8, 8, 8, 8, 8, 8, 8, 8, 8, 8, 8, 8, 8, 8, 8, 8, 8, 8, 8, 8, 8, 8, 8, 8, 8, 8, 8, 8, 8, 8, 8, 8, 8, 8, 8, 8, 8, 8, 8, 8, 8, 8, 8, 8, 8, 8, 8, 8, 8, 8, 8, 8, 8, 8, 8, 8, 8, 8, 8, 8, 8, 8, 8, 8, 8, 8, 8, 8, 8, 8, 8, 8, 8, 8, 8, 8, 8]⟩
theorem tab_ok : ∀ y : Fin 256, 0 < y.val → ∃ t : Fin 9, bt lenTab (y.val : Int) = (t.val : Int) ∧ 1 ≤ t.val ∧ y.val < 2 ^ t.val ∧ 2 ^ (t.val - 1) ≤ y.val := by decide +kernel
theorem tab_is (y : Nat) (h : y < 256) (h0 : 0 < y) : ∃ t : Nat, bt lenTab (y : Int) = (t : Int) ∧ 1 ≤ t ∧ t ≤ 8 ∧ y < 2 ^ t ∧ 2 ^ (t - 1) ≤ y := by
  obtain ⟨t, h1, h2, h3, h4⟩ := tab_ok ⟨y, h⟩ h0
  exact ⟨t.val, h1, h2, by have := t.isLt; omega, h3, h4⟩
theorem len_j0 (n : Nat) (h0 : 0 < n) (h1 : n < 16777216) : ∃ d : Nat, 1 ≤ d ∧ d ≤ 24 ∧ n < 2 ^ d ∧ 2 ^ (d - 1) ≤ n ∧ ∀ k, bits_Len64.j0 (k + 1) (n : Int) 0 = some (d : Int) := by
  by_cases c : 65536 ≤ n
  · obtain ⟨t, e, t1, t2, t3, t4⟩ := tab_is (n / 65536) (by omega) (by omega)
    refine ⟨16 + t, by omega, by omega, ?_, ?_, fun k => ?_⟩
    · rw [Nat.pow_add]
      omega
    · rw [show 16 + t - 1 = 16 + (t - 1) by omega, Nat.pow_add]
      omega
    · rw [bits_Len64.j0, if_pos (by omega), if_neg (by omega), if_pos (by omega), if_pos (by omega), show ((n : Int) / 65536) % 256 = ((n / 65536 : Nat) : Int) by omega]
      have e' : bt ⟨#[0, 1, 2, 2, 3, 3, 3, 3, 4, 4, 4, 4, 4, 4, 4, 4, 5, 5, 5, 5, 5, 5, 5, 5, 5, 5, 5, 5, 5, 5, 5, 5, 6, 6, 6, 6, 6, 6, 6, 6, 6, 6, 6, 6, 6, 6, 6, 6, 6, 6, 6, 6, 6, 6, 6, 6, 6, 6, 6, 6, 6, 6, 6, 6, 7, 7, 7, 7, 7, 7, 7, 7, 7, 7, 7, 7, 7, 7, 7, 7, 7, 7, 7, 7, 7, 7, 7, 7, 7, 7, 7, 7, 7, 7, 7, 7, 7, 7, 7, 7, 7, 7, 7, 7, 7, 7, 7, 7, 7, 7, 7, 7, 7, 7, 7, 7, 7, 7, 7, 7, 7, 7, 7, 7, 7, 7, 7, 7, 8, 8, 8, 8, 8, 8, 8, 8, 8, 8, 8, 8, 8, 8, 8, 8, 8, 8, 8, 8, 8, 8, 8, 8, 8, 8, 8, 8, 8, 8, 8, 8, 8, 8, 8, 8, 8, 8, 8, 8, 8, 8, 8, 8, 8, 8, 8, 8, 8, 8, 8, 8, 8, 8, 8, 8, 8, 8, 8, 8, 8, 8, 8, 8, 8, 8, 8, 8, 8, 8, 8, 8, 8, 8, 8, 8, 8, 8, 8, 8, 8, 8, 8, 8, 8, 8, 8, 8, 8, 8, 8, 8, 8, 8, 8, 8, 8, 8, 8, 8, 8, 8, 8, 8, 8, 8, 8, 8, 8, 8, 8, 8, 8, 8, 8, 8, 8, 8, 8, 8, 8, 8, 8, 8, 8, 8, 8, 8]⟩ ((n / 65536 : Nat) : Int) = (t : Int) := e
      rw [e', w64 (n := (t : Int)) (by omega) (by omega), w64 (n := (0 : Int) + 16) (by omega) (by omega), w64 (by omega) (by omega)]
      congr 1
  · by_cases c2 : 256 ≤ n
    · obtain ⟨t, e, t1, t2, t3, t4⟩ := tab_is (n / 256) (by omega) (by omega)
      refine ⟨8 + t, by omega, by omega, ?_, ?_, fun k => ?_⟩
      · rw [Nat.pow_add]
        omega
      · rw [show 8 + t - 1 = 8 + (t - 1) by omega, Nat.pow_add]
        omega
      · rw [bits_Len64.j0, if_neg (by omega), if_pos (by omega), if_pos (by omega), if_pos (by omega), show ((n : Int) / 256) % 256 = ((n / 256 : Nat) : Int) by omega]
        have e' : bt ⟨#[0, 1, 2, 2, 3, 3, 3, 3, 4, 4, 4, 4, 4, 4, 4, 4, 5, 5, 5, 5, 5, 5, 5, 5, 5, 5, 5, 5, 5, 5, 5, 5, 6, 6, 6, 6, 6, 6, 6, 6, 6, 6, 6, 6, 6, 6, 6, 6, 6, 6, 6, 6, 6, 6, 6, 6, 6, 6, 6, 6, 6, 6, 6, 6, 7, 7, 7, 7, 7, 7, 7, 7, 7, 7, 7, 7, 7, 7, 7, 7, 7, 7, 7, 7, 7, 7, 7, 7, 7, 7, 7, 7, 7, 7, 7, 7, 7, 7, 7, 7, 7, 7, 7, 7, 7, 7, 7, 7, 7, 7, 7, 7, 7, 7, 7, 7, 7, 7, 7, 7, 7, 7, 7, 7, 7, 7, 7, 7, 8, 8, 8, 8, 8, 8, 8, 8, 8, 8, 8, 8, 8, 8, 8, 8, 8, 8, 8, 8, 8, 8, 8, 8, 8, 8, 8, 8, 8, 8, 8, 8, 8, 8, 8, 8, 8, 8, 8, 8, 8, 8, 8, 8, 8, 8, 8, 8, 8, 8, 8, 8, 8, 8, 8, 8, 8, 8, 8, 8, 8, 8, 8, 8, 8, 8, 8, 8, 8, 8, 8, 8, 8, 8, 8, 8, 8, 8, 8, 8, 8, 8, 8, 8, 8, 8, 8, 8, 8, 8, 8, 8, 8, 8, 8, 8, 8, 8, 8, 8, 8, 8, 8, 8, 8, 8, 8, 8, 8, 8, 8, 8, 8, 8, 8, 8, 8, 8, 8, 8, 8, 8, 8, 8, 8, 8, 8, 8]⟩ ((n / 256 : Nat) : Int) = (t : Int) := e
        rw [e', w64 (n := (t : Int)) (by omega) (by omega), w64 (n := (0 : Int) + 8) (by omega) (by omega), w64 (by omega) (by omega)]
        congr 1
    · obtain ⟨t, e, t1, t2, t3, t4⟩ := tab_is n (by omega) (by omega)
      refine ⟨t, by omega, by omega, t3, t4, fun k => ?_⟩
      rw [bits_Len64.j0, if_neg (by omega), if_neg (by omega), if_pos (by omega), if_pos (by omega), show (n : Int) % 256 = (n : Int) by omega]
      have e' : bt ⟨#[0, 1, 2, 2, 3, 3, 3, 3, 4, 4, 4, 4, 4, 4, 4, 4, 5, 5, 5, 5, 5, 5, 5, 5, 5, 5, 5, 5, 5, 5, 5, 5, 6, 6, 6, 6, 6, 6, 6, 6, 6, 6, 6, 6, 6, 6, 6, 6, 6, 6, 6, 6, 6, 6, 6, 6, 6, 6, 6, 6, 6, 6, 6, 6, 7, 7, 7, 7, 7, 7, 7, 7, 7, 7, 7, 7, 7, 7, 7, 7, 7, 7, 7, 7, 7, 7, 7, 7, 7, 7, 7, 7, 7, 7, 7, 7, 7, 7, 7, 7, 7, 7, 7, 7, 7, 7, 7, 7, 7, 7, 7, 7, 7, 7, 7, 7, 7, 7, 7, 7, 7, 7, 7, 7, 7, 7, 7, 7, 8, 8, 8, 8, 8, 8, 8, 8, 8, 8, 8, 8, 8, 8, 8, 8, 8, 8, 8, 8, 8, 8, 8, 8, 8, 8, 8, 8, 8, 8, 8, 8, 8, 8, 8, 8, 8, 8, 8, 8, 8, 8, 8, 8, 8, 8, 8, 8, 8, 8, 8, 8, 8, 8, 8, 8, 8, 8, 8, 8, 8, 8, 8, 8, 8, 8, 8, 8, 8, 8, 8, 8, 8, 8, 8, 8, 8, 8, 8, 8, 8, 8, 8, 8, 8, 8, 8, 8, 8, 8, 8, 8, 8, 8, 8, 8, 8, 8, 8, 8, 8, 8, 8, 8, 8, 8, 8, 8, 8, 8, 8, 8, 8, 8, 8, 8, 8, 8, 8, 8, 8, 8, 8, 8, 8, 8, 8, 8]⟩ (n : Int) = (t : Int) := e
      rw [e', w64 (n := (t : Int)) (by omega) (by omega), w64 (by omega) (by omega), Int.zero_add]
theorem long_ok (a b : Nat) (h0 : 0 < a + b) (h1 : a + b < 16777216) : ∃ d : Nat, 1 ≤ d ∧ d ≤ 24 ∧ a + b < 2 ^ d ∧ 2 ^ (d - 1) ≤ a + b ∧ ∀ k, lay_long.f (k + 1) (a : Int) (b : Int) = some (d : Int) := by
  obtain ⟨d, d1, d2, d3, d4, hd⟩ := len_j0 (a + b) h0 h1
  refine ⟨d, d1, d2, d3, d4, fun k => ?_⟩
  have hw : ∀ x : Int, IntKind.u64.wrap x = x % 18446744073709551616 := fun x => by simp [IntKind.wrap, IntKind.bits, IntKind.signed]
  unfold lay_long.f bits_Len.f bits_Len64.f
  rw [w64 (by omega) (by omega), hw, show ((a : Int) + (b : Int)) % 18446744073709551616 = ((a + b : Nat) : Int) by omega, if_neg (by omega), hd k]
  rfl
/-! ### Numbers modulo 8380417 -/
theorem of_is (x : Int) (h0 : -4000000000 < x) (h1 : x < 4000000000) : round_Of.f x = some (x % 8380417) := by
  unfold round_Of.f
  by_cases c : 0 ≤ x
  · rw [Int.tmod_eq_emod_of_nonneg c, if_neg (by omega)]
  · obtain ⟨y, rfl⟩ : ∃ y, x = -y := ⟨-x, by omega⟩
    rw [Int.neg_tmod, Int.tmod_eq_emod_of_nonneg (by omega)]
    by_cases c2 : y % 8380417 = 0
    · rw [if_neg (by omega)]
      congr 1
      omega
    · rw [if_pos (by omega), w64 (by omega) (by omega)]
      congr 1
      omega
/-- Is a number none of a poly? -/
def odd (x : Int) : Bool := decide (x < 0) || decide (x ≥ 8380417)
def mayB (l : List Int) : Bool := decide (l.length = 256) && !l.any odd
theorem odd_is (x : Int) : wave_May_1.f x = some (odd x) := by
  unfold wave_May_1.f odd
  by_cases c : x < 0
  · rw [if_pos c, decide_eq_true c]; rfl
  · rw [if_neg c, decide_eq_false c]; rfl
theorem may_idx (l : List Int) (hl : l.length < 1000) : ∀ (m i k : Nat), i + m = l.length → m < k → ∃ r, slices_IndexFunc_int_int_at_wave_May_1.l0 k l (l.length : Int) (i : Int) = some r ∧ decide (r ≥ 0) = (l.drop i).any odd
  | 0, i, k + 1, hi, hk => ⟨-1, by rw [slices_IndexFunc_int_int_at_wave_May_1.l0, if_neg (by omega)], by rw [List.drop_of_length_le (by omega)]; rfl⟩
  | m + 1, i, k + 1, hi, hk => by
    have hil : i < l.length := by omega
    have e : l.drop i = l[i] :: l.drop (i + 1) := (List.getElem_cons_drop hil).symm
    rw [slices_IndexFunc_int_int_at_wave_May_1.l0, if_pos (by omega), if_pos (by omega), if_pos (by omega), rdI l i hil, odd_is, Option.bind_some, e, List.any_cons]
    by_cases c : odd l[i] = true
    · rw [if_pos c]
      exact ⟨_, rfl, by rw [c, Bool.true_or, decide_eq_true (by omega)]⟩
    · rw [if_neg c, w64 (by omega) (by omega), show (i : Int) + 1 = ((i + 1 : Nat) : Int) by omega, Bool.eq_false_iff.mpr c, Bool.false_or]
      exact may_idx l hl m (i + 1) k (by omega) (by omega)
theorem may_is (k : Nat) (l : List Int) (hl : l.length < 1000) (hk : 1000 < k) : wave_May.f k l = some (mayB l) := by
  unfold wave_May.f mayB
  by_cases c : l.length = 256
  · rw [if_pos (by omega), decide_eq_true c, Bool.true_and]
    unfold slices_ContainsFunc_int_int_at_wave_May_1.f slices_IndexFunc_int_int_at_wave_May_1.f
    obtain ⟨r, h1, h2⟩ := may_idx l hl l.length 0 k (by omega) (by omega)
    rw [Int.natCast_zero] at h1
    rw [List.drop_zero] at h2
    rw [h1, ← h2]
    rfl
  · rw [if_neg (by omega), decide_eq_false c, Bool.false_and]
theorem mayB_yes (l : List Int) (h : mayB l = true) : l.length = 256 ∧ ∀ x ∈ l, 0 ≤ x ∧ x < 8380417 := by
  unfold mayB at h
  rw [Bool.and_eq_true, decide_eq_true_eq, Bool.not_eq_true', List.any_eq_false] at h
  refine ⟨h.1, fun x hx => ?_⟩
  have := h.2 x hx
  simp only [odd, Bool.or_eq_true, decide_eq_true_eq] at this
  omega
theorem mayB_of (l : List Int) (hl : l.length = 256) (h : ∀ x ∈ l, 0 ≤ x ∧ x < 8380417) : mayB l = true := by
  unfold mayB
  rw [Bool.and_eq_true, decide_eq_true_eq, Bool.not_eq_true', List.any_eq_false]
  refine ⟨hl, fun x hx => ?_⟩
  have := h x hx
  simp only [odd, Bool.or_eq_true, decide_eq_true_eq]
  omega
theorem may_yes (k : Nat) (l : List Int) (hl : l.length = 256) (h : ∀ x ∈ l, 0 ≤ x ∧ x < 8380417) (hk : 1000 < k) : wave_May.f k l = some true := by rw [may_is k l (by omega) hk, mayB_of l hl h]
theorem bounds_yes (a b : Nat) (ha : a ≤ 1048576) (hb : b ≤ 1048576) (h : 0 < a + b) : lay_bounds.f (a : Int) (b : Int) = some true := by
  unfold lay_bounds.f
  rw [if_pos (by omega), if_pos (by omega), if_pos (by omega), if_pos (by omega), w64 (by omega) (by omega), decide_eq_true (by omega)]
/-- A number that is laid, as it is laid. -/
def turn (b : Nat) (x : Int) : Int := ((b : Int) - x) % 8380417
theorem near_l0 (a b d : Nat) (ha : a ≤ 1048576) (hb : b ≤ 1048576) (f : List Int) (hf : f.length = 256) (h : ∀ x ∈ f, 0 ≤ x ∧ x < 8380417) (hd1 : 1 ≤ d) (hd2 : d ≤ 24) (hd3 : a + b < 2 ^ d) (hlong : ∀ k, lay_long.f (k + 1) (a : Int) (b : Int) = some (d : Int)) :
    ∀ (m i k : Nat), i + m = 256 → (∀ j (hj : j < f.length), j < i → turn b f[j] ≤ (a : Int) + b) → 2000 + m < k →
    lay_Near.l0 k (a : Int) (b : Int) ((f.take i).map (turn b)) f 256 (i : Int) = some (if ∀ x ∈ f, turn b x ≤ (a : Int) + b then digs (32 * d) (val d (f.map (turn b))) else [])
  | 0, i, k + 1, hi, hp, hk => by
    obtain rfl : i = 256 := by omega
    have hall : ∀ x ∈ f, turn b x ≤ (a : Int) + b := fun x hx => by
      obtain ⟨j, hj, rfl⟩ := List.getElem_of_mem hx
      exact hp j hj (by omega)
    obtain ⟨k', rfl⟩ : ∃ k', k = k' + 1 := ⟨k - 1, by omega⟩
    have hfit : fit d (f.map (turn b)) := fun x hx => by
      obtain ⟨y, hy, rfl⟩ := List.mem_map.mp hx
      have h1 := hall y hy
      have h2 : 0 ≤ turn b y := Int.emod_nonneg _ (by decide)
      have h3 : ((a + b : Nat) : Int) < ((2 ^ d : Nat) : Int) := by exact_mod_cast hd3
      exact ⟨h2, by omega⟩
    have hpk := pack_ok (k' + 1) d hd1 hd2 (f.map (turn b)) hfit (by rw [List.length_map]; omega) (by rw [List.length_map]; omega)
    rw [lay_Near.l0, if_neg (by omega), hlong, Option.bind_some, List.take_of_length_le (by omega), hpk, if_pos hall, List.length_map, hf, show (d * 256 + 7) / 8 = 32 * d by omega]
    rfl
  | m + 1, i, k + 1, hi, hp, hk => by
    have hil : i < f.length := by omega
    have hx := h f[i] (List.getElem_mem hil)
    rw [lay_Near.l0, if_pos (by omega), if_pos (by omega), if_pos (by omega), rdI f i hil, w64 (by omega) (by omega), of_is _ (by omega) (by omega), Option.bind_some, ← turn, w64 (n := (a : Int) + b) (by omega) (by omega)]
    by_cases c : turn b f[i] > (a : Int) + b
    · rw [if_pos c, if_neg (fun hall => by have := hall f[i] (List.getElem_mem hil); omega)]
    · rw [if_neg c, if_pos (by rw [List.length_map, List.length_take]; omega), w64 (by omega) (by omega), show (i : Int) + 1 = ((i + 1 : Nat) : Int) by omega]
      have e : (f.take i).map (turn b) ++ [turn b f[i]] = (f.take (i + 1)).map (turn b) := by rw [List.take_succ_eq_append_getElem hil, List.map_append]; rfl
      rw [e, near_l0 a b d ha hb f hf h hd1 hd2 hd3 hlong m (i + 1) k (by omega) (fun j hj hji => by
        by_cases c2 : j < i
        · exact hp j hj c2
        · obtain rfl : j = i := by omega
          omega) (by omega)]
theorem near_is (k a b d : Nat) (ha : a ≤ 1048576) (hb : b ≤ 1048576) (f : List Int) (hf : f.length = 256) (h : ∀ x ∈ f, 0 ≤ x ∧ x < 8380417) (h0 : 0 < a + b) (hd1 : 1 ≤ d) (hd2 : d ≤ 24) (hd3 : a + b < 2 ^ d) (hlong : ∀ k, lay_long.f (k + 1) (a : Int) (b : Int) = some (d : Int)) (hk : 3000 < k) :
    lay_Near.f k (a : Int) (b : Int) f = some (if ∀ x ∈ f, turn b x ≤ (a : Int) + b then digs (32 * d) (val d (f.map (turn b))) else []) := by
  unfold lay_Near.f
  obtain ⟨k, rfl⟩ : ∃ k', k = k' + 1 := ⟨k - 1, by omega⟩
  refine bnd (bounds_yes a b ha hb h0) (ifp rfl (bnd (may_yes _ f hf h (by omega)) ?_))
  rw [Bool.not_true, lay_Near.j0, if_neg (by simp), hf]
  have := near_l0 a b d ha hb f hf h hd1 hd2 hd3 hlong 256 0 k (by omega) (fun _ _ hj => by omega) (by omega)
  simpa using this
/-! ### And back -/
theorem far_l0 (b : Nat) (hb : b ≤ 1048576) (xs : List Int) (hl : xs.length < 1000000) (hx : ∀ x ∈ xs, 0 ≤ x ∧ x < 16777216) : ∀ (m i k : Nat), i + m = xs.length → m < k →
    lay_Far.l0 k (b : Int) ((xs.take i).map (turn b) ++ xs.drop i) (xs.length : Int) (i : Int) = some (xs.map (turn b))
  | 0, i, k + 1, hi, hk => by
    rw [lay_Far.l0, if_neg (by omega), List.take_of_length_le (by omega), List.drop_of_length_le (by omega), List.append_nil]
  | m + 1, i, k + 1, hi, hk => by
    have hil : i < xs.length := by omega
    have hx1 := hx xs[i] (List.getElem_mem hil)
    have hlen : ((xs.take i).map (turn b)).length = i := by rw [List.length_map, List.length_take]; omega
    have e : xs.drop i = xs[i] :: xs.drop (i + 1) := (List.getElem_cons_drop hil).symm
    have hrd : rd ((xs.take i).map (turn b) ++ xs.drop i) (i : Int) = xs[i] := by
      unfold rd
      rw [Int.toNat_natCast, List.getD_eq_getElem?_getD, List.getElem?_append_right (by omega), hlen, Nat.sub_self, e]
      rfl
    rw [lay_Far.l0, if_pos (by omega), if_pos (by omega), if_pos (by rw [List.length_append, hlen, List.length_drop]; omega), hrd, w64 (by omega) (by omega), of_is _ (by omega) (by omega), Option.bind_some, ← turn, w64 (by omega) (by omega), show (i : Int) + 1 = ((i + 1 : Nat) : Int) by omega]
    have hset : ((xs.take i).map (turn b) ++ xs.drop i).set (i : Int).toNat (turn b xs[i]) = (xs.take (i + 1)).map (turn b) ++ xs.drop (i + 1) := by
      rw [Int.toNat_natCast, List.set_append_right _ _ (by omega), hlen, Nat.sub_self, e, List.set_cons_zero, List.take_succ_eq_append_getElem hil, List.map_append, List.append_assoc]
      rfl
    rw [hset, far_l0 b hb xs hl hx m (i + 1) k (by omega) (by omega)]
theorem far_is (k a b d : Nat) (ha : a ≤ 1048576) (hb : b ≤ 1048576) (bs : List Int) (hbs : fit 8 bs) (hl : bs.length = 32 * d) (h0 : 0 < a + b) (hd1 : 1 ≤ d) (hd2 : d ≤ 24) (hlong : ∀ k, lay_long.f (k + 1) (a : Int) (b : Int) = some (d : Int)) (hk : 40000 < k) :
    lay_Far.f k (a : Int) (b : Int) bs = some ((unp d 256 (val 8 bs)).map (turn b)) := by
  unfold lay_Far.f
  obtain ⟨k, rfl⟩ : ∃ k', k = k' + 2 := ⟨k - 2, by omega⟩
  refine bnd (bounds_yes a b ha hb h0) (ifp rfl (bnd (hlong _) ?_))
  have hne : (((bs.length : Int)) != wrap64 (32 * (d : Int))) = false := by rw [w64 (by omega) (by omega), bne_eq_false_iff_eq]; omega
  rw [hne, lay_Far.j0, if_neg (by simp)]
  have hu := unpack_ok (k + 1) d hd1 hd2 bs hbs (by omega) (by omega)
  have hdiv : 8 * bs.length / d = 256 := by rw [hl, show 8 * (32 * d) = d * 256 by omega]; exact Nat.mul_div_cancel_left _ hd1
  rw [hdiv] at hu
  refine bnd (hlong _) (bnd hu ?_)
  have hlen := unp_len d 256 (val 8 bs)
  have hfit := unp_fit d 256 (val 8 bs)
  have hd24 : (2 : Nat) ^ d ≤ 16777216 := Nat.le_trans (Nat.pow_le_pow_right (by decide) hd2) (by decide)
  have := far_l0 b hb (unp d 256 (val 8 bs)) (by omega) (fun x hx => by
    have h1 := hfit x hx
    generalize (2 : Nat) ^ d = P at h1 hd24
    exact ⟨h1.1, by omega⟩) 256 0 (k + 1) (by omega) (by omega)
  rw [List.take_zero, List.map_nil, List.nil_append, List.drop_zero, Int.natCast_zero] at this
  exact this
end Go.Proofs.YtaegmnimkemjgaaDoor.PackN
namespace Go.Proofs.YtaegmnimkemjgaaDoor.Pure
open Go.RowKit Go.Proofs.YtaegmnimkemjgaaDoor.PLN Go.Proofs.YtaegmnimkemjgaaDoor.PackN Go.Proofs.YtaegmnimkemjgaaDoorW.PrintWords Go.Proofs.YtaegmnimkemjgaaDoorW.PrintLast Go.Proofs.YtaegmnimkemjgaaDoorW.PrintMore

theorem awake_yes9 : chatelainelaw11_awake.f 99999 = some true := by decide +kernel
theorem awake_yes8 : chatelainelaw11_awake.f 99998 = some true := by decide +kernel
theorem sz1 : lay_Sizes.f 99999 1 = some (1312, 2560, 2420) ∧ chatelaineref11_Sizes.f 1 = some (1312, 2560, 2420) := by decide +kernel
theorem sz2 : lay_Sizes.f 99999 2 = some (1952, 4032, 3309) ∧ chatelaineref11_Sizes.f 2 = some (1952, 4032, 3309) := by decide +kernel
theorem sz3 : lay_Sizes.f 99999 3 = some (2592, 4896, 4627) ∧ chatelaineref11_Sizes.f 3 = some (2592, 4896, 4627) := by decide +kernel
theorem wf_u8 {x : Int} (h : (Lit.int .u8 x).wf = true) : 0 ≤ x ∧ x < 256 := by
  simp [Lit.wf, IntKind.min, IntKind.max, IntKind.signed, IntKind.bits] at h
  omega
theorem wf_i64 {a : Int} (h : (Lit.int .i64 a).wf = true) : -9223372036854775808 ≤ a ∧ a ≤ 9223372036854775807 := by
  simp [Lit.wf, IntKind.min, IntKind.max, IntKind.signed, IntKind.bits] at h
  omega
theorem width_l0 : ∀ (d n c k : Nat), n < 2 ^ d → (d = 0 ∨ 2 ^ (d - 1) ≤ n) → n < 4294967296 → c + d < 1000 → d < 100 → d < k → chatelaineref11_width.l0 k (c : Int) (n : Int) = some ((c + d : Nat) : Int)
  | 0, n, c, k + 1, h, _, _, _, _, _ => by
    obtain rfl : n = 0 := by simp at h; omega
    rw [chatelaineref11_width.l0, if_neg (by omega)]
    rfl
  | d + 1, n, c, k + 1, h, h2, hn, hc, hd, hk => by
    have h3 : 2 ^ d ≤ n := by
      rcases h2 with h2 | h2
      · omega
      · simpa using h2
    have h0 : 0 < n := Nat.lt_of_lt_of_le (Nat.two_pow_pos d) h3
    have h4 : n / 2 < 2 ^ d := by rw [Nat.pow_succ] at h; omega
    have h5 : d = 0 ∨ 2 ^ (d - 1) ≤ n / 2 := by
      by_cases c0 : d = 0
      · exact .inl c0
      · right
        rw [Nat.le_div_iff_mul_le (by decide), ← Nat.pow_succ, show (d - 1).succ = d by omega]
        exact h3
    have hw : wrap64 (Int.tdiv (n : Int) 2) = ((n / 2 : Nat) : Int) := by
      rw [Int.tdiv_eq_ediv_of_nonneg (by omega), w64 (by omega) (by omega)]
      omega
    have hw2 : wrap64 ((c : Int) + 1) = ((c + 1 : Nat) : Int) := by rw [w64 (by omega) (by omega)]; rfl
    rw [chatelaineref11_width.l0, if_pos (by omega), hw, hw2, width_l0 d (n / 2) (c + 1) k h4 h5 (by omega) (by omega) (by omega) (by omega), show c + 1 + d = c + (d + 1) by omega]
theorem rof_is (x : Int) (h0 : -4000000000 < x) (h1 : x < 4000000000) : chatelaineref9_Of.f x = some (x % 8380417) := by
  unfold chatelaineref9_Of.f
  congr 1
  by_cases c : 0 ≤ x
  · rw [Int.tmod_eq_emod_of_nonneg c, w64 (by omega) (by omega), Int.tmod_eq_emod_of_nonneg (by omega)]
    omega
  · obtain ⟨y, rfl⟩ : ∃ y, x = -y := ⟨-x, by omega⟩
    rw [Int.neg_tmod, Int.tmod_eq_emod_of_nonneg (a := y) (by omega), w64 (by omega) (by omega), Int.tmod_eq_emod_of_nonneg (by omega)]
    omega
theorem rmay_l0 (l : List Int) (hl : l.length = 256) : ∀ (m i k : Nat), i + m = 256 → 2 * m + 2 ≤ k → chatelaineref10_May.l0 k l (i : Int) = some (!(l.drop i).any odd)
  | 0, i, k, hi, hk => by
    obtain ⟨k, rfl⟩ : ∃ k', k = k' + 2 := ⟨k - 2, by omega⟩
    rw [chatelaineref10_May.l0, if_neg (by omega), chatelaineref10_May.j1, if_neg (by simp), List.drop_of_length_le (by omega), hl]
    rfl
  | m + 1, i, k, hi, hk => by
    obtain ⟨k, rfl⟩ : ∃ k', k = k' + 2 := ⟨k - 2, by omega⟩
    have hil : i < l.length := by omega
    have e : l.drop i = l[i] :: l.drop (i + 1) := (List.getElem_cons_drop hil).symm
    rw [chatelaineref10_May.l0, if_pos (by omega), show ((l.length : Int) == 256) = true by rw [hl]; rfl, chatelaineref10_May.j1, if_pos rfl, if_pos (by omega), if_pos (by omega), rdI l i hil, e, List.any_cons]
    by_cases c : l[i] < 0
    · rw [if_pos c, odd, decide_eq_true c]; rfl
    · rw [if_neg c]
      by_cases c2 : l[i] ≥ 8380417
      · rw [if_pos c2, odd, decide_eq_true c2, Bool.or_true]; rfl
      · rw [if_neg c2, odd, decide_eq_false c, decide_eq_false c2, w64 (by omega) (by omega), show (i : Int) + 1 = ((i + 1 : Nat) : Int) by omega, rmay_l0 l hl m (i + 1) k (by omega) (by omega)]
        rfl
theorem rmay_is (k : Nat) (l : List Int) (hk : 1000 < k) (_hl : l.length < 1000) : chatelaineref10_May.f k l = some (mayB l) := by
  unfold chatelaineref10_May.f mayB
  by_cases c : l.length = 256
  · have := rmay_l0 l c 256 0 k (by omega) (by omega)
    rw [Int.natCast_zero] at this
    rw [this, List.drop_zero, decide_eq_true c]
    rfl
  · obtain ⟨k, rfl⟩ : ∃ k', k = k' + 2 := ⟨k - 2, by omega⟩
    have e1 : ((l.length : Int) == 256) = false := by rw [beq_eq_false_iff_ne]; omega
    rw [decide_eq_false c, Bool.false_and, chatelaineref10_May.l0, e1]
    by_cases c2 : (0 : Int) < (l.length : Int)
    · rw [if_pos c2, chatelaineref10_May.j1, if_neg (by decide), e1]
    · rw [if_neg c2, chatelaineref10_May.j1, if_neg (by decide), e1]
/-! ### A poly's bytes -/
theorem rnear_l0 (a b d : Nat) (ha : a ≤ 1048576) (hb : b ≤ 1048576) (f : List Int) (hf : f.length = 256) (h : ∀ x ∈ f, 0 ≤ x ∧ x < 8380417) (hd1 : 1 ≤ d) (hd2 : d ≤ 24) (hd3 : a + b < 2 ^ d) :
    ∀ (m i k : Nat), i + m = 256 → (∀ j (hj : j < f.length), j < i → turn b f[j] ≤ (a : Int) + b) → 9000 + m < k →
    chatelaineref11_Near.l0 k (a : Int) (b : Int) f (d : Int) ((f.take i).map (turn b)) (i : Int) = some (if ∀ x ∈ f, turn b x ≤ (a : Int) + b then digs (32 * d) (val d (f.map (turn b))) else [])
  | 0, i, k + 1, hi, hp, hk => by
    obtain rfl : i = 256 := by omega
    have hall : ∀ x ∈ f, turn b x ≤ (a : Int) + b := fun x hx => by
      obtain ⟨j, hj, rfl⟩ := List.getElem_of_mem hx
      exact hp j hj (by omega)
    have hfit : fit d (f.map (turn b)) := fun x hx => by
      obtain ⟨y, hy, rfl⟩ := List.mem_map.mp hx
      have h1 := hall y hy
      have h2 : 0 ≤ turn b y := Int.emod_nonneg _ (by decide)
      generalize (2 : Nat) ^ d = P at hd3
      exact ⟨h2, by omega⟩
    have hpk := rpack_ok k d hd1 hd2 (f.map (turn b)) hfit (by rw [List.length_map]; omega) (by rw [List.length_map]; omega)
    rw [chatelaineref11_Near.l0, if_neg (by omega), List.take_of_length_le (by omega), hpk, if_pos hall, List.length_map, hf, show (d * 256 + 7) / 8 = 32 * d by omega]
    rfl
  | m + 1, i, k + 1, hi, hp, hk => by
    have hil : i < f.length := by omega
    have hx := h f[i] (List.getElem_mem hil)
    have ht : turn b f[i] = if f[i] > (b : Int) then (b : Int) - (f[i] - 8380417) else (b : Int) - f[i] := by
      unfold turn
      split
      · omega
      · omega
    have hstep : ¬ turn b f[i] > (a : Int) + b → (chatelaineref11_Near.l0 k (a : Int) (b : Int) f (d : Int) ((f.take i).map (turn b) ++ [turn b f[i]]) (wrap64 ((i : Int) + 1)) = some (if ∀ x ∈ f, turn b x ≤ (a : Int) + b then digs (32 * d) (val d (f.map (turn b))) else [])) := fun c => by
      have e : (f.take i).map (turn b) ++ [turn b f[i]] = (f.take (i + 1)).map (turn b) := by rw [List.take_succ_eq_append_getElem hil, List.map_append]; rfl
      rw [e, w64 (by omega) (by omega), show (i : Int) + 1 = ((i + 1 : Nat) : Int) by omega, rnear_l0 a b d ha hb f hf h hd1 hd2 hd3 m (i + 1) k (by omega) (fun j hj hji => by
        by_cases c2 : j < i
        · exact hp j hj c2
        · obtain rfl : j = i := by omega
          omega) (by omega)]
    have hno : turn b f[i] > (a : Int) + b → (some ([] : List Int)) = some (if ∀ x ∈ f, turn b x ≤ (a : Int) + b then digs (32 * d) (val d (f.map (turn b))) else []) := fun c => by
      rw [if_neg (fun hall => by have := hall f[i] (List.getElem_mem hil); omega)]
    have hlen : ((f.take i).map (turn b)).length < 17592186044416 := by rw [List.length_map, List.length_take]; omega
    rw [chatelaineref11_Near.l0, if_pos (by omega), if_pos (by omega), if_pos (by omega), rdI f i hil, w64 (n := -(a : Int)) (by omega) (by omega)]
    by_cases c : f[i] > (b : Int)
    · rw [if_pos c] at ht
      rw [if_pos c, w64 (n := f[i] - 8380417) (by omega) (by omega)]
      by_cases c2 : f[i] - 8380417 < -(a : Int)
      · rw [if_pos c2]
        exact hno (by omega)
      · rw [if_neg c2, if_pos hlen, w64 (n := (b : Int) - (f[i] - 8380417)) (by omega) (by omega), ← ht]
        exact hstep (by omega)
    · rw [if_neg c] at ht
      rw [if_neg c, if_neg (by omega), if_pos hlen, w64 (n := (b : Int) - f[i]) (by omega) (by omega), ← ht]
      exact hstep (by omega)
theorem nears (k : Nat) (a b : Int) (ha : -9223372036854775808 ≤ a ∧ a ≤ 9223372036854775807) (hb : -9223372036854775808 ≤ b ∧ b ≤ 9223372036854775807) (f : List Int) (hf : f.length ≤ 300) (hk : 20000 < k) (hk2 : k < 1000000) : ∃ x : List Int, x.length < 1000 ∧ lay_Near.f k a b f = some x ∧ chatelaineref11_Near.f k a b f = some x := by
  obtain ⟨k, rfl⟩ : ∃ k', k = k' + 1 := ⟨k - 1, by omega⟩
  by_cases c : 0 ≤ a ∧ a ≤ 1048576 ∧ 0 ≤ b ∧ b ≤ 1048576 ∧ 0 < a + b
  · obtain ⟨a0, a1, b0, b1, ab⟩ := c
    obtain ⟨a, rfl⟩ := Int.eq_ofNat_of_zero_le a0
    obtain ⟨b, rfl⟩ := Int.eq_ofNat_of_zero_le b0
    obtain ⟨d, d1, d2, d3, d4, hlong⟩ := long_ok a b (by omega) (by omega)
    have hw : chatelaineref11_width.f (k + 1) (a : Int) (b : Int) = some (d : Int) := by
      unfold chatelaineref11_width.f
      rw [if_neg (by omega), if_neg (by omega), if_neg (by omega), decide_eq_false (by omega), chatelaineref11_width.j0, if_neg (by simp), w64 (by omega) (by omega)]
      have := width_l0 d (a + b) 0 k d3 (.inr d4) (by omega) (by omega) (by omega) (by omega)
      rw [Nat.zero_add, Int.natCast_zero] at this
      exact this
    by_cases cm : mayB f = true
    · obtain ⟨m1, m2⟩ := mayB_yes f cm
      refine ⟨_, ?_, near_is (k + 1) a b d (by omega) (by omega) f m1 m2 (by omega) d1 d2 d3 hlong (by omega), ?_⟩
      · split
        · rw [digs_len]; omega
        · simp
      · unfold chatelaineref11_Near.f
        refine bnd hw (ifn (by omega) (bnd (rmay_is _ f (by omega) (by omega)) ?_))
        rw [cm, Bool.not_true, chatelaineref11_Near.j0, if_neg (by simp)]
        have := rnear_l0 a b d (by omega) (by omega) f m1 m2 d1 d2 d3 256 0 k (by omega) (fun _ _ hj => by omega) (by omega)
        rw [List.take_zero, List.map_nil, Int.natCast_zero] at this
        exact this
    · have cm' := Bool.eq_false_iff.mpr cm
      refine ⟨[], by simp, ?_, ?_⟩
      · unfold lay_Near.f
        refine bnd (bounds_yes a b (by omega) (by omega) (by omega)) (ifp rfl (bnd (may_is _ f (by omega) (by omega)) ?_))
        rw [cm', Bool.not_false, lay_Near.j0, if_pos rfl]
      · unfold chatelaineref11_Near.f
        refine bnd hw (ifn (by omega) (bnd (rmay_is _ f (by omega) (by omega)) ?_))
        rw [cm', Bool.not_false, chatelaineref11_Near.j0, if_pos rfl]
  · have hbo : lay_bounds.f a b = some false := by
      unfold lay_bounds.f
      by_cases c1 : a ≥ 0
      · rw [if_pos c1]
        by_cases c2 : b ≥ 0
        · rw [if_pos c2]
          by_cases c3 : a ≤ 1048576
          · rw [if_pos c3]
            by_cases c4 : b ≤ 1048576
            · rw [if_pos c4, w64 (by omega) (by omega), decide_eq_false (by omega)]
            · rw [if_neg c4]
          · rw [if_neg c3]
        · rw [if_neg c2]
      · rw [if_neg c1]
    have hj : ∀ x y, chatelaineref11_width.j0 (k + 1) x y true = some 0 := fun x y => by rw [chatelaineref11_width.j0, if_pos rfl]
    have hw : chatelaineref11_width.f (k + 1) a b = some 0 := by
      unfold chatelaineref11_width.f
      by_cases c1 : a < 0
      · rw [if_pos c1, hj]
      rw [if_neg c1]
      by_cases c2 : b < 0
      · rw [if_pos c2, hj]
      rw [if_neg c2]
      by_cases c3 : a > 1048576
      · rw [if_pos c3, hj]
      rw [if_neg c3]
      by_cases c4 : b > 1048576
      · rw [decide_eq_true c4, hj]
      rw [decide_eq_false c4, chatelaineref11_width.j0, if_neg (by simp), w64 (by omega) (by omega)]
      obtain ⟨k, rfl⟩ : ∃ k', k = k' + 1 := ⟨k - 1, by omega⟩
      rw [chatelaineref11_width.l0, if_neg (by omega)]
    refine ⟨[], by simp, ?_, ?_⟩
    · unfold lay_Near.f
      refine bnd hbo (ifn (by simp) ?_)
      rw [lay_Near.j0, if_pos rfl]
    · unfold chatelaineref11_Near.f
      refine bnd hw (ifp rfl ?_)
      rw [chatelaineref11_Near.j0, if_pos rfl]
/-! ### Bytes' poly -/
theorem rfar_l0 (b : Nat) (hb : b ≤ 1048576) (xs : List Int) (hl : xs.length < 1000000) (hx : ∀ x ∈ xs, 0 ≤ x ∧ x < 16777216) : ∀ (m i k : Nat), i + m = xs.length → m < k →
    chatelaineref11_Far.l0 k (b : Int) ((xs.take i).map (turn b) ++ xs.drop i) (i : Int) = some (xs.map (turn b))
  | 0, i, k + 1, hi, hk => by
    rw [chatelaineref11_Far.l0, if_neg (by rw [List.length_append, List.length_map, List.length_take, List.length_drop]; omega), List.take_of_length_le (by omega), List.drop_of_length_le (by omega), List.append_nil]
  | m + 1, i, k + 1, hi, hk => by
    have hil : i < xs.length := by omega
    have hx1 := hx xs[i] (List.getElem_mem hil)
    have hlen : ((xs.take i).map (turn b)).length = i := by rw [List.length_map, List.length_take]; omega
    have e : xs.drop i = xs[i] :: xs.drop (i + 1) := (List.getElem_cons_drop hil).symm
    have hrd : rd ((xs.take i).map (turn b) ++ xs.drop i) (i : Int) = xs[i] := by
      unfold rd
      rw [Int.toNat_natCast, List.getD_eq_getElem?_getD, List.getElem?_append_right (by omega), hlen, Nat.sub_self, e]
      rfl
    rw [chatelaineref11_Far.l0, if_pos (by rw [List.length_append, hlen, List.length_drop]; omega), if_pos (by omega), hrd, w64 (by omega) (by omega), rof_is _ (by omega) (by omega), Option.bind_some, ← turn, w64 (by omega) (by omega), show (i : Int) + 1 = ((i + 1 : Nat) : Int) by omega]
    have hset : ((xs.take i).map (turn b) ++ xs.drop i).set (i : Int).toNat (turn b xs[i]) = (xs.take (i + 1)).map (turn b) ++ xs.drop (i + 1) := by
      rw [Int.toNat_natCast, List.set_append_right _ _ (by omega), hlen, Nat.sub_self, e, List.set_cons_zero, List.take_succ_eq_append_getElem hil, List.map_append, List.append_assoc]
      rfl
    rw [hset, rfar_l0 b hb xs hl hx m (i + 1) k (by omega) (by omega)]
theorem width_yes (k a b d : Nat) (ha : a ≤ 1048576) (hb : b ≤ 1048576) (d2 : d ≤ 24) (d3 : a + b < 2 ^ d) (d4 : 2 ^ (d - 1) ≤ a + b) (hk : 100 < k) : chatelaineref11_width.f (k + 1) (a : Int) (b : Int) = some (d : Int) := by
  unfold chatelaineref11_width.f
  rw [if_neg (by omega), if_neg (by omega), if_neg (by omega), decide_eq_false (by omega), chatelaineref11_width.j0, if_neg (by simp), w64 (by omega) (by omega)]
  have := width_l0 d (a + b) 0 k d3 (.inr d4) (by omega) (by omega) (by omega) (by omega)
  rw [Nat.zero_add, Int.natCast_zero] at this
  exact this
theorem bounds_no (a b : Int) (ha : -9223372036854775808 ≤ a ∧ a ≤ 9223372036854775807) (hb : -9223372036854775808 ≤ b ∧ b ≤ 9223372036854775807) (c : ¬(0 ≤ a ∧ a ≤ 1048576 ∧ 0 ≤ b ∧ b ≤ 1048576 ∧ 0 < a + b)) (k : Nat) : lay_bounds.f a b = some false ∧ chatelaineref11_width.f (k + 2) a b = some 0 := by
  constructor
  · unfold lay_bounds.f
    by_cases c1 : a ≥ 0
    · rw [if_pos c1]
      by_cases c2 : b ≥ 0
      · rw [if_pos c2]
        by_cases c3 : a ≤ 1048576
        · rw [if_pos c3]
          by_cases c4 : b ≤ 1048576
          · rw [if_pos c4, w64 (by omega) (by omega), decide_eq_false (by omega)]
          · rw [if_neg c4]
        · rw [if_neg c3]
      · rw [if_neg c2]
    · rw [if_neg c1]
  · have hj : ∀ x y, chatelaineref11_width.j0 (k + 2) x y true = some 0 := fun x y => by rw [chatelaineref11_width.j0, if_pos rfl]
    unfold chatelaineref11_width.f
    by_cases c1 : a < 0
    · rw [if_pos c1, hj]
    rw [if_neg c1]
    by_cases c2 : b < 0
    · rw [if_pos c2, hj]
    rw [if_neg c2]
    by_cases c3 : a > 1048576
    · rw [if_pos c3, hj]
    rw [if_neg c3]
    by_cases c4 : b > 1048576
    · rw [decide_eq_true c4, hj]
    rw [decide_eq_false c4, chatelaineref11_width.j0, if_neg (by simp), w64 (by omega) (by omega)]
    rw [chatelaineref11_width.l0, if_neg (by omega)]
theorem fars (k : Nat) (a b : Int) (ha : -9223372036854775808 ≤ a ∧ a ≤ 9223372036854775807) (hb : -9223372036854775808 ≤ b ∧ b ≤ 9223372036854775807) (bs : List Int) (hbs : fit 8 bs) (_hl : bs.length ≤ 1000) (hk : 50000 < k) (hk2 : k < 1000000) : ∃ x : List Int, x.length < 1000 ∧ lay_Far.f k a b bs = some x ∧ chatelaineref11_Far.f k a b bs = some x := by
  obtain ⟨k, rfl⟩ : ∃ k', k = k' + 2 := ⟨k - 2, by omega⟩
  by_cases c : 0 ≤ a ∧ a ≤ 1048576 ∧ 0 ≤ b ∧ b ≤ 1048576 ∧ 0 < a + b
  · obtain ⟨a0, a1, b0, b1, ab⟩ := c
    obtain ⟨a, rfl⟩ := Int.eq_ofNat_of_zero_le a0
    obtain ⟨b, rfl⟩ := Int.eq_ofNat_of_zero_le b0
    obtain ⟨d, d1, d2, d3, d4, hlong⟩ := long_ok a b (by omega) (by omega)
    have hw := width_yes (k + 1) a b d (by omega) (by omega) d2 d3 d4 (by omega)
    by_cases cl : bs.length = 32 * d
    · refine ⟨_, ?_, far_is (k + 2) a b d (by omega) (by omega) bs hbs cl (by omega) d1 d2 hlong (by omega), ?_⟩
      · rw [List.length_map, unp_len]; omega
      · unfold chatelaineref11_Far.f
        refine bnd hw (ifn (by omega) ?_)
        have hne : (((bs.length : Int)) != wrap64 (32 * (d : Int))) = false := by rw [w64 (by omega) (by omega), bne_eq_false_iff_eq]; omega
        have hdiv : 8 * bs.length / d = 256 := by rw [cl, show 8 * (32 * d) = d * 256 by omega]; exact Nat.mul_div_cancel_left _ d1
        have hu := runpack_ok (k + 1) d d1 d2 bs hbs (by omega) (by rw [hdiv]; omega)
        rw [hdiv] at hu
        rw [hne, chatelaineref11_Far.j0, if_neg (by simp)]
        refine bnd hu ?_
        have hlen := unp_len d 256 (val 8 bs)
        have hfit := unp_fit d 256 (val 8 bs)
        have hd24 : (2 : Nat) ^ d ≤ 16777216 := Nat.le_trans (Nat.pow_le_pow_right (by decide) d2) (by decide)
        have := rfar_l0 b (by omega) (unp d 256 (val 8 bs)) (by omega) (fun x hx => by
          have h1 := hfit x hx
          generalize (2 : Nat) ^ d = P at h1 hd24
          exact ⟨h1.1, by omega⟩) 256 0 (k + 1) (by omega) (by omega)
        rw [List.take_zero, List.map_nil, List.nil_append, List.drop_zero, Int.natCast_zero] at this
        exact this
    · have hne : (((bs.length : Int)) != wrap64 (32 * (d : Int))) = true := by rw [w64 (by omega) (by omega), bne_iff_ne]; omega
      refine ⟨[], by simp, ?_, ?_⟩
      · unfold lay_Far.f
        refine bnd (bounds_yes a b (by omega) (by omega) (by omega)) (ifp rfl (bnd (hlong _) ?_))
        rw [hne, lay_Far.j0, if_pos rfl]
      · unfold chatelaineref11_Far.f
        refine bnd hw (ifn (by omega) ?_)
        rw [hne, chatelaineref11_Far.j0, if_pos rfl]
  · obtain ⟨hbo, hw⟩ := bounds_no a b ha hb c k
    refine ⟨[], by simp, ?_, ?_⟩
    · unfold lay_Far.f
      refine bnd hbo (ifn (by simp) ?_)
      rw [lay_Far.j0, if_pos rfl]
    · unfold chatelaineref11_Far.f
      refine bnd hw (ifp rfl ?_)
      rw [chatelaineref11_Far.j0, if_pos rfl]
/-! ### The law -/
theorem same_l0 (a b : List Int) (hl : a.length = b.length) (hb : a.length < 140737488355328) : ∀ (m i k : Nat), i + m = a.length → m < k → chatelainelaw0_SameBytes.l0 k a b (i : Int) = some (decide (a.drop i = b.drop i))
  | 0, i, k + 1, hi, hk => by
    rw [chatelainelaw0_SameBytes.l0, if_neg (by omega), List.drop_of_length_le (by omega), List.drop_of_length_le (by omega)]
    simp
  | m + 1, i, k + 1, hi, hk => by
    have e1 : a.drop i = a[i] :: a.drop (i + 1) := (List.getElem_cons_drop (by omega)).symm
    have e2 : b.drop i = b[i] :: b.drop (i + 1) := (List.getElem_cons_drop (by omega)).symm
    rw [chatelainelaw0_SameBytes.l0, if_pos (by omega), if_pos (by omega), if_pos (by omega), rdI a i (by omega), rdI b i (by omega), e1, e2]
    by_cases h : a[i] = b[i]
    · rw [if_pos h, w64 (by omega) (by omega), show (i : Int) + 1 = ((i + 1 : Nat) : Int) by omega, same_l0 a b hl hb m (i + 1) k (by omega) (by omega)]
      simp only [List.cons.injEq, h, true_and]
    · rw [if_neg h]
      simp only [List.cons.injEq, h, false_and, decide_false]
theorem same_yes (k : Nat) (a : List Int) (hb : a.length < k) (hk : k < 140737488355328) : chatelainelaw0_SameBytes.f k a a = some true := by
  unfold chatelainelaw0_SameBytes.f
  rw [if_pos rfl]
  have := same_l0 a a rfl (by omega) a.length 0 k (by omega) (by omega)
  rw [List.drop_zero, Int.natCast_zero] at this
  rw [this]
  simp
theorem sameI_l0 (a b : List Int) (hl : a.length = b.length) (hb : a.length < 140737488355328) : ∀ (m i k : Nat), i + m = a.length → m < k → chatelainelaw0_SameInts.l0 k a b (i : Int) = some (decide (a.drop i = b.drop i))
  | 0, i, k + 1, hi, hk => by
    rw [chatelainelaw0_SameInts.l0, if_neg (by omega), List.drop_of_length_le (by omega), List.drop_of_length_le (by omega)]
    simp
  | m + 1, i, k + 1, hi, hk => by
    have e1 : a.drop i = a[i] :: a.drop (i + 1) := (List.getElem_cons_drop (by omega)).symm
    have e2 : b.drop i = b[i] :: b.drop (i + 1) := (List.getElem_cons_drop (by omega)).symm
    rw [chatelainelaw0_SameInts.l0, if_pos (by omega), if_pos (by omega), if_pos (by omega), rdI a i (by omega), rdI b i (by omega), e1, e2]
    by_cases h : a[i] = b[i]
    · rw [if_pos h, w64 (by omega) (by omega), show (i : Int) + 1 = ((i + 1 : Nat) : Int) by omega, sameI_l0 a b hl hb m (i + 1) k (by omega) (by omega)]
      simp only [List.cons.injEq, h, true_and]
    · rw [if_neg h]
      simp only [List.cons.injEq, h, false_and, decide_false]
theorem sameI_yes (k : Nat) (a : List Int) (hb : a.length < k) (hk : k < 140737488355328) : chatelainelaw0_SameInts.f k a a = some true := by
  unfold chatelainelaw0_SameInts.f
  rw [if_pos rfl]
  have := sameI_l0 a a rfl (by omega) a.length 0 k (by omega) (by omega)
  rw [List.drop_zero, Int.natCast_zero] at this
  rw [this]
  simp
theorem over_l0 : ∀ (m i k : Nat) (x : List Int), x.length < 140737488355328 → i + m = x.length → m < k → chatelainelaw0_OverBytes.l0 k x (i : Int) = some ()
  | 0, i, k + 1, x, hx, hi, hk => by rw [chatelainelaw0_OverBytes.l0, if_neg (by omega), if_pos (by omega)]
  | m + 1, i, k + 1, x, hx, hi, hk => by
    rw [chatelainelaw0_OverBytes.l0, if_pos (by omega), if_pos (by omega), w64 (by omega) (by omega), show (i : Int) + 1 = ((i + 1 : Nat) : Int) by omega,
      over_l0 m (i + 1) k _ (by rw [List.length_set]; omega) (by rw [List.length_set]; omega) (by omega)]
theorem overI_l0 : ∀ (m i k : Nat) (x : List Int), x.length < 17592186044416 → i + m = x.length → m < k → chatelainelaw0_OverInts.l0 k x (i : Int) = some ()
  | 0, i, k + 1, x, hx, hi, hk => by rw [chatelainelaw0_OverInts.l0, if_neg (by omega), if_pos (by omega)]
  | m + 1, i, k + 1, x, hx, hi, hk => by
    rw [chatelainelaw0_OverInts.l0, if_pos (by omega), if_pos (by omega), w64 (by omega) (by omega), show (i : Int) + 1 = ((i + 1 : Nat) : Int) by omega,
      overI_l0 m (i + 1) k _ (by rw [List.length_set]; omega) (by rw [List.length_set]; omega) (by omega)]
theorem sizes_no (k : Nat) (s : Int) (h1 : ¬ s = 1) (h2 : ¬ s = 2) (h3 : ¬ s = 3) : lay_Of.f s = some (0, 0, 0, 0, 0, 0, 0, 0, 0, false) ∧ lay_Sizes.f k s = some (0, 0, 0) ∧ chatelaineref11_Of.f s = some (0, 0, 0, 0, 0, 0, 0, 0, 0, false) ∧ chatelaineref11_Sizes.f s = some (0, 0, 0) := by
  have e1 : lay_Of.f s = some (0, 0, 0, 0, 0, 0, 0, 0, 0, false) := by unfold lay_Of.f; rw [if_neg h1, if_neg h2, if_neg h3]
  have e2 : chatelaineref11_Of.f s = some (0, 0, 0, 0, 0, 0, 0, 0, 0, false) := by unfold chatelaineref11_Of.f; rw [if_neg h1, if_neg h2, if_neg h3]
  refine ⟨e1, ?_, e2, ?_⟩
  · unfold lay_Sizes.f
    rw [e1]
    rfl
  · unfold chatelaineref11_Sizes.f
    rw [e2]
    rfl
theorem sizes_ok (s : Int) : ∃ p : Int × Int × Int × Int × Int × Int × Int × Int × Int × Bool, ∃ q : Int × Int × Int, lay_Of.f s = some p ∧ chatelaineref11_Of.f s = some p ∧ lay_Sizes.f 99999 s = some q ∧ chatelaineref11_Sizes.f s = some q := by
  by_cases h1 : s = 1
  · subst h1; exact ⟨_, _, rfl, rfl, sz1.1, sz1.2⟩
  by_cases h2 : s = 2
  · subst h2; exact ⟨_, _, rfl, rfl, sz2.1, sz2.2⟩
  by_cases h3 : s = 3
  · subst h3; exact ⟨_, _, rfl, rfl, sz3.1, sz3.2⟩
  obtain ⟨e1, e2, e3, e4⟩ := sizes_no 99999 s h1 h2 h3
  exact ⟨_, _, e1, e3, e2, e4⟩
theorem near_yes (s a b : Int) (f bs : List Int) (ha : -9223372036854775808 ≤ a ∧ a ≤ 9223372036854775807) (hb : -9223372036854775808 ≤ b ∧ b ≤ 9223372036854775807) (hf : f.length ≤ 300) (hbs : fit 8 bs) (hl : bs.length ≤ 1000) :
    chatelainelaw11_LayNear.j0 100000 s a b f bs false = some true := by
  obtain ⟨x, x1, x2, x3⟩ := nears 99999 a b ha hb f hf (by omega) (by omega)
  obtain ⟨y, y1, y2, y3⟩ := fars 99999 a b ha hb bs hbs hl (by omega) (by omega)
  obtain ⟨p, q, p1, p2, q1, q2⟩ := sizes_ok s
  have hj : chatelainelaw11_LayNear.j1 99999 f bs f bs x y true = some true := by
    rw [chatelainelaw11_LayNear.j1]
    have o1 := over_l0 x.length 0 99998 x (by omega) (by omega) (by omega)
    have o2 := overI_l0 y.length 0 99998 y (by omega) (by omega) (by omega)
    refine bnd o1 (bnd o2 (ifp rfl ?_))
    refine bnd (show chatelainelaw0_KeptInts.f 99998 f f = some true from sameI_yes _ f (by omega) (by omega)) (ifp rfl ?_)
    refine bnd (show chatelainelaw0_KeptBytes.f 99998 bs bs = some true from same_yes _ bs (by omega) (by omega)) (ifp rfl ?_)
    rw [awake_yes8]
    rfl
  rw [chatelainelaw11_LayNear.j0, if_neg (by simp)]
  refine bnd (show chatelainelaw0_LendInts.f f = some f by unfold chatelainelaw0_LendInts.f; rw [if_pos (by omega)]) ?_
  refine bnd (show chatelainelaw0_LendBytes.f bs = some bs by unfold chatelainelaw0_LendBytes.f; rw [if_pos (by omega)]) ?_
  refine bnd x2 (bnd y2 (bnd p1 (bnd p2 (bnd q1 (bnd q2 (bnd x3 (bnd (same_yes _ x (by omega) (by omega)) (ifp rfl (bnd y3 (bnd (sameI_yes _ y (by omega) (by omega)) (ifp rfl (ifp ?_ ?_))))))))))))
  · simp
  · refine ifp rfl (ifp rfl (ifp rfl (ifp rfl (ifp rfl (ifp rfl (ifp rfl (ifp rfl (ifp rfl (ifp rfl (ifp rfl ?_))))))))))
    rw [show (q.2.2 == q.2.2) = true by simp]
    exact hj
theorem LayNear : chatelainelaw11_LayNear.Pure := by
  intro a0 a1 a2 l3 l4 _ h1 h2 _ _ _ _ _ w4
  refine ⟨100000, ?_⟩
  unfold chatelainelaw11_LayNear.f
  have no : ∀ x0 x1 x2 l l', chatelainelaw11_LayNear.j0 100000 x0 x1 x2 l l' true = some true := fun x0 x1 x2 l l' => by
    rw [chatelainelaw11_LayNear.j0, if_pos rfl, awake_yes9]
    rfl
  by_cases c : (l3.length : Int) > 300
  · rw [if_pos c]; exact no ..
  rw [if_neg c]
  by_cases c2 : (l4.length : Int) > 1000
  · rw [decide_eq_true c2]; exact no ..
  rw [decide_eq_false c2]
  exact near_yes a0 a1 a2 l3 l4 (wf_i64 h1) (wf_i64 h2) (by omega) (fun x hx => wf_u8 (w4 x hx)) (by omega)
end Go.Proofs.YtaegmnimkemjgaaDoor.Pure
