/- A sealing key ends with the first half of what its seed makes; all its polys, and those of the opening key, may be; it is none of another set. No condition. -/
import Derived.Test.YtkdfcgihgndnnaaDoorPZ3
import Derived.Test.YtkdfcgihgndnnaaDoorPZ4
import Derived.Test.YtkdfcgihgndnnaaDoorPZ2
import Derived.Laws.BitsLemmas
import Derived.Test.YtkdfcgihgndnnaaDoorRows
import Derived.ChangeSame
import Derived.ChangeVars
import Derived.JoinedOf
import Derived.RowKit
import Derived.RowKitTokens
import Derived.LaidLaws
import Derived.LaidHandle
import Derived.Stop.Joined
section
/- What Times, Add, Sub and the statements' own helpers come to. -/
namespace Go.Proofs.YtkdfcgihgndnnaaDoor.PolyB
open Go.RowKit Go.Proofs.YtkdfcgihgndnnaaDoor.PPA Go.Proofs.YtkdfcgihgndnnaaDoor.Pm Go.Proofs.YtkdfcgihgndnnaaDoorW.PrintWords Go.Proofs.YtkdfcgihgndnnaaDoorW.PrintLast Go.Proofs.YtkdfcgihgndnnaaDoorW.PrintMore

/-! ### Add, Sub -/
theorem each_add_l0 (x y : List Int) (hx : x.length = 256) (hy : y.length = 256) : ∀ (m j k : Nat) (out : List Int), j + m = 256 → out.length = 256 → (∀ n, n < 256 → n < j → at_ out n = (at_ x n + at_ y n) % 3329) → m < k →
    poly_each_at_ring_Add.l0 k x y out 256 (j : Int) = some (ofN fun n => (at_ x n + at_ y n) % 3329) := by
  intro m
  induction m with
  | zero =>
    intro j k out h hl ho hk
    obtain ⟨k, rfl⟩ : ∃ q, k = q + 1 := ⟨k - 1, by omega⟩
    simp only [poly_each_at_ring_Add.l0]
    rw [if_neg (by omega)]
    congr 1
    exact eq_ofN hl fun n hn => ho n hn (by omega)
  | succ m ih =>
    intro j k out h hl ho hk
    obtain ⟨k, rfl⟩ : ∃ q, k = q + 1 := ⟨k - 1, by omega⟩
    simp only [poly_each_at_ring_Add.l0]
    refine ifp (by omega) (ifp (by omega) (ifp (by omega) (ifp (by omega) ?_)))
    rw [rd_at, rd_at]
    refine bnd (add_eq _ _) (ifp (by omega) ?_)
    rw [w64 (n := (j : Int) + 1) (by omega) (by omega), show (j : Int) + 1 = ((j + 1 : Nat) : Int) by omega, Int.toNat_natCast]
    refine ih (j + 1) k _ (by omega) (by rw [List.length_set]; exact hl) (fun n hn hn2 => ?_) (by omega)
    rw [at_set out j n _ (by omega)]
    by_cases c : n = j
    · rw [if_pos c, c]
    · rw [if_neg c]; exact ho n hn (by omega)
theorem padd_eq (k : Nat) (x y : List Int) (hx : Poly x) (hy : Poly y) (hk : 1000 ≤ k) : poly_Add.f k x y = some (ofN fun n => (at_ x n + at_ y n) % 3329) := by
  obtain ⟨k, rfl⟩ : ∃ q, k = q + 1 := ⟨k - 1, by omega⟩
  unfold poly_Add.f poly_each_at_ring_Add.f
  refine bnd (bnd (may_yes _ x hx (by omega)) (ifp rfl (bnd (may_yes _ y hy (by omega)) ?_))) rfl
  simp only [poly_each_at_ring_Add.j0]
  refine ifn (by decide) (ifp (by decide) (bnd rfl ?_))
  rw [List.length_replicate]
  exact each_add_l0 x y hx.1 hy.1 256 0 k _ (by omega) (by rw [List.length_replicate]) (fun n _ h => by omega) (by omega)
/-! ### Times -/
theorem ze_rt (i : Nat) : (17 * rt i % 3329) * rt i % 3329 = ze i := by
  have h : (17 * rtN i % 3329) * rtN i % 3329 = zeN i := by
    unfold rtN zeN
    rw [Nat.mul_mod, Nat.mod_mod, Nat.mul_mod 17, Nat.mod_mod, ← Nat.mul_mod 17, ← Nat.mul_mod, show 2 * rv i + 1 = 1 + rv i + rv i by omega, Nat.pow_add, Nat.pow_add, Nat.pow_one]
  unfold rt ze
  rw [← h]
  simp only [Int.natCast_emod, Int.natCast_mul]; rfl
theorem times_l0 (x y : List Int) (hx : Poly x) (hy : Poly y) : ∀ (m j k : Nat) (out : List Int), j + m = 128 → out.length = 256 → (∀ n, n < 256 → n < 2 * j → at_ out n = tim (at_ x) (at_ y) n) → m + 80 < k →
    poly_Times.l0 k x y out (j : Int) = some (ofN (tim (at_ x) (at_ y))) := by
  have hx1 := hx.1
  have hy1 := hy.1
  intro m
  induction m with
  | zero =>
    intro j k out h hl ho hk
    obtain ⟨k, rfl⟩ : ∃ q, k = q + 1 := ⟨k - 1, by omega⟩
    simp only [poly_Times.l0]
    rw [if_neg (by omega)]
    congr 1
    exact eq_ofN hl fun n hn => ho n hn (by omega)
  | succ m ih =>
    intro j k out h hl ho hk
    obtain ⟨k, rfl⟩ : ∃ q, k = q + 1 := ⟨k - 1, by omega⟩
    simp only [poly_Times.l0]
    rw [w64 (n := 2 * (j : Int)) (by omega) (by omega), w64 (n := 2 * (j : Int) + 1) (by omega) (by omega), show 2 * (j : Int) + 1 = ((2 * j + 1 : Nat) : Int) by omega, show 2 * (j : Int) = ((2 * j : Nat) : Int) by omega]
    refine ifp (by omega) (bnd (root_rt k j (by omega)) ?_)
    refine ifp (by omega) (ifp (by omega) (ifp (by omega) (ifp (by omega) (ifp (by omega) (ifp (by omega) (ifp (by omega) (ifp (by omega) ?_)))))))
    rw [rd_at, rd_at, rd_at, rd_at]
    have ha := hx.2 (2 * j) (by omega)
    have hb := hx.2 (2 * j + 1) (by omega)
    have hc := hy.2 (2 * j) (by omega)
    have hd := hy.2 (2 * j + 1) (by omega)
    have hr := rt_bd j
    have hz := ze_bd j
    have m1 := mul_bd ha hc
    have m2 := mul_bd hb hd
    have m3 := mul_bd ha hd
    have m4 := mul_bd hb hc
    have m5 := mul_bd (a := 17) (by decide) hr
    have m6 := mul_bd (em (17 * rt j)) hr
    have m7 := mul_bd (em (at_ x (2 * j + 1) * at_ y (2 * j + 1))) hz
    rw [w64 (n := at_ x (2 * j) * at_ y (2 * j)) (by omega) (by omega), w64 (n := at_ x (2 * j + 1) * at_ y (2 * j + 1)) (by omega) (by omega), tmod_pos m2.1, w64 (n := 17 * rt j) (by omega) (by omega), tmod_pos m5.1, w64 (n := 17 * rt j % 3329 * rt j) (by omega) (by omega), tmod_pos m6.1, ze_rt,
      w64 (n := at_ x (2 * j + 1) * at_ y (2 * j + 1) % 3329 * ze j) (by omega) (by omega), w64 (n := at_ x (2 * j) * at_ y (2 * j) + at_ x (2 * j + 1) * at_ y (2 * j + 1) % 3329 * ze j) (by omega) (by omega), tmod_pos (a := at_ x (2 * j) * at_ y (2 * j) + at_ x (2 * j + 1) * at_ y (2 * j + 1) % 3329 * ze j) (by omega),
      w64 (n := at_ x (2 * j) * at_ y (2 * j + 1)) (by omega) (by omega), w64 (n := at_ x (2 * j + 1) * at_ y (2 * j)) (by omega) (by omega), w64 (n := at_ x (2 * j) * at_ y (2 * j + 1) + at_ x (2 * j + 1) * at_ y (2 * j)) (by omega) (by omega), tmod_pos (a := at_ x (2 * j) * at_ y (2 * j + 1) + at_ x (2 * j + 1) * at_ y (2 * j)) (by omega),
      w64 (n := (j : Int) + 1) (by omega) (by omega), show (j : Int) + 1 = ((j + 1 : Nat) : Int) by omega, Int.toNat_natCast, Int.toNat_natCast]
    refine ih (j + 1) k _ (by omega) (by rw [List.length_set, List.length_set]; exact hl) (fun n hn hn2 => ?_) (by omega)
    rw [at_set _ (2 * j + 1) n _ (by rw [List.length_set]; omega), at_set out (2 * j) n _ (by omega)]
    by_cases c : n = 2 * j + 1
    · rw [if_pos c, c]
      unfold tim
      rw [if_neg (by omega), show 2 * j + 1 - 1 = 2 * j by omega]
    · rw [if_neg c]
      by_cases c2 : n = 2 * j
      · rw [if_pos c2, c2]
        unfold tim
        rw [if_pos (by omega), show 2 * j / 2 = j by omega]
      · rw [if_neg c2]; exact ho n hn (by omega)
theorem times_eq (k : Nat) (x y : List Int) (hx : Poly x) (hy : Poly y) (hk : 1000 ≤ k) : poly_Times.f k x y = some (ofN (tim (at_ x) (at_ y))) := by
  obtain ⟨k, rfl⟩ : ∃ q, k = q + 1 := ⟨k - 1, by omega⟩
  unfold poly_Times.f
  refine bnd (may_yes _ x hx (by omega)) (ifp rfl (bnd (may_yes _ y hy (by omega)) ?_))
  simp only [poly_Times.j0]
  refine ifn (by decide) (ifp (by decide) ?_)
  exact times_l0 x y hx hy 128 0 k _ (by omega) (by rw [List.length_replicate]) (fun n _ h => by omega) (by omega)

/-! ### low, unit, awake -/
theorem at_zeros (n : Nat) (h : n < 256) : at_ (List.replicate 256 (0 : Int)) n = 0 := by
  unfold at_
  rw [List.getD_eq_getElem?_getD, List.getElem?_replicate, if_pos h]; rfl
theorem poly_zeros : Poly (List.replicate 256 (0 : Int)) := ⟨List.length_replicate, fun n hn => by rw [at_zeros n hn]; decide⟩
theorem poly_ntt (f : Nat → Int) : Poly (ofN (ntt f)) := poly_ofN fun n _ => ntt_bd f n
end Go.Proofs.YtkdfcgihgndnnaaDoor.PolyB
end
section
/- What packing and unpacking numbers computes: digits of one number. -/
namespace Go.Proofs.YtkdfcgihgndnnaaDoor.PackA
open Go.RowKit Go.Proofs.YtkdfcgihgndnnaaDoor.PPA Go.Proofs.YtkdfcgihgndnnaaDoorW.PrintWords Go.Proofs.YtkdfcgihgndnnaaDoorW.PrintLast Go.Proofs.YtkdfcgihgndnnaaDoorW.PrintMore

theorem bnd {α β : Type} {o : Option α} {x : α} {f : α → Option β} {r : Option β} (h : o = some x) (k : f x = r) : o.bind f = r := by rw [h]; exact k
theorem ifp {α : Type} {c : Prop} [Decidable c] {a b r : α} (h : c) (k : a = r) : (if c then a else b) = r := by rw [if_pos h]; exact k
theorem ifn {α : Type} {c : Prop} [Decidable c] {a b r : α} (h : ¬ c) (k : b = r) : (if c then a else b) = r := by rw [if_neg h]; exact k
theorem w64 {n : Int} (h0 : -9223372036854775808 ≤ n) (h1 : n ≤ 9223372036854775807) : wrap64 n = n := by unfold wrap64; omega
theorem rdI (l : List Int) (i : Nat) (h : i < l.length) : rd l (i : Int) = l[i] := by
  unfold rd
  rw [Int.toNat_natCast, List.getD_eq_getElem?_getD, List.getElem?_eq_getElem h]
  rfl
theorem wraps_i64 (n : Int) (h₀ : 0 ≤ n) (h₁ : n < 2 ^ 63) : IntKind.i64.wrap n = n := by rw [IntKind.wrap_i64]; omega
/-- Numbers of d bits each, the first the lowest. -/
def val (d : Nat) : List Int → Nat
  | [] => 0
  | x :: r => x.toNat + 2 ^ d * val d r
/-- So many digits to the base 256, the lowest first. -/
def digs : Nat → Nat → List Int
  | 0, _ => []
  | n + 1, m => ((m % 256 : Nat) : Int) :: digs n (m / 256)
theorem digs_len : ∀ (n m : Nat), (digs n m).length = n
  | 0, _ => rfl
  | n + 1, m => by rw [digs, List.length_cons, digs_len n]
theorem or_add (h x i : Nat) (hi : i ≤ 63) (hh : h < 2 ^ i) (hx : x % 2 ^ i = 0) (hb : x < 2 ^ 63) : Go.bits .or .i64 (h : Int) (x : Int) = ((h + x : Nat) : Int) := by
  have h63 : h < 2 ^ 63 := Nat.lt_of_lt_of_le hh (Nat.pow_le_pow_right (by decide) hi)
  rw [(bits_nat .i64 63 (by decide) wraps_i64 h x h63 hb).2]
  have hq : x = 2 ^ i * (x / 2 ^ i) := by
    have := Nat.div_add_mod x (2 ^ i)
    omega
  have := Nat.two_pow_add_eq_or_of_lt hh (x / 2 ^ i)
  rw [← hq] at this
  rw [Nat.or_comm, ← this, Nat.add_comm]
/-! ### Packing -/
theorem pack_step (d n x h : Nat) (hn : n < 8) (hd : d ≤ 24) (hx : x < 2 ^ d) (hh : h < 2 ^ n) :
    Go.bits .or .i64 (h : Int) (shl .i64 (x : Int) (n : Int)) = ((h + x * 2 ^ n : Nat) : Int) ∧ h + x * 2 ^ n < 2 ^ (n + d) := by
  have h1 : x * 2 ^ n < 2 ^ (n + d) := by rw [Nat.add_comm n d, Nat.pow_add]; exact Nat.mul_lt_mul_of_pos_right hx (Nat.two_pow_pos n)
  have h2 : (2 : Nat) ^ (n + d) ≤ 2 ^ 31 := Nat.pow_le_pow_right (by decide) (by omega)
  have hs : shl .i64 (x : Int) (n : Int) = ((x * 2 ^ n : Nat) : Int) := by
    unfold shl
    rw [Int.toNat_natCast, Nat.min_eq_left (by simp only [IntKind.bits]; omega), show (x : Int) * 2 ^ n = ((x * 2 ^ n : Nat) : Int) by push_cast; rfl]
    exact wraps_i64 _ (by omega) (by have := Nat.lt_of_lt_of_le h1 h2; omega)
  refine ⟨by rw [hs]; exact or_add h _ n (by omega) hh (Nat.mul_mod_left _ _) (by omega), ?_⟩
  have h3 : h + x * 2 ^ n < 2 ^ n + x * 2 ^ n := by omega
  have h4 : 2 ^ n + x * 2 ^ n = (x + 1) * 2 ^ n := by rw [Nat.add_mul]; omega
  have h5 : (x + 1) * 2 ^ n ≤ 2 ^ d * 2 ^ n := Nat.mul_le_mul_right _ hx
  rw [Nat.pow_add, Nat.mul_comm (2 ^ n)]
  omega
theorem digs_step (n h V t : Nat) (hn : 8 ≤ n) (ht : 1 ≤ t) : digs t (h + 2 ^ n * V) = ((h % 256 : Nat) : Int) :: digs (t - 1) (h / 256 + 2 ^ (n - 8) * V) := by
  obtain ⟨t', rfl⟩ : ∃ t', t = t' + 1 := ⟨t - 1, by omega⟩
  have hp : (2 : Nat) ^ n * V = 256 * (2 ^ (n - 8) * V) := by
    rw [← Nat.mul_assoc, show (256 : Nat) = 2 ^ 8 by decide, ← Nat.pow_add]
    congr 2
    omega
  rw [digs, hp, Nat.add_mul_mod_self_left, Nat.add_mul_div_left _ _ (by decide)]
  rfl
/-- Are numbers such of d bits? -/
def fit (d : Nat) (xs : List Int) : Prop := ∀ x ∈ xs, 0 ≤ x ∧ x < (2 ^ d : Nat)
theorem pack_all (d : Nat) (hd1 : 1 ≤ d) (hd : d ≤ 24) (xs : List Int) (hxs : fit d xs) (hl : xs.length < 4294967296) : ∀ k : Nat,
    (∀ (m i n h : Nat) (out : List Int), i + m = xs.length → n < 8 → h < 2 ^ n → 6 * m + 1 ≤ k → out.length + 4 * m + 4 < 140737488355328 →
      bits_Pack.l0 k (d : Int) out (h : Int) (n : Int) xs (xs.length : Int) (i : Int) = some (out ++ digs ((n + d * m + 7) / 8) (h + 2 ^ n * val d (xs.drop i)))) ∧
    (∀ (m i n h : Nat) (out : List Int), i + m + 1 = xs.length → n ≤ 31 → h < 2 ^ n → 6 * m + n / 8 + 2 ≤ k → out.length + n / 8 + 4 * m + 4 < 140737488355328 →
      bits_Pack.l1 k (d : Int) out (h : Int) (n : Int) xs (xs.length : Int) (i : Int) = some (out ++ digs ((n + d * m + 7) / 8) (h + 2 ^ n * val d (xs.drop (i + 1)))))
  | 0 => ⟨fun _ _ _ _ _ _ _ _ hk => by omega, fun _ _ _ _ _ _ _ _ hk => by omega⟩
  | 1 => by
    refine ⟨fun m i n h out hi hn hh hk ho => ?_, fun _ _ _ _ _ _ _ _ hk => by omega⟩
    obtain rfl : m = 0 := by omega
    rw [bits_Pack.l0, if_neg (by omega), List.drop_of_length_le (by omega)]
    by_cases c : n = 0
    · subst c
      rw [if_neg (by omega)]
      simp [digs]
    · rw [if_pos (by omega), if_pos (by omega), show (n + d * 0 + 7) / 8 = 1 by omega]
      simp [digs, val]
  | k + 2 => by
    have ih1 := pack_all d hd1 hd xs hxs hl (k + 1)
    have ih0 := pack_all d hd1 hd xs hxs hl k
    constructor
    · intro m i n h out hi hn hh hk ho
      cases m with
      | zero =>
        rw [bits_Pack.l0, if_neg (by omega), List.drop_of_length_le (by omega)]
        by_cases c : n = 0
        · subst c
          rw [if_neg (by omega)]
          simp [digs]
        · rw [if_pos (by omega), if_pos (by omega), show (n + d * 0 + 7) / 8 = 1 by omega]
          simp [digs, val]
      | succ m =>
        have hil : i < xs.length := by omega
        obtain ⟨hx0, hx1⟩ := hxs xs[i] (List.getElem_mem hil)
        obtain ⟨x, hx⟩ := Int.eq_ofNat_of_zero_le hx0
        have hxd : x < 2 ^ d := by rw [hx] at hx1; exact_mod_cast hx1
        obtain ⟨hor, hlt⟩ := pack_step d n x h hn hd hxd hh
        have e : xs.drop i = xs[i] :: xs.drop (i + 1) := (List.getElem_cons_drop hil).symm
        rw [bits_Pack.l0, if_pos (by omega), if_pos (by omega), if_pos (by omega), rdI xs i hil, hx, if_neg (by omega), if_pos (by omega)]
        have hshr : shr .i64 (x : Int) (d : Int) = 0 := by
          unfold shr
          rw [Int.toNat_natCast, Nat.min_eq_left (by simp only [IntKind.bits]; omega)]
          exact Int.ediv_eq_zero_of_lt (by omega) (by exact_mod_cast hxd)
        rw [hshr, bits_Pack.j2, if_neg (by simp), if_pos (by omega), hor, w64 (by omega) (by omega), show (n : Int) + (d : Int) = ((n + d : Nat) : Int) by omega,
          ih0.2 m i (n + d) (h + x * 2 ^ n) out (by omega) (by omega) hlt (by omega) (by omega), e, val, hx, Int.toNat_natCast]
        congr 3
        · rw [Nat.mul_add]; omega
        · rw [Nat.mul_add, Nat.pow_add, Nat.mul_comm x, Nat.mul_assoc]; omega
    · intro m i n h out hi hn hh hk ho
      rw [bits_Pack.l1]
      by_cases c : 8 ≤ n
      · have hh8 : h / 256 < 2 ^ (n - 8) := by
          rw [Nat.div_lt_iff_lt_mul (by decide), show (256 : Nat) = 2 ^ 8 by decide, ← Nat.pow_add, show n - 8 + 8 = n by omega]
          exact hh
        rw [if_pos (by omega), if_pos (by omega), w64 (by omega) (by omega), show (n : Int) - 8 = ((n - 8 : Nat) : Int) by omega, show (h : Int) % 256 = ((h % 256 : Nat) : Int) by omega, show (h : Int) / 256 = ((h / 256 : Nat) : Int) by omega,
          ih1.2 m i (n - 8) (h / 256) _ hi (by omega) hh8 (by omega) (by rw [List.length_append]; simp only [List.length_cons, List.length_nil]; omega),
          digs_step n h _ ((n + d * m + 7) / 8) c (by omega), List.append_assoc, List.cons_append, List.nil_append]
        congr 4
        omega
      · rw [if_neg (by omega), w64 (by omega) (by omega), show (i : Int) + 1 = ((i + 1 : Nat) : Int) by omega, ih1.1 m (i + 1) n h out (by omega) (by omega) hh (by omega) (by omega)]
theorem pack_ok (k d : Nat) (hd1 : 1 ≤ d) (hd : d ≤ 24) (xs : List Int) (hxs : fit d xs) (hl : xs.length < 4294967296) (hk : 6 * xs.length + 2 ≤ k) :
    bits_Pack.f k (d : Int) xs = some (digs ((d * xs.length + 7) / 8) (val d xs)) := by
  obtain ⟨k, rfl⟩ : ∃ k', k = k' + 1 := ⟨k - 1, by omega⟩
  rw [bits_Pack.f, if_neg (by omega), decide_eq_false (by omega), bits_Pack.j0, if_neg (by simp)]
  have := (pack_all d hd1 hd xs hxs hl k).1 xs.length 0 0 0 [] (by omega) (by omega) (by simp) (by omega) (by simp only [List.length_nil]; omega)
  rw [Int.natCast_zero] at this
  rw [this]
  simp
/-! ### Unpacking -/
/-- So many numbers of d bits each, the lowest first. -/
def unp (d : Nat) : Nat → Nat → List Int
  | 0, _ => []
  | n + 1, m => ((m % 2 ^ d : Nat) : Int) :: unp d n (m / 2 ^ d)
theorem unp_len (d : Nat) : ∀ (n m : Nat), (unp d n m).length = n
  | 0, _ => rfl
  | n + 1, m => by rw [unp, List.length_cons, unp_len d n]
theorem unp_fit (d : Nat) : ∀ (n m : Nat), fit d (unp d n m)
  | 0, _ => fun x hx => by simp [unp] at hx
  | n + 1, m => fun x hx => by
    rw [unp, List.mem_cons] at hx
    rcases hx with rfl | hx
    · have := Nat.mod_lt m (Nat.two_pow_pos d)
      exact ⟨by omega, by exact_mod_cast this⟩
    · exact unp_fit d n _ x hx
theorem unp_step (d n h V t : Nat) (hn : d ≤ n) (ht : 1 ≤ t) : unp d t (h + 2 ^ n * V) = ((h % 2 ^ d : Nat) : Int) :: unp d (t - 1) (h / 2 ^ d + 2 ^ (n - d) * V) := by
  obtain ⟨t', rfl⟩ : ∃ t', t = t' + 1 := ⟨t - 1, by omega⟩
  have hp : (2 : Nat) ^ n * V = 2 ^ d * (2 ^ (n - d) * V) := by
    rw [← Nat.mul_assoc, ← Nat.pow_add]
    congr 2
    omega
  rw [unp, hp, Nat.add_mul_mod_self_left, Nat.add_mul_div_left _ _ (Nat.two_pow_pos d)]
  rfl
/-- Bytes of a number are such; numbers of its bytes are such. -/
theorem digs_fit : ∀ (n m : Nat), fit 8 (digs n m)
  | 0, _ => fun x hx => by simp [digs] at hx
  | n + 1, m => fun x hx => by
    rw [digs, List.mem_cons] at hx
    rcases hx with rfl | hx
    · have := Nat.mod_lt m (show 256 > 0 by decide)
      exact ⟨by omega, by omega⟩
    · exact digs_fit n _ x hx
theorem val_digs : ∀ (n m : Nat), m < 256 ^ n → val 8 (digs n m) = m
  | 0, m, h => by simp at h; simp [digs, val, h]
  | n + 1, m, h => by
    have h2 : m / 256 < 256 ^ n := by rw [Nat.div_lt_iff_lt_mul (by decide), ← Nat.pow_succ]; exact h
    rw [digs, val, val_digs n _ h2, Int.toNat_natCast]
    omega
theorem val_lt (d : Nat) : ∀ (xs : List Int), fit d xs → val d xs < 2 ^ (d * xs.length)
  | [], _ => by simp [val]
  | x :: r, h => by
    obtain ⟨h0, h1⟩ := h x (List.mem_cons_self ..)
    have ih := val_lt d r (fun y hy => h y (List.mem_cons_of_mem _ hy))
    obtain ⟨y, hy⟩ := Int.eq_ofNat_of_zero_le h0
    rw [hy] at h1
    have hyd : y < 2 ^ d := by exact_mod_cast h1
    rw [val, hy, Int.toNat_natCast, List.length_cons, Nat.mul_add, Nat.mul_one, Nat.pow_add]
    have h3 : 2 ^ d * (val d r + 1) ≤ 2 ^ d * 2 ^ (d * r.length) := Nat.mul_le_mul_left _ ih
    rw [Nat.mul_add, Nat.mul_one] at h3
    rw [Nat.mul_comm (2 ^ (d * r.length))]
    omega
theorem unp_val (d : Nat) : ∀ (xs : List Int), fit d xs → unp d xs.length (val d xs) = xs
  | [], _ => rfl
  | x :: r, h => by
    obtain ⟨h0, h1⟩ := h x (List.mem_cons_self ..)
    obtain ⟨y, hy⟩ := Int.eq_ofNat_of_zero_le h0
    rw [hy] at h1
    have hyd : y < 2 ^ d := by exact_mod_cast h1
    rw [List.length_cons, unp, val, hy, Int.toNat_natCast, Nat.add_mul_mod_self_left, Nat.mod_eq_of_lt hyd, Nat.add_mul_div_left _ _ (Nat.two_pow_pos d), Nat.div_eq_of_lt hyd, Nat.zero_add,
      unp_val d r (fun z hz => h z (List.mem_cons_of_mem _ hz))]
theorem or_step (d n x h : Nat) (hn : n < 24) (hd : d ≤ 8) (hx : x < 2 ^ d) (hh : h < 2 ^ n) :
    Go.bits .or .i64 (h : Int) (shl .i64 (x : Int) (n : Int)) = ((h + x * 2 ^ n : Nat) : Int) ∧ h + x * 2 ^ n < 2 ^ (n + d) := by
  have h1 : x * 2 ^ n < 2 ^ (n + d) := by rw [Nat.add_comm n d, Nat.pow_add]; exact Nat.mul_lt_mul_of_pos_right hx (Nat.two_pow_pos n)
  have h2 : (2 : Nat) ^ (n + d) ≤ 2 ^ 31 := Nat.pow_le_pow_right (by decide) (by omega)
  have hs : shl .i64 (x : Int) (n : Int) = ((x * 2 ^ n : Nat) : Int) := by
    unfold shl
    rw [Int.toNat_natCast, Nat.min_eq_left (by simp only [IntKind.bits]; omega), show (x : Int) * 2 ^ n = ((x * 2 ^ n : Nat) : Int) by push_cast; rfl]
    exact wraps_i64 _ (by omega) (by have := Nat.lt_of_lt_of_le h1 h2; omega)
  refine ⟨by rw [hs]; exact or_add h _ n (by omega) hh (Nat.mul_mod_left _ _) (by omega), ?_⟩
  have h3 : h + x * 2 ^ n < 2 ^ n + x * 2 ^ n := by omega
  have h4 : 2 ^ n + x * 2 ^ n = (x + 1) * 2 ^ n := by rw [Nat.add_mul]; omega
  have h5 : (x + 1) * 2 ^ n ≤ 2 ^ d * 2 ^ n := Nat.mul_le_mul_right _ hx
  rw [Nat.pow_add, Nat.mul_comm (2 ^ n)]
  omega
theorem low_is (d h : Nat) (hd : d ≤ 62) (hh : h < 2 ^ 63) : bits_Low.f (d : Int) (h : Int) = some ((h % 2 ^ d : Nat) : Int) := by
  unfold bits_Low.f
  rw [if_neg (by omega), if_neg (by omega), if_pos (by omega)]
  have hs : wrap64 (shl .i64 1 (d : Int) - 1) = 2 ^ d - 1 := by
    have h2 : (2 : Nat) ^ d ≤ 2 ^ 62 := Nat.pow_le_pow_right (by decide) hd
    have h3 : (shl .i64 1 (d : Int)) = ((2 ^ d : Nat) : Int) := by
      unfold shl
      rw [Int.toNat_natCast, Nat.min_eq_left (by simp only [IntKind.bits]; omega), Int.one_mul, show (2 : Int) ^ d = ((2 ^ d : Nat) : Int) by push_cast; rfl]
      generalize (2 : Nat) ^ d = P at h2
      exact wraps_i64 _ (by omega) (by omega)
    rw [h3, show (2 : Int) ^ d = ((2 ^ d : Nat) : Int) by push_cast; rfl]
    generalize (2 : Nat) ^ d = P at h2
    exact w64 (by omega) (by omega)
  rw [hs, bits_mask .i64 63 (by decide) wraps_i64 d (by omega) (h : Int) (by omega) (by exact_mod_cast hh)]
  norm_cast
theorem unpack_all (d : Nat) (hd1 : 1 ≤ d) (hd : d ≤ 24) (xs : List Int) (hxs : fit 8 xs) (hl : xs.length < 1048576) : ∀ k : Nat,
    (∀ (m i n h : Nat) (out : List Int), i + m = xs.length → n < d → h < 2 ^ n → 40 * m + 1 ≤ k → out.length + 40 * m + 64 < 17592186044416 →
      bits_Unpack.l0 k (d : Int) out (h : Int) (n : Int) xs (xs.length : Int) (i : Int) = some (out ++ unp d ((n + 8 * m) / d) (h + 2 ^ n * val 8 (xs.drop i)))) ∧
    (∀ (m i n h : Nat) (out : List Int), i + m + 1 = xs.length → n ≤ 31 → h < 2 ^ n → n < d + 8 → 40 * m + n + 2 ≤ k → out.length + 40 * m + n + 64 < 17592186044416 →
      bits_Unpack.l1 k (d : Int) out (h : Int) (n : Int) xs (xs.length : Int) (i : Int) = some (out ++ unp d ((n + 8 * m) / d) (h + 2 ^ n * val 8 (xs.drop (i + 1)))))
  | 0 => ⟨fun _ _ _ _ _ _ _ _ hk => by omega, fun _ _ _ _ _ _ _ _ _ hk => by omega⟩
  | k + 1 => by
    have ih := unpack_all d hd1 hd xs hxs hl k
    constructor
    · intro m i n h out hi hn hh hk ho
      cases m with
      | zero =>
        rw [bits_Unpack.l0, if_neg (by omega), List.drop_of_length_le (by omega), show (n + 8 * 0) / d = 0 by rw [Nat.mul_zero, Nat.add_zero]; exact Nat.div_eq_of_lt hn]
        simp [unp]
      | succ m =>
        have hil : i < xs.length := by omega
        obtain ⟨hx0, hx1⟩ := hxs xs[i] (List.getElem_mem hil)
        obtain ⟨x, hx⟩ := Int.eq_ofNat_of_zero_le hx0
        have hxd : x < 2 ^ 8 := by rw [hx] at hx1; exact_mod_cast hx1
        obtain ⟨hor, hlt⟩ := or_step 8 n x h (by omega) (by decide) hxd hh
        have e : xs.drop i = xs[i] :: xs.drop (i + 1) := (List.getElem_cons_drop hil).symm
        rw [bits_Unpack.l0, if_pos (by omega), if_pos (by omega), if_pos (by omega), rdI xs i hil, hx, w64 (n := (x : Int)) (by omega) (by omega), if_pos (by omega), hor, w64 (by omega) (by omega), show (n : Int) + 8 = ((n + 8 : Nat) : Int) by omega,
          ih.2 m i (n + 8) (h + x * 2 ^ n) out (by omega) (by omega) hlt (by omega) (by omega) (by omega), e, val, hx, Int.toNat_natCast]
        congr 3
        · congr 1; omega
        · rw [Nat.mul_add, Nat.pow_add, Nat.mul_comm x, Nat.mul_assoc]; omega
    · intro m i n h out hi hn hh hnd hk ho
      rw [bits_Unpack.l1]
      by_cases c : d ≤ n
      · have hp : (2 : Nat) ^ n ≤ 2 ^ 31 := Nat.pow_le_pow_right (by decide) hn
        have hh8 : h / 2 ^ d < 2 ^ (n - d) := by
          rw [Nat.div_lt_iff_lt_mul (Nat.two_pow_pos d), ← Nat.pow_add, show n - d + d = n by omega]
          exact hh
        have hshr : shr .i64 (h : Int) (d : Int) = ((h / 2 ^ d : Nat) : Int) := by
          unfold shr
          rw [Int.toNat_natCast, Nat.min_eq_left (by simp only [IntKind.bits]; omega)]
          norm_cast
        have hdiv : (n + 8 * m) / d = (n - d + 8 * m) / d + 1 := by
          rw [show n + 8 * m = (n - d + 8 * m) + d by omega, Nat.add_div_right _ hd1]
        rw [if_pos (by omega), low_is d h (by omega) (Nat.lt_of_lt_of_le hh (Nat.le_trans hp (by decide))), Option.bind_some, if_pos (by omega), if_pos (by omega), hshr, w64 (by omega) (by omega), show (n : Int) - (d : Int) = ((n - d : Nat) : Int) by omega,
          ih.2 m i (n - d) (h / 2 ^ d) _ hi (by omega) hh8 (by omega) (by omega) (by rw [List.length_append]; simp only [List.length_cons, List.length_nil]; omega),
          unp_step d n h _ ((n + 8 * m) / d) c (by rw [hdiv]; exact Nat.succ_le_succ (Nat.zero_le _)), List.append_assoc, List.cons_append, List.nil_append, hdiv]
        rfl
      · rw [if_neg (by omega), w64 (by omega) (by omega), show (i : Int) + 1 = ((i + 1 : Nat) : Int) by omega, ih.1 m (i + 1) n h out (by omega) (by omega) hh (by omega) (by omega)]
theorem unpack_ok (k d : Nat) (hd1 : 1 ≤ d) (hd : d ≤ 24) (xs : List Int) (hxs : fit 8 xs) (hl : xs.length < 1048576) (hk : 40 * xs.length + 2 ≤ k) :
    bits_Unpack.f k (d : Int) xs = some (unp d (8 * xs.length / d) (val 8 xs)) := by
  obtain ⟨k, rfl⟩ : ∃ k', k = k' + 1 := ⟨k - 1, by omega⟩
  rw [bits_Unpack.f, if_neg (by omega), decide_eq_false (by omega), bits_Unpack.j0, if_neg (by simp)]
  have := (unpack_all d hd1 hd xs hxs hl k).1 xs.length 0 0 0 [] (by omega) (by omega) (by simp) (by omega) (by simp only [List.length_nil]; omega)
  rw [Int.natCast_zero] at this
  rw [this]
  simp
end Go.Proofs.YtkdfcgihgndnnaaDoor.PackA
end
section
/- What pke's and draw's functions compute, in plain terms. -/
namespace Go.Proofs.YtkdfcgihgndnnaaDoor.PkeB
open Go.RowKit Go.Proofs.YtkdfcgihgndnnaaDoor.PPA Go.Proofs.YtkdfcgihgndnnaaDoor.PolyB Go.Proofs.YtkdfcgihgndnnaaDoor.Pm Go.Proofs.YtkdfcgihgndnnaaDoorW.PrintWords Go.Proofs.YtkdfcgihgndnnaaDoorW.PrintLast Go.Proofs.YtkdfcgihgndnnaaDoorW.PrintMore

/-! ### draw.Lean -/
def B1 (b : List Int) (j : Nat) : Int := at_ (PackA.unp 1 (8 * b.length) (PackA.val 8 b)) j
theorem B1_bd (b : List Int) (j : Nat) : 0 ≤ B1 b j ∧ B1 b j ≤ 1 := by
  unfold B1 at_
  by_cases h : j < (PackA.unp 1 (8 * b.length) (PackA.val 8 b)).length
  · rw [List.getD_eq_getElem?_getD, List.getElem?_eq_getElem h]
    have := PackA.unp_fit 1 (8 * b.length) (PackA.val 8 b) _ (List.getElem_mem h)
    simp only [Option.getD_some]
    omega
  · rw [List.getD_eq_getElem?_getD, List.getElem?_eq_none (by omega)]
    decide
def acc (e : Nat) (b : List Int) (i : Nat) : Nat → Int
  | 0 => 0
  | j + 1 => if j / (2 * e) = i then (acc e b i j + (if e ≤ j % (2 * e) then 3329 - B1 b j else B1 b j)) % 3329 else acc e b i j
theorem acc_bd (e : Nat) (b : List Int) (i : Nat) : ∀ j, 0 ≤ acc e b i j ∧ acc e b i j < 3329
  | 0 => ⟨Int.le_refl _, by show (0 : Int) < 3329; decide⟩
  | j + 1 => by
    rw [acc]
    split
    · omega
    · exact acc_bd e b i j
/-- What draw.Lean makes of bytes. -/
def lnP (e : Nat) (b : List Int) : List Int := ofN fun i => acc e b i (512 * e)
theorem lnP_poly (e : Nat) (b : List Int) : Poly (lnP e b) := poly_ofN fun n _ => acc_bd e b n _
theorem w2e (e : Nat) (h : e ≤ 3) : wrap64 (2 * (e : Int)) = ((2 * e : Nat) : Int) := by rw [w64 (by omega) (by omega)]; push_cast; rfl
theorem jmod (j n : Nat) : Int.tmod (j : Int) (n : Int) = ((j % n : Nat) : Int) := by rw [Int.tmod_eq_emod_of_nonneg (by omega), Int.natCast_emod]
theorem jdiv (j n : Nat) (h : j < 1000000) : wrap64 (Int.tdiv (j : Int) (n : Int)) = ((j / n : Nat) : Int) := by
  rw [Int.tdiv_eq_ediv_of_nonneg (by omega), ← Int.natCast_ediv]
  have := Nat.div_le_self j n
  generalize j / n = q at this
  rw [w64 (by omega) (by omega)]
theorem nx_ (i : Nat) (h : i < 1000000) : wrap64 ((i : Int) + 1) = ((i + 1 : Nat) : Int) := by rw [w64 (by omega) (by omega)]; rfl
theorem lean_l0 (e : Nat) (he : e = 2 ∨ e = 3) (b : List Int) (hb : b.length = 64 * e) : ∀ (m j k : Nat) (out : List Int), j + m = 512 * e → out.length = 256 → (∀ i, i < 256 → at_ out i = acc e b i j) → m < k →
    draw_Lean.l0 k (e : Int) out (PackA.unp 1 (512 * e) (PackA.val 8 b)) ((512 * e : Nat) : Int) (j : Int) = some (lnP e b, []) := by
  intro m
  induction m with
  | zero =>
    intro j k out h ho ha hk
    obtain ⟨k, rfl⟩ : ∃ q, k = q + 1 := ⟨k - 1, by omega⟩
    rw [draw_Lean.l0, if_neg (by omega)]
    have : out = lnP e b := eq_ofN ho fun i hi => by rw [ha i hi, show j = 512 * e by omega]
    rw [this]
  | succ m ih =>
    intro j k out h ho ha hk
    obtain ⟨k, rfl⟩ : ∃ q, k = q + 1 := ⟨k - 1, by omega⟩
    have hl : (PackA.unp 1 (512 * e) (PackA.val 8 b)).length = 512 * e := PackA.unp_len _ _ _
    have hrd : rd (PackA.unp 1 (512 * e) (PackA.val 8 b)) (j : Int) = B1 b j := by rw [rd_at, B1, hb, show 8 * (64 * e) = 512 * e by omega]
    have hB := B1_bd b j
    have hq : j / (2 * e) < 256 := by rcases he with rfl | rfl <;> omega
    have hj : j < 512 * e := by omega
    have he1 : 1 ≤ e ∧ e ≤ 3 := by omega
    obtain ⟨q, hqq⟩ : ∃ q, q = j / (2 * e) := ⟨_, rfl⟩
    obtain ⟨r, hrr⟩ : ∃ r, r = j % (2 * e) := ⟨_, rfl⟩
    rw [← hqq] at hq
    have HQ : Aside0 (q = j / (2 * e)) := ⟨hqq⟩
    have HR : Aside0 (r = j % (2 * e)) := ⟨hrr⟩
    clear hqq hrr
    have hA := acc_bd e b q j
    rw [draw_Lean.l0, hl, w2e e he1.2, jmod, jdiv _ _ (by omega), hrd, rd_at, ← HQ.out, ← HR.out, ha q hq, nx_ j (by omega), Int.toNat_natCast]
    refine ifp (by omega) (ifp (by omega) (ifp (by omega) (ifn (by omega) ?_)))
    have go : ∀ v : Int, v = (acc e b q j + (if e ≤ r then 3329 - B1 b j else B1 b j)) % 3329 → draw_Lean.l0 k (e : Int) (out.set q v) (PackA.unp 1 (512 * e) (PackA.val 8 b)) ((512 * e : Nat) : Int) ((j + 1 : Nat) : Int) = some (lnP e b, []) := fun v hv => by
      refine ih (j + 1) k _ (by omega) (by rw [List.length_set]; exact ho) (fun i hi => ?_) (by omega)
      rw [at_set _ _ _ _ (by omega), acc, ← HQ.out, ← HR.out]
      by_cases c : i = q
      · rw [if_pos c, if_pos c.symm, hv, c]
      · rw [if_neg c, if_neg (fun h => c h.symm), ha i hi]
    by_cases c : e ≤ r
    · refine ifp (by omega) (ifp (by omega) (ifp (by omega) (go _ ?_)))
      rw [if_pos c, w64 (n := 3329 - B1 b j) (by omega) (by omega), w64 (by omega) (by omega), Int.tmod_eq_emod_of_nonneg (by omega)]
    · refine ifn (by omega) (ifp (by omega) (ifp (by omega) (go _ ?_)))
      rw [if_neg c, w64 (by omega) (by omega), Int.tmod_eq_emod_of_nonneg (by omega)]
theorem lean_ok (k e : Nat) (he : e = 2 ∨ e = 3) (b : List Int) (hb : b.length = 64 * e) (hB : ∀ x ∈ b, 0 ≤ x ∧ x < 256) (hk : 9000 ≤ k) : draw_Lean.f k (e : Int) b = some (lnP e b, []) := by
  obtain ⟨k, rfl⟩ : ∃ q, k = q + 1 := ⟨k - 1, by omega⟩
  have key : draw_Lean.j0 (k + 1) (e : Int) b false = some (lnP e b, []) := by
    rw [draw_Lean.j0, if_neg (by decide)]
    refine ifp (by rw [w64 (by omega) (by omega)]; omega) (ifp (by decide) ?_)
    have hu := PackA.unpack_ok k 1 (by decide) (by decide) b hB (by omega) (by omega)
    rw [show 8 * b.length / 1 = 512 * e by omega] at hu
    refine bnd hu ?_
    rw [PackA.unp_len]
    exact lean_l0 e he b hb (512 * e) 0 k _ (by omega) List.length_replicate (fun i hi => by
      rw [acc]
      exact at_zeros i hi) (by omega)
  rw [draw_Lean.f]
  rcases he with rfl | rfl
  · exact ifp rfl key
  · exact ifn (by decide) key

/-! ### draw.From, pke.lean, pke.over, pke.even -/
def fromP (e : Nat) (seed : List Int) (n : Int) : List Int := lnP e (PPK.hash 136 31 (64 * e) (seed ++ [n]))
theorem fromP_poly (e : Nat) (seed : List Int) (n : Int) : Poly (fromP e seed n) := lnP_poly _ _
theorem shake_ok (n : Nat) (hn : 1 ≤ n ∧ n ≤ 1048576) (a : List Int) (x : Int) (ha : a.length < 1000000) : sponge_Shake256.f (n : Int) [a, [x]] = some (PPK.hash 136 31 n (a ++ [x])) := by
  unfold sponge_Shake256.f
  refine ifp ⟨by omega, by simp, fun y hy => ?_⟩ ?_
  · rcases List.mem_cons.mp hy with rfl | hy
    · exact ha
    · rw [List.mem_singleton.mp hy]; simp
  · rw [Int.toNat_natCast, show [a, [x]].flatten = a ++ [x] by simp]
theorem from_ok (k e : Nat) (he : e = 2 ∨ e = 3) (seed : List Int) (hs : seed.length = 32) (n : Int) (hk : 9001 ≤ k) : draw_From.f k (e : Int) seed n = some (fromP e seed n, []) := by
  obtain ⟨k, rfl⟩ : ∃ q, k = q + 1 := ⟨k - 1, by omega⟩
  have key : draw_From.j0 (k + 1) (e : Int) seed n false = some (fromP e seed n, []) := by
    rw [draw_From.j0, if_neg (by decide)]
    rw [show wrap64 (64 * (e : Int)) = ((64 * e : Nat) : Int) by rw [w64 (by omega) (by omega)]; push_cast; rfl]
    refine ifp (by omega) (bnd (shake_ok (64 * e) (by omega) seed n (by omega)) (bnd (lean_ok k e he _ (PPK.hash_len 136 31 _ (by decide) _) (PPK.hash_B _ _ _ _) (by omega)) rfl))
  rw [draw_From.f]
  rcases he with rfl | rfl
  · exact ifp rfl key
  · exact ifn (by decide) key
theorem nx8 (a b : Nat) (h1 : a < 1000000) (h2 : b < 1000000) : (wrap64 ((a : Int) + (b : Int))) % 256 = (((a + b) % 256 : Nat) : Int) := by rw [w64 (by omega) (by omega)]; omega
def leanP (e : Nat) (seed : List Int) (fr many : Nat) : List (List Int) := (List.range many).map fun i => fromP e seed (((fr + i) % 256 : Nat) : Int)
theorem plean_l0 (e : Nat) (he : e = 2 ∨ e = 3) (seed : List Int) (hs : seed.length = 32) (fr n : Nat) (hn : n ≤ 100) (hf : fr ≤ 100) : ∀ (m i k : Nat), i + m = n → 9002 + m ≤ k → pke_lean.l0 k (e : Int) seed (fr : Int) (leanP e seed fr i) (n : Int) (i : Int) = some (leanP e seed fr n) := by
  intro m
  induction m with
  | zero =>
    intro i k h hk
    obtain ⟨k, rfl⟩ : ∃ q, k = q + 1 := ⟨k - 1, by omega⟩
    rw [pke_lean.l0, if_neg (by omega), show i = n by omega]
  | succ m ih =>
    intro i k h hk
    obtain ⟨k, rfl⟩ : ∃ q, k = q + 1 := ⟨k - 1, by omega⟩
    have hl : (leanP e seed fr i).length = i := by unfold leanP; rw [List.length_map, List.length_range]
    rw [pke_lean.l0, nx8 fr i (by omega) (by omega), nx_ i (by omega), hl]
    refine ifp (by omega) (bnd (from_ok k e he seed hs _ (by omega)) (ifp (by omega) ?_))
    have : leanP e seed fr i ++ [fromP e seed (((fr + i) % 256 : Nat) : Int)] = leanP e seed fr (i + 1) := by unfold leanP; rw [List.range_succ, List.map_append]; rfl
    rw [this]
    exact ih (i + 1) k (by omega) (by omega)
theorem plean_ok (k e : Nat) (he : e = 2 ∨ e = 3) (seed : List Int) (hs : seed.length = 32) (fr n : Nat) (hn : n ≤ 100) (hf : fr ≤ 100) (hk : 9200 ≤ k) : pke_lean.f k (e : Int) seed (fr : Int) (n : Int) = some (leanP e seed fr n) := by
  rw [pke_lean.f]
  exact plean_l0 e he seed hs fr n hn hf n 0 k (by omega) (by omega)
theorem leanP_len (e : Nat) (seed : List Int) (fr n : Nat) : (leanP e seed fr n).length = n := by unfold leanP; rw [List.length_map, List.length_range]
theorem leanP_poly (e : Nat) (seed : List Int) (fr n : Nat) : ∀ f ∈ leanP e seed fr n, Poly f := fun f hf => by
  obtain ⟨i, _, rfl⟩ := List.mem_map.1 hf
  exact fromP_poly _ _ _
def overP (f : List Int) : List Int := ofN (ntt (at_ f))
theorem overP_poly (f : List Int) : Poly (overP f) := poly_ntt _
theorem getD_mem {α : Type} (l : List α) (i : Nat) (z : α) (h : i < l.length) : l.getD i z = l[i] := by rw [List.getD_eq_getElem?_getD, List.getElem?_eq_getElem h]; rfl
theorem pover_l0 (fs : List (List Int)) (hp : ∀ f ∈ fs, Poly f) (hn : fs.length ≤ 100) : ∀ (m i k : Nat), i + m = fs.length → 6000 + m ≤ k → pke_over.l0 k ((fs.take i).map overP) fs (fs.length : Int) (i : Int) = some (fs.map overP) := by
  intro m
  induction m with
  | zero =>
    intro i k h hk
    obtain ⟨k, rfl⟩ : ∃ q, k = q + 1 := ⟨k - 1, by omega⟩
    rw [pke_over.l0, if_neg (by omega), List.take_of_length_le (by omega)]
  | succ m ih =>
    intro i k h hk
    obtain ⟨k, rfl⟩ : ∃ q, k = q + 1 := ⟨k - 1, by omega⟩
    have hi : i < fs.length := by omega
    have hr : rd_L3 fs (i : Int) = fs[i] := by unfold rd_L3; rw [Int.toNat_natCast, getD_mem _ _ _ hi]
    rw [pke_over.l0, nx_ i (by omega), hr]
    refine ifp (by omega) (ifp (by omega) (ifp (by omega) (bnd (over_eq k _ (hp _ (List.getElem_mem hi)) (by omega)) (ifp (by rw [List.length_map, List.length_take]; omega) ?_))))
    have : (fs.take i).map overP ++ [ofN (ntt (at_ fs[i]))] = (fs.take (i + 1)).map overP := by rw [List.take_succ_eq_append_getElem hi, List.map_append]; rfl
    rw [this]
    exact ih (i + 1) k (by omega) (by omega)
theorem pover_ok (k : Nat) (fs : List (List Int)) (hp : ∀ f ∈ fs, Poly f) (hn : fs.length ≤ 100) (hk : 6200 ≤ k) : pke_over.f k fs = some (fs.map overP) := by
  rw [pke_over.f]
  exact pover_l0 fs hp hn fs.length 0 k (by omega) (by omega)
theorem overs_poly (fs : List (List Int)) : ∀ f ∈ fs.map overP, Poly f := fun f hf => by
  obtain ⟨g, _, rfl⟩ := List.mem_map.1 hf
  exact overP_poly _
/-- One of A's polys. -/
def evn (rho : List Int) (t : Bool) (i j : Nat) : List Int := if t = true then PPK.ev rho ((i : Int) % 256) ((j : Int) % 256) else PPK.ev rho ((j : Int) % 256) ((i : Int) % 256)
theorem evn_poly (rho : List Int) (t : Bool) (i j : Nat) : Poly (evn rho t i j) := by
  have go : ∀ a b, Poly (PPK.ev rho a b) := fun a b => by
    obtain ⟨h1, h2⟩ := PPK.ev_ok rho a b
    refine ⟨h1, fun n hn => ?_⟩
    unfold at_
    rw [getD_mem _ _ _ (by omega)]
    exact h2 _ (List.getElem_mem _)
  unfold evn
  split
  · exact go _ _
  · exact go _ _
def rowP (rho : List Int) (t : Bool) (K i : Nat) : List (List Int) := (List.range K).map fun j => evn rho t i j
theorem rowP_succ (rho : List Int) (t : Bool) (j i : Nat) : rowP rho t (j + 1) i = rowP rho t j i ++ [evn rho t i j] := by unfold rowP; rw [List.range_succ, List.map_append]; rfl
theorem rowP_len (rho : List Int) (t : Bool) (K i : Nat) : (rowP rho t K i).length = K := by unfold rowP; rw [List.length_map, List.length_range]
theorem rowP_poly (rho : List Int) (t : Bool) (K i : Nat) : ∀ f ∈ rowP rho t K i, Poly f := fun f hf => by
  obtain ⟨j, _, rfl⟩ := List.mem_map.1 hf
  exact evn_poly _ _ _ _
theorem even_l1 (rho : List Int) (hr : rho.length = 32) (t : Bool) (K : Nat) (hK : K ≤ 100) (x7 : List (List (List Int))) (h7 : x7.length ≤ 100) (i : Nat) (hi : i < 100) (a b c d : Int) : ∀ (m j k : Nat), j + m = K →
    pke_even.l1 (k + m + 1) rho t x7 (i : Int) (rowP rho t j i) (K : Int) (i : Int) (K : Int) (j : Int) (K : Int) a b c d = pke_even.l0 k rho t (x7 ++ [rowP rho t K i]) (K : Int) ((i + 1 : Nat) : Int) (K : Int) a b c d := by
  intro m
  induction m with
  | zero =>
    intro j k h
    rw [pke_even.l1, if_neg (by omega), if_pos (by omega), nx_ i (by omega), show j = K by omega]
  | succ m ih =>
    intro j k h
    rw [show k + (m + 1) + 1 = (k + m + 1) + 1 by omega, pke_even.l1, if_pos (by omega), nx_ j (by omega)]
    have hl := rowP_len rho t j i
    have hs := rowP_succ rho t j i
    cases t with
    | true =>
      rw [if_pos rfl, draw_Even.f, if_pos hr]
      refine Eq.trans (bnd rfl (ifp (by omega) rfl)) ?_
      rw [← ih (j + 1) k (by omega), hs]
      rfl
    | false =>
      rw [if_neg (by decide), draw_Even.f, if_pos hr]
      refine Eq.trans (bnd rfl (ifp (by omega) rfl)) ?_
      rw [← ih (j + 1) k (by omega), hs]
      rfl
def matP (rho : List Int) (t : Bool) (K n : Nat) : List (List (List Int)) := (List.range n).map fun i => rowP rho t K i
theorem matP_len (rho : List Int) (t : Bool) (K n : Nat) : (matP rho t K n).length = n := by unfold matP; rw [List.length_map, List.length_range]
theorem even_l0 (rho : List Int) (hr : rho.length = 32) (t : Bool) (K : Nat) (hK : K ≤ 99) (a b c d : Int) : ∀ (m i k : Nat), i + m = K → m * 102 < k →
    pke_even.l0 k rho t (matP rho t K i) (K : Int) (i : Int) (K : Int) a b c d = some (matP rho t K K) := by
  intro m
  induction m with
  | zero =>
    intro i k h hk
    obtain ⟨k, rfl⟩ : ∃ q, k = q + 1 := ⟨k - 1, by omega⟩
    rw [pke_even.l0, if_neg (by omega), show i = K by omega]
  | succ m ih =>
    intro i k h hk
    obtain ⟨k, rfl⟩ : ∃ q, k = q + K + 1 + 1 := ⟨k - K - 2, by omega⟩
    rw [pke_even.l0, if_pos (by omega)]
    have h1 := even_l1 rho hr t K (by omega) (matP rho t K i) (by rw [matP_len]; omega) i (by omega) a b c d K 0 k (by omega)
    refine Eq.trans h1 ?_
    have : matP rho t K i ++ [rowP rho t K i] = matP rho t K (i + 1) := by unfold matP; rw [List.range_succ, List.map_append]; rfl
    rw [this]
    exact ih (i + 1) k (by omega) (by omega)
theorem even_ok (k : Nat) (rho : List Int) (hr : rho.length = 32) (t : Bool) (K : Nat) (hK : K ≤ 50) (a b c d : Int) (hk : 6000 ≤ k) : pke_even.f k (K : Int) a b c d rho t = some (matP rho t K K) := by
  rw [pke_even.f]
  exact even_l0 rho hr t K (by omega) a b c d K 0 k (by omega) (by omega)
end Go.Proofs.YtkdfcgihgndnnaaDoor.PkeB
end
section
/- What pke's functions compute, in plain terms: Dot, lay, Keys, read, May. -/
namespace Go.Proofs.YtkdfcgihgndnnaaDoor.PkeB
open Go.RowKit Go.Proofs.YtkdfcgihgndnnaaDoor.PPA Go.Proofs.YtkdfcgihgndnnaaDoor.PolyB Go.Proofs.YtkdfcgihgndnnaaDoor.Pm Go.Proofs.YtkdfcgihgndnnaaDoorW.PrintWords Go.Proofs.YtkdfcgihgndnnaaDoorW.PrintLast Go.Proofs.YtkdfcgihgndnnaaDoorW.PrintMore

/-! ### poly.Dot -/
def addP (f g : List Int) : List Int := ofN fun n => (at_ f n + at_ g n) % 3329
def timP (f g : List Int) : List Int := ofN (tim (at_ f) (at_ g))
theorem addP_poly (f g : List Int) : Poly (addP f g) := poly_ofN fun _ _ => em _
theorem timP_poly (f g : List Int) : Poly (timP f g) := poly_ofN fun n _ => tim_bd _ _ n
/-- A sum of products. -/
def dotS (fs gs : List (List Int)) : Nat → List Int
  | 0 => List.replicate 256 0
  | i + 1 => addP (dotS fs gs i) (timP (fs.getD i []) (gs.getD i []))
theorem dotS_poly (fs gs : List (List Int)) : ∀ i, Poly (dotS fs gs i)
  | 0 => poly_zeros
  | _ + 1 => addP_poly _ _
def dotP (fs gs : List (List Int)) : List Int := dotS fs gs fs.length
theorem dotP_poly (fs gs : List (List Int)) : Poly (dotP fs gs) := dotS_poly _ _ _
theorem pdot_l0 (fs gs : List (List Int)) (hl : fs.length = gs.length) (hn : fs.length ≤ 100) (hf : ∀ f ∈ fs, Poly f) (hg : ∀ g ∈ gs, Poly g) : ∀ (m i k : Nat), i + m = fs.length → 6000 + m ≤ k →
    poly_Dot.l0 k fs gs (dotS fs gs i) (fs.length : Int) (i : Int) = some (dotP fs gs) := by
  intro m
  induction m with
  | zero =>
    intro i k h hk
    obtain ⟨k, rfl⟩ : ∃ q, k = q + 1 := ⟨k - 1, by omega⟩
    rw [poly_Dot.l0, if_neg (by omega), dotP, show i = fs.length by omega]
  | succ m ih =>
    intro i k h hk
    obtain ⟨k, rfl⟩ : ∃ q, k = q + 1 := ⟨k - 1, by omega⟩
    have h1 : i < fs.length := by omega
    have h2 : i < gs.length := by omega
    have hr1 : rd_L3 fs (i : Int) = fs.getD i [] := by unfold rd_L3; rw [Int.toNat_natCast]
    have hr2 : rd_L3 gs (i : Int) = gs.getD i [] := by unfold rd_L3; rw [Int.toNat_natCast]
    have p1 : Poly (fs.getD i []) := by rw [getD_mem _ _ _ h1]; exact hf _ (List.getElem_mem h1)
    have p2 : Poly (gs.getD i []) := by rw [getD_mem _ _ _ h2]; exact hg _ (List.getElem_mem h2)
    rw [poly_Dot.l0, nx_ i (by omega), hr1, hr2]
    exact ifp (by omega) (ifp (by omega) (ifp (by omega) (ifp (by omega) (bnd (times_eq k _ _ p1 p2 (by omega)) (bnd (padd_eq k _ _ (dotS_poly fs gs i) (timP_poly _ _) (by omega)) (ih (i + 1) k (by omega) (by omega)))))))
theorem pdot_ok (k : Nat) (fs gs : List (List Int)) (hl : fs.length = gs.length) (h0 : 0 < fs.length) (hn : fs.length ≤ 100) (hf : ∀ f ∈ fs, Poly f) (hg : ∀ g ∈ gs, Poly g) (hk : 6200 ≤ k) : poly_Dot.f k fs gs = some (dotP fs gs) := by
  obtain ⟨k, rfl⟩ : ∃ q, k = q + 1 := ⟨k - 1, by omega⟩
  rw [poly_Dot.f]
  refine ifp (by omega) ?_
  rw [poly_Dot.j0, if_neg (fun h => by have := beq_iff_eq.mp h; omega)]
  exact ifp (by decide) (pdot_l0 fs gs hl hn hf hg fs.length 0 k (by omega) (by omega))
/-! ### pke.lay -/
def layF (f : List Int) : List Int := PackA.digs 384 (PackA.val 12 f)
def layP (fs : List (List Int)) : List Int := fs.flatMap layF
theorem layF_len (f : List Int) : (layF f).length = 384 := PackA.digs_len _ _
theorem layP_len (fs : List (List Int)) : (layP fs).length = 384 * fs.length := by
  unfold layP
  induction fs with
  | nil => rfl
  | cons f r ih => rw [List.flatMap_cons, List.length_append, ih, layF_len, List.length_cons]; omega
theorem fit_bytes {b : List Int} (h : PackA.fit 8 b) : ∀ x ∈ b, 0 ≤ x ∧ x < 256 := fun x hx => by
  have := h x hx
  exact ⟨this.1, by have := this.2; omega⟩
theorem layF_B (f : List Int) : PackA.fit 8 (layF f) := PackA.digs_fit _ _
theorem layP_B (fs : List (List Int)) : PackA.fit 8 (layP fs) := fun x hx => by
  obtain ⟨f, _, h⟩ := List.mem_flatMap.1 hx
  exact layF_B f x h
theorem poly_mem {f : List Int} (h : Poly f) : ∀ x ∈ f, 0 ≤ x ∧ x < 3329 := fun x hx => by
  obtain ⟨i, hi, rfl⟩ := List.getElem_of_mem hx
  have := h.2 i (by have := h.1; omega)
  unfold at_ at this
  rwa [getD_mem _ _ _ hi] at this
theorem poly_of {f : List Int} (h : f.length = 256) (hx : ∀ x ∈ f, 0 ≤ x ∧ x < 3329) : Poly f := ⟨h, fun n hn => by
  unfold at_
  rw [getD_mem _ _ _ (by omega)]
  exact hx _ (List.getElem_mem _)⟩
theorem poly_fit {f : List Int} (h : Poly f) : PackA.fit 12 f := fun x hx => by
  have := poly_mem h x hx
  exact ⟨this.1, by show x < 4096; omega⟩
theorem pack12 (k : Nat) (f : List Int) (h : Poly f) (hk : 2000 ≤ k) : bits_Pack.f k 12 f = some (layF f) := by
  have := PackA.pack_ok k 12 (by decide) (by decide) f (poly_fit h) (by have := h.1; omega) (by have := h.1; omega)
  rw [h.1] at this
  exact this
theorem powg (n m : Nat) (hn : 8 * n = m) {v : Nat} (h : v < 2 ^ m) : v < 256 ^ n := by
  rw [show (256 : Nat) = 2 ^ 8 from rfl, ← Nat.pow_mul, hn]
  exact h
theorem unp_layF (f : List Int) (h : Poly f) : PackA.unp 12 256 (PackA.val 8 (layF f)) = f := by
  have hv := PackA.val_lt 12 f (poly_fit h)
  rw [h.1] at hv
  unfold layF
  rw [PackA.val_digs _ _ (powg 384 (12 * 256) (by omega) hv)]
  have := PackA.unp_val 12 f (poly_fit h)
  rwa [h.1] at this
theorem play_l0 (fs : List (List Int)) (hp : ∀ f ∈ fs, Poly f) (hn : fs.length ≤ 100) : ∀ (m i k : Nat), i + m = fs.length → 3000 + m ≤ k → pke_lay.l0 k (layP (fs.take i)) fs (fs.length : Int) (i : Int) = some (layP fs) := by
  intro m
  induction m with
  | zero =>
    intro i k h hk
    obtain ⟨k, rfl⟩ : ∃ q, k = q + 1 := ⟨k - 1, by omega⟩
    rw [pke_lay.l0, if_neg (by omega), List.take_of_length_le (by omega)]
  | succ m ih =>
    intro i k h hk
    obtain ⟨k, rfl⟩ : ∃ q, k = q + 1 := ⟨k - 1, by omega⟩
    have hi : i < fs.length := by omega
    have hr : rd_L3 fs (i : Int) = fs[i] := by unfold rd_L3; rw [Int.toNat_natCast, getD_mem _ _ _ hi]
    have hl := layP_len (fs.take i)
    rw [List.length_take] at hl
    have hf := layF_len fs[i]
    have hs : layP (fs.take (i + 1)) = layP (fs.take i) ++ layF fs[i] := by unfold layP; rw [List.take_succ_eq_append_getElem hi, List.flatMap_append]; simp
    rw [pke_lay.l0, nx_ i (by omega), hr]
    refine ifp (by omega) (ifp (by omega) (ifp (by omega) (bnd (pack12 k _ (hp _ (List.getElem_mem hi)) (by omega)) (ifp (by omega) ?_))))
    rw [← hs]
    exact ih (i + 1) k (by omega) (by omega)
theorem play_ok (k : Nat) (fs : List (List Int)) (hp : ∀ f ∈ fs, Poly f) (hn : fs.length ≤ 100) (hk : 3200 ≤ k) : pke_lay.f k fs = some (layP fs) := by
  rw [pke_lay.f]
  exact play_l0 fs hp hn fs.length 0 k (by omega) (by omega)
/-! ### pke.Keys -/
/-- A set's numbers. -/
structure Par (s : Nat) (K e1 e2 du dv : Nat) : Prop where
  of : pke_Of.f (s : Int) = some ((K : Int), (e1 : Int), (e2 : Int), (du : Int), (dv : Int), true)
  K : 2 ≤ K ∧ K ≤ 4
  e1 : e1 = 2 ∨ e1 = 3
  e2 : e2 = 2
  du : du = 10 ∨ du = 11
  dv : dv = 4 ∨ dv = 5
theorem par1 : Par 1 2 3 2 10 4 := ⟨rfl, by decide, by decide, rfl, by decide, by decide⟩
theorem par2 : Par 2 3 2 2 10 4 := ⟨rfl, by decide, by decide, rfl, by decide, by decide⟩
theorem par3 : Par 3 4 2 2 11 5 := ⟨rfl, by decide, by decide, rfl, by decide, by decide⟩
def both (K : Nat) (d : List Int) : List Int := PPK.hash 72 6 64 (d ++ [(K : Int)])
def rhoP (K : Nat) (d : List Int) : List Int := (both K d).take 32
def sigP (K : Nat) (d : List Int) : List Int := (both K d).drop 32
theorem both_len (K : Nat) (d : List Int) : (both K d).length = 64 := PPK.hash_len _ _ _ (by decide) _
theorem rho_len (K : Nat) (d : List Int) : (rhoP K d).length = 32 := by unfold rhoP; rw [List.length_take, both_len]; rfl
theorem sig_len (K : Nat) (d : List Int) : (sigP K d).length = 32 := by unfold sigP; rw [List.length_drop, both_len]
theorem rho_B (K : Nat) (d : List Int) : ∀ x ∈ rhoP K d, 0 ≤ x ∧ x < 256 := fun x hx => PPK.hash_B _ _ _ _ x (List.mem_of_mem_take hx)
theorem sha_ok (a : List Int) (x : Int) (ha : a.length < 1000000) : sponge_Sha512.f [a, [x]] = some (PPK.hash 72 6 64 (a ++ [x])) := by
  unfold sponge_Sha512.f
  refine ifp ⟨by simp, fun y hy => ?_⟩ ?_
  · rcases List.mem_cons.mp hy with rfl | hy
    · exact ha
    · rw [List.mem_singleton.mp hy]; simp
  · rw [show [a, [x]].flatten = a ++ [x] by simp]
def sP (K e1 : Nat) (d : List Int) : List (List Int) := (leanP e1 (sigP K d) 0 K).map overP
def eP (K e1 : Nat) (d : List Int) : List (List Int) := (leanP e1 (sigP K d) K K).map overP
def tS (K e1 : Nat) (d : List Int) (i : Nat) : List (List Int) := (List.range i).map fun i => addP (dotP (rowP (rhoP K d) false K i) (sP K e1 d)) ((eP K e1 d).getD i [])
theorem tS_poly (K e1 : Nat) (d : List Int) (i : Nat) : ∀ f ∈ tS K e1 d i, Poly f := fun f hf => by
  obtain ⟨j, _, rfl⟩ := List.mem_map.1 hf
  exact addP_poly _ _
theorem tS_len (K e1 : Nat) (d : List Int) (i : Nat) : (tS K e1 d i).length = i := by unfold tS; rw [List.length_map, List.length_range]
theorem sP_len (K e1 : Nat) (d : List Int) : (sP K e1 d).length = K := by unfold sP; rw [List.length_map, leanP_len]
theorem eP_len (K e1 : Nat) (d : List Int) : (eP K e1 d).length = K := by unfold eP; rw [List.length_map, leanP_len]
theorem sP_poly (K e1 : Nat) (d : List Int) : ∀ f ∈ sP K e1 d, Poly f := overs_poly _
theorem eP_poly (K e1 : Nat) (d : List Int) : ∀ f ∈ eP K e1 d, Poly f := overs_poly _
/-- The sealing key, the opening key. -/
def pubP (K e1 : Nat) (d : List Int) : List Int := layP (tS K e1 d K) ++ rhoP K d
def prvP (K e1 : Nat) (d : List Int) : List Int := layP (sP K e1 d)
theorem keys_l0 (K e1 : Nat) (hK : 2 ≤ K ∧ K ≤ 4) (d : List Int) : ∀ (m i k : Nat), i + m = K → 7000 + m ≤ k →
    pke_Keys.l0 k (rhoP K d) (sP K e1 d) (eP K e1 d) (tS K e1 d i) (matP (rhoP K d) false K K) (K : Int) (i : Int) = some (pubP K e1 d, prvP K e1 d, []) := by
  intro m
  induction m with
  | zero =>
    intro i k h hk
    obtain ⟨k, rfl⟩ : ∃ q, k = q + 1 := ⟨k - 1, by omega⟩
    have h1 := layP_len (tS K e1 d K)
    rw [tS_len] at h1
    rw [pke_Keys.l0, if_neg (by omega), show i = K by omega]
    refine bnd (play_ok k _ (tS_poly K e1 d K) (by rw [tS_len]; omega) (by omega)) (ifp (by rw [rho_len]; omega) (bnd (play_ok k _ (sP_poly K e1 d) (by rw [sP_len]; omega) (by omega)) rfl))
  | succ m ih =>
    intro i k h hk
    obtain ⟨k, rfl⟩ : ∃ q, k = q + 1 := ⟨k - 1, by omega⟩
    have hi : i < K := by omega
    have hr : rd_L6 (matP (rhoP K d) false K K) (i : Int) = rowP (rhoP K d) false K i := by
      unfold rd_L6 matP
      rw [Int.toNat_natCast, getD_mem _ _ _ (by rw [List.length_map, List.length_range]; exact hi)]
      simp
    have hr2 : rd_L3 (eP K e1 d) (i : Int) = (eP K e1 d).getD i [] := by unfold rd_L3; rw [Int.toNat_natCast]
    have hp2 : Poly ((eP K e1 d).getD i []) := by rw [getD_mem _ _ _ (by rw [eP_len]; exact hi)]; exact eP_poly _ _ _ _ (List.getElem_mem _)
    have hs : tS K e1 d i ++ [addP (dotP (rowP (rhoP K d) false K i) (sP K e1 d)) ((eP K e1 d).getD i [])] = tS K e1 d (i + 1) := by unfold tS; rw [List.range_succ, List.map_append]; rfl
    rw [pke_Keys.l0, nx_ i (by omega), hr, hr2, matP_len, eP_len, tS_len]
    refine ifp (by omega) (ifp (by omega) (ifp (by omega) (bnd (pdot_ok k _ _ (by rw [rowP_len, sP_len]) (by rw [rowP_len]; omega) (by rw [rowP_len]; omega) (rowP_poly _ _ _ _) (sP_poly _ _ _) (by omega)) (ifp (by omega) (bnd (padd_eq k _ _ (dotP_poly _ _) hp2 (by omega)) (ifp (by omega) ?_))))))
    have := ih (i + 1) k (by omega) (by omega)
    rw [← hs] at this
    exact this
theorem keys_ok {s K e1 e2 du dv : Nat} (hp : Par s K e1 e2 du dv) (k : Nat) (d : List Int) (hd : d.length = 32) (hk : 10000 ≤ k) : pke_Keys.f k (s : Int) d = some (pubP K e1 d, prvP K e1 d, []) := by
  have hK := hp.K
  rw [pke_Keys.f]
  refine bnd hp.of ?_
  dsimp only
  have h2 : ((K : Int)) % 256 = (K : Int) := by omega
  rw [if_pos rfl, h2]
  refine ifp (by omega) (bnd (sha_ok d K (by omega)) (ifp (by rw [PPK.hash_len _ _ _ (by decide)]; decide) (bnd rfl (bnd rfl ?_))))
  have l1 := plean_ok k e1 hp.e1 (sigP K d) (sig_len K d) 0 K (by omega) (by omega) (by omega)
  have l2 := plean_ok k e1 hp.e1 (sigP K d) (sig_len K d) K K (by omega) (by omega) (by omega)
  have o1 := pover_ok k _ (leanP_poly e1 (sigP K d) 0 K) (by rw [leanP_len]; omega) (by omega)
  have o2 := pover_ok k _ (leanP_poly e1 (sigP K d) K K) (by rw [leanP_len]; omega) (by omega)
  refine bnd l1 (bnd o1 (bnd l2 (bnd o2 (bnd (even_ok k (rhoP K d) (rho_len K d) false K (by omega) _ _ _ _ (by omega)) ?_))))
  rw [matP_len]
  exact keys_l0 K e1 hK d K 0 k (by omega) (by omega)
/-! ### pke.read, pke.May -/
def partP (b : List Int) (q j : Nat) : List Int := (b.take ((j + 1) * q)).drop (j * q)
theorem partP_len (b : List Int) (q j : Nat) (h : (j + 1) * q ≤ b.length) : (partP b q j).length = q := by
  unfold partP
  rw [List.length_drop, List.length_take, Nat.min_eq_left h, Nat.succ_mul]
  omega
theorem partP_B (b : List Int) (q j : Nat) (hb : ∀ x ∈ b, 0 ≤ x ∧ x < 256) : ∀ x ∈ partP b q j, 0 ≤ x ∧ x < 256 := fun x hx => hb x (List.mem_of_mem_take (List.mem_of_mem_drop hx))
def pB (f : List Int) : Bool := f.length == 256 && f.all fun x => decide (0 ≤ x ∧ x < 3329)
theorem pB_iff {f : List Int} : pB f = true ↔ Poly f := by
  unfold pB
  rw [Bool.and_eq_true, beq_iff_eq, List.all_eq_true]
  exact ⟨fun h => poly_of h.1 fun x hx => of_decide_eq_true (h.2 x hx), fun h => ⟨h.1, fun x hx => decide_eq_true (poly_mem h x hx)⟩⟩
theorem pB_yes {f : List Int} (h : Poly f) : pB f = true := pB_iff.2 h
theorem pB_no {f : List Int} (h : ¬ Poly f) : pB f = false := Bool.eq_false_iff.2 fun c => h (pB_iff.1 c)
theorem may_pB (k : Nat) (f : List Int) (hk : 300 ≤ k) : poly_May.f k f = some (pB f) := by
  by_cases h : Poly f
  · rw [may_yes k f h hk, pB_yes h]
  · rw [may_no k f h hk, pB_no h]
/-- The numbers of the j-th part. -/
def numsP (d : Nat) (b : List Int) (j : Nat) : List Int := PackA.unp d 256 (PackA.val 8 (partP b (32 * d) j))
theorem unpack_part (k d : Nat) (hd : 1 ≤ d ∧ d ≤ 24) (b : List Int) (hb : ∀ x ∈ b, 0 ≤ x ∧ x < 256) (j : Nat) (h : (j + 1) * (32 * d) ≤ b.length) (hk : 40000 ≤ k) : bits_Unpack.f k (d : Int) (partP b (32 * d) j) = some (numsP d b j) := by
  have hl := partP_len b (32 * d) j h
  have := PackA.unpack_ok k d hd.1 hd.2 (partP b (32 * d) j) (partP_B b _ j hb) (by omega) (by omega)
  rw [hl, show 8 * (32 * d) = 256 * d by omega, Nat.mul_div_cancel _ (by omega)] at this
  exact this
theorem pks_ok (d : Nat) (hd : 1 ≤ d ∧ d ≤ 24) (b : List Int) (hb : ∀ x ∈ b, 0 ≤ x ∧ x < 256) (k : Nat) (hk : 40000 ≤ k) : ∀ m j, (j + m) * (32 * d) ≤ b.length → pke_read.pks k (d : Int) b (32 * d) m j = some ((List.range' j m).map fun j => (numsP d b j, if d = 12 then pB (numsP d b j) else true))
  | 0, j, _ => rfl
  | m + 1, j, h => by
    have h1 : (j + 1) * (32 * d) ≤ b.length := Nat.le_trans (Nat.mul_le_mul_right _ (by omega)) h
    have hu : pke_read.un k (d : Int) (partP b (32 * d) j) = some (numsP d b j, if d = 12 then pB (numsP d b j) else true) := by
      unfold pke_read.un
      refine bnd (unpack_part k d hd b hb j h1 hk) ?_
      by_cases c : d = 12
      · rw [if_pos (by omega), if_pos c]
        exact bnd (may_pB k _ (by omega)) rfl
      · rw [if_neg (by omega), if_neg c]
    rw [pke_read.pks]
    exact bnd hu (bnd (pks_ok d hd b hb k hk m (j + 1) (by rw [show j + 1 + m = j + (m + 1) by omega]; exact h)) rfl)
def readP (d : Nat) (b : List Int) (n : Nat) : List (List Int) × Bool :=
  if ((List.range n).all fun j => if d = 12 then pB (numsP d b j) else true) = true then ((List.range n).map (numsP d b), true) else ([], false)
theorem read_ok (k d : Nat) (hd : 1 ≤ d ∧ d ≤ 24) (n : Nat) (hn : n ≤ 100) (b : List Int) (hb : ∀ x ∈ b, 0 ≤ x ∧ x < 256) (h : n * (32 * d) ≤ b.length) (hk : 40000 ≤ k) : pke_read.f k (d : Int) (n : Int) b = some (readP d b n) := by
  unfold pke_read.f
  rw [Int.toNat_natCast, Int.toNat_natCast]
  refine ifp ⟨by omega, by omega, h⟩ (bnd (pks_ok d hd b hb k hk n 0 (by rw [Nat.zero_add]; exact h)) ?_)
  rw [← List.range_eq_range', List.map_map, List.all_map]
  rfl
/-- What was laid is read. -/
theorem part_layP (fs : List (List Int)) (r : List Int) (j : Nat) (h : j < fs.length) : partP (layP fs ++ r) 384 j = layF fs[j] := by
  induction fs generalizing j with
  | nil => simp at h
  | cons f t ih =>
    have hf := layF_len f
    have e : layP (f :: t) ++ r = layF f ++ (layP t ++ r) := by unfold layP; rw [List.flatMap_cons, List.append_assoc]
    rw [e]
    unfold partP
    cases j with
    | zero =>
      rw [Nat.zero_mul, List.drop_zero, Nat.zero_add, Nat.one_mul, List.take_left' hf]
      rfl
    | succ j =>
      have := ih j (by simpa using h)
      unfold partP at this
      rw [List.take_append, List.take_of_length_le (by omega), hf, List.drop_append, List.drop_of_length_le (by omega), hf, List.nil_append, show (j + 1 + 1) * 384 - 384 = (j + 1) * 384 by omega, show (j + 1) * 384 - 384 = j * 384 by omega, this]
      rfl
theorem nums_layP (fs : List (List Int)) (hp : ∀ f ∈ fs, Poly f) (r : List Int) (j : Nat) (h : j < fs.length) : numsP 12 (layP fs ++ r) j = fs[j] := by
  unfold numsP
  rw [part_layP fs r j h, unp_layF _ (hp _ (List.getElem_mem h))]
theorem read_layP (fs : List (List Int)) (hp : ∀ f ∈ fs, Poly f) (r : List Int) : readP 12 (layP fs ++ r) fs.length = (fs, true) := by
  unfold readP
  rw [if_pos]
  · congr 1
    refine List.ext_getElem (by rw [List.length_map, List.length_range]) fun i h1 h2 => ?_
    rw [List.getElem_map, List.getElem_range, nums_layP fs hp r i h2]
  · rw [List.all_eq_true]
    intro j hj
    rw [if_pos rfl, nums_layP fs hp r j (List.mem_range.1 hj)]
    exact pB_yes (hp _ (List.getElem_mem _))
theorem sizes_ok {s K e1 e2 du dv : Nat} (hp : Par s K e1 e2 du dv) : pke_Sizes.f (s : Int) = some (((384 * K + 32 : Nat) : Int), ((384 * K : Nat) : Int), ((32 * (du * K + dv) : Nat) : Int)) := by
  have hK := hp.K
  have hdu := hp.du
  have hdv := hp.dv
  rw [pke_Sizes.f]
  refine bnd hp.of ?_
  dsimp only
  rw [if_pos rfl]
  have hm : du * K ≤ 11 * 4 := Nat.mul_le_mul (by omega) (by omega)
  have w1 : wrap64 (384 * (K : Int)) = ((384 * K : Nat) : Int) := by rw [w64 (by omega) (by omega)]; omega
  have w2 : wrap64 ((du : Int) * (K : Int)) = ((du * K : Nat) : Int) := by
    rw [← Int.natCast_mul, w64 (by omega) (by omega)]
  generalize du * K = z at w2 hm
  rw [w1, w2, w64 (n := (z : Int) + dv) (by omega) (by omega), w64 (by omega) (by omega), w64 (by omega) (by omega)]
  congr 2
theorem pmay_ok {s K e1 e2 du dv : Nat} (hp : Par s K e1 e2 du dv) (k : Nat) (b : List Int) (hb : ∀ x ∈ b, 0 ≤ x ∧ x < 256) (hk : 40000 ≤ k) : pke_May.f k (s : Int) b = some (if b.length = 384 * K + 32 then (if (readP 12 b K).2 = true then [] else [⟨4, ⟨#[112, 107, 101]⟩⟩]) else [⟨3, ⟨#[112, 107, 101]⟩⟩]) := by
  have hK := hp.K
  rw [pke_May.f]
  refine bnd hp.of ?_
  dsimp only
  rw [if_pos rfl]
  refine bnd (sizes_ok hp) ?_
  dsimp only
  by_cases c : b.length = 384 * K + 32
  · rw [if_pos (by omega), if_pos c]
    refine bnd (read_ok k 12 (by decide) K (by omega) b hb (by omega) hk) ?_
    by_cases c2 : (readP 12 b K).2 = true
    · rw [if_pos c2, if_pos c2]
    · rw [if_neg c2, if_neg c2]
      rfl
  · rw [if_neg (by omega), if_neg c]
    rfl
end Go.Proofs.YtkdfcgihgndnnaaDoor.PkeB
end
section
/- Chapter 7's law: what awake answers, what full makes. -/
namespace Go.Proofs.YtkdfcgihgndnnaaDoor.PkeB
open Go.RowKit Go.Proofs.YtkdfcgihgndnnaaDoor.PPA Go.Proofs.YtkdfcgihgndnnaaDoor.PolyB Go.Proofs.YtkdfcgihgndnnaaDoor.Pm Go.Proofs.YtkdfcgihgndnnaaDoorW.PrintWords Go.Proofs.YtkdfcgihgndnnaaDoorW.PrintLast Go.Proofs.YtkdfcgihgndnnaaDoorW.PrintMore
theorem awake7 (k : Nat) (hk : 50000 ≤ k) : chatelainelaw7_awake.f k = some true := by
  have h1 : pke_Keys.f k 4 (List.replicate 32 0) = some ([], [], [⟨2, ⟨#[112, 107, 101]⟩⟩]) := by
    rw [pke_Keys.f]
    exact bnd (x := (0, 0, 0, 0, 0, false)) rfl rfl
  have h2 : pke_Seal.f k 1 [] [] [] = some ([], [⟨3, ⟨#[112, 107, 101]⟩⟩]) := by
    rw [pke_Seal.f]
    exact bnd (pmay_ok par1 k [] (fun x hx => by simp at hx) (by omega)) rfl
  rw [chatelainelaw7_awake.f]
  refine bnd (sizes_ok par1) (ifp (by decide) (bnd h1 (bnd h2 ?_)))
  rfl
theorem full_l0 (l : List Int) (hl : l.length ≤ 100) (n : Nat) : ∀ (m i k : Nat) (out : List Int), i + m = 32 → out.length = 32 → (∀ x ∈ out, 0 ≤ x ∧ x < 256) → m < k →
    ∃ r, chatelainelaw7_full.l0 k l (n : Int) out (i : Int) = some r ∧ r.length = 32 ∧ ∀ x ∈ r, 0 ≤ x ∧ x < 256 := by
  intro m
  induction m with
  | zero =>
    intro i k out h ho hb hk
    obtain ⟨k, rfl⟩ : ∃ q, k = q + 1 := ⟨k - 1, by omega⟩
    exact ⟨out, by rw [chatelainelaw7_full.l0, if_neg (by omega)], ho, hb⟩
  | succ m ih =>
    intro i k out h ho hb hk
    obtain ⟨k, rfl⟩ : ∃ q, k = q + 1 := ⟨k - 1, by omega⟩
    have hset : ∀ (o : List Int) (v : Int), (∀ x ∈ o, 0 ≤ x ∧ x < 256) → 0 ≤ v ∧ v < 256 → ∀ x ∈ o.set i v, 0 ≤ x ∧ x < 256 := fun o v h1 h2 x hx => by
      rcases List.mem_or_eq_of_mem_set hx with h | h
      · exact h1 x h
      · rw [h]; exact h2
    have hm : ∀ z : Int, 0 ≤ z % 256 ∧ z % 256 < 256 := fun z => ⟨Int.emod_nonneg z (by decide), Int.emod_lt_of_pos z (by decide)⟩
    have b1 := hset out (wrap64 ((n : Int) + (i : Int)) % 256) hb (hm _)
    by_cases c : l.length = 0
    · obtain ⟨r, h1, h2⟩ := ih (i + 1) k (out.set i (wrap64 ((n : Int) + (i : Int)) % 256)) (by omega) (by rw [List.length_set]; exact ho) b1 (by omega)
      refine ⟨r, ?_, h2⟩
      rw [chatelainelaw7_full.l0, nx_ i (by omega), Int.toNat_natCast]
      exact ifp (by omega) (ifp (by omega) (ifp (by omega) (bnd rfl (ifn (by omega) h1))))
    · have hq : i % l.length < l.length := Nat.mod_lt _ (by omega)
      obtain ⟨q, hqq⟩ : ∃ q, q = i % l.length := ⟨_, rfl⟩
      rw [← hqq] at hq
      obtain ⟨r, h1, h2⟩ := ih (i + 1) k _ (by omega) (by rw [List.length_set, List.length_set]; exact ho) (hset _ ((rd (out.set i (wrap64 ((n : Int) + (i : Int)) % 256)) (i : Int) + rd l (q : Int)) % 256) b1 (hm _)) (by omega)
      refine ⟨r, ?_, h2⟩
      rw [chatelainelaw7_full.l0, nx_ i (by omega), Int.toNat_natCast, jmod, ← hqq]
      exact ifp (by omega) (ifp (by omega) (ifp (by omega) (bnd rfl (ifp (by omega) (ifn (by omega) (ifp (by omega) (ifp (by omega) h1)))))))
theorem full_ok (k : Nat) (l : List Int) (hl : l.length ≤ 100) (n : Nat) (hk : 100 ≤ k) : ∃ r, chatelainelaw7_full.f k l (n : Int) = some r ∧ r.length = 32 ∧ ∀ x ∈ r, 0 ≤ x ∧ x < 256 := by
  obtain ⟨r, h1, h2⟩ := full_l0 l hl n 32 0 k (List.replicate 32 0) (by omega) List.length_replicate (fun x hx => by rw [List.eq_of_mem_replicate hx]; decide) (by omega)
  exact ⟨r, by rw [chatelainelaw7_full.f]; exact ifp (by decide) h1, h2⟩
theorem nxB (i : Nat) (h : i < 10000000) : wrap64 ((i : Int) + 1) = ((i + 1 : Nat) : Int) := by rw [w64 (by omega) (by omega)]; rfl
theorem sameb_l0 (x y : List Int) (hl : x.length = y.length) (hx : x.length ≤ 1000000) : ∀ (m i k : Nat), i + m = x.length → x.drop i = y.drop i → m < k → chatelainelaw0_SameBytes.l0 k x y (i : Int) = some true := by
  intro m
  induction m with
  | zero =>
    intro i k h _ hk
    obtain ⟨k, rfl⟩ : ∃ q, k = q + 1 := ⟨k - 1, by omega⟩
    rw [chatelainelaw0_SameBytes.l0, if_neg (by omega)]
  | succ m ih =>
    intro i k h he hk
    obtain ⟨k, rfl⟩ : ∃ q, k = q + 1 := ⟨k - 1, by omega⟩
    have h1 : i < x.length := by omega
    have h2 : i < y.length := by omega
    rw [List.drop_eq_getElem_cons h1, List.drop_eq_getElem_cons h2] at he
    injection he with e1 e2
    have e3 : rd x (i : Int) = rd y (i : Int) := by
      unfold rd
      rw [Int.toNat_natCast, getD_mem _ _ _ h1, getD_mem _ _ _ h2]
      exact e1
    rw [chatelainelaw0_SameBytes.l0, nxB i (by omega)]
    exact ifp (by omega) (ifp (by omega) (ifp (by omega) (ifp e3 (ih (i + 1) k (by omega) e2 (by omega)))))
theorem sameb_yes (k : Nat) (x y : List Int) (h : x = y) (hx : x.length ≤ 1000000) (hk : x.length < k) : chatelainelaw0_SameBytes.f k x y = some true := by
  rw [chatelainelaw0_SameBytes.f]
  exact ifp (by rw [h]) (sameb_l0 x y (by rw [h]) hx x.length 0 k (by omega) (by rw [h]) hk)
end Go.Proofs.YtkdfcgihgndnnaaDoor.PkeB
end
section
namespace Go.Proofs.YtkdfcgihgndnnaaDoor.Pure
open Go.RowKit Go.Proofs.YtkdfcgihgndnnaaDoor.PPA Go.Proofs.YtkdfcgihgndnnaaDoor.PolyB Go.Proofs.YtkdfcgihgndnnaaDoor.Pm Go.Proofs.YtkdfcgihgndnnaaDoor.PkeB Go.Proofs.YtkdfcgihgndnnaaDoorW.PrintWords Go.Proofs.YtkdfcgihgndnnaaDoorW.PrintLast Go.Proofs.YtkdfcgihgndnnaaDoorW.PrintMore
theorem w384 (j : Nat) (h : j ≤ 100) : wrap64 (384 * (j : Int)) = ((384 * j : Nat) : Int) := by rw [w64 (by omega) (by omega)]; omega
theorem parts_l0 {s K e1 e2 du dv : Nat} (hp : Par s K e1 e2 du dv) (d : List Int) {s' K' e1' e2' du' dv' : Nat} (hp' : Par s' K' e1' e2' du' dv') (hne : K' ≠ K) (hs' : wrap64 (1 + Int.tmod (s : Int) 3) = (s' : Int)) (a b c g : Int) : ∀ (m i k : Nat), i + m = K → 60000 + m ≤ k →
    chatelainelaw7_PkeParts.l0 k (s : Int) (pubP K e1 d) (prvP K e1 d) (i : Int) (K : Int) a b c g = some true := by
  have hK := hp.K
  have hpl : (pubP K e1 d).length = 384 * K + 32 := by unfold pubP; rw [List.length_append, layP_len, tS_len, PkeB.rho_len]
  have hvl : (prvP K e1 d).length = 384 * K := by unfold prvP; rw [layP_len, sP_len]
  have hpB : ∀ x ∈ pubP K e1 d, 0 ≤ x ∧ x < 256 := fun x hx => by
    rcases List.mem_append.mp hx with h | h
    · exact fit_bytes (layP_B _) x h
    · exact rho_B K d x h
  have hvB : ∀ x ∈ prvP K e1 d, 0 ≤ x ∧ x < 256 := fit_bytes (layP_B _)
  intro m
  induction m with
  | zero =>
    intro i k h hk
    obtain ⟨k, rfl⟩ : ∃ q, k = q + 1 := ⟨k - 1, by omega⟩
    rw [chatelainelaw7_PkeParts.l0, if_neg (by omega), hs']
    have hr := read_layP (tS K e1 d K) (tS_poly K e1 d K) (rhoP K d)
    rw [tS_len] at hr
    have m1 := pmay_ok hp k (pubP K e1 d) hpB (by omega)
    rw [if_pos hpl, if_pos (by show (readP 12 (layP (tS K e1 d K) ++ rhoP K d) K).2 = true; rw [hr])] at m1
    have m2 := pmay_ok hp' k (pubP K e1 d) hpB (by omega)
    rw [if_neg (by rw [hpl]; omega)] at m2
    exact bnd m1 (ifp rfl (bnd m2 (ifn (by simp) (bnd (awake7 k (by omega)) rfl))))
  | succ m ih =>
    intro i k h hk
    obtain ⟨k, rfl⟩ : ∃ q, k = q + 1 := ⟨k - 1, by omega⟩
    have hi : i < K := by omega
    have t1 : (i + 1) * (32 * 12) ≤ (pubP K e1 d).length := by rw [hpl]; omega
    have t2 : (i + 1) * (32 * 12) ≤ (prvP K e1 d).length := by rw [hvl]; omega
    have u1 := unpack_part k 12 (by decide) _ hpB i t1 (by omega)
    have u2 := unpack_part k 12 (by decide) _ hvB i t2 (by omega)
    have n1 : numsP 12 (pubP K e1 d) i = (tS K e1 d K)[i]'(by rw [tS_len]; exact hi) := nums_layP _ (tS_poly K e1 d K) (rhoP K d) i (by rw [tS_len]; exact hi)
    have n2 : numsP 12 (prvP K e1 d) i = (sP K e1 d)[i]'(by rw [sP_len]; exact hi) := by
      have := nums_layP _ (sP_poly K e1 d) [] i (by rw [sP_len]; exact hi)
      rwa [List.append_nil] at this
    have p1 : Poly (numsP 12 (pubP K e1 d) i) := by rw [n1]; exact tS_poly K e1 d K _ (List.getElem_mem _)
    have p2 : Poly (numsP 12 (prvP K e1 d) i) := by rw [n2]; exact sP_poly K e1 d _ (List.getElem_mem _)
    have q1 : layF (numsP 12 (pubP K e1 d) i) = partP (pubP K e1 d) (32 * 12) i := by
      rw [n1]
      exact (part_layP (tS K e1 d K) (rhoP K d) i (by rw [tS_len]; exact hi)).symm
    have e0 : partP (pubP K e1 d) (32 * 12) i = ((pubP K e1 d).take (((384 * (i + 1) : Nat) : Int)).toNat).drop (((384 * i : Nat) : Int)).toNat := by
      unfold partP
      rw [Int.toNat_natCast, Int.toNat_natCast, Nat.mul_comm 384, Nat.mul_comm 384]
    have e1' : partP (prvP K e1 d) (32 * 12) i = ((prvP K e1 d).take (((384 * (i + 1) : Nat) : Int)).toNat).drop (((384 * i : Nat) : Int)).toNat := by
      unfold partP
      rw [Int.toNat_natCast, Int.toNat_natCast, Nat.mul_comm 384, Nat.mul_comm 384]
    rw [chatelainelaw7_PkeParts.l0, nx_ i (by omega), w384 i (by omega), w384 (i + 1) (by omega), ← e0, ← e1', hpl, hvl]
    refine ifp (by omega) (ifp (by omega) (ifp (by omega) (ifp (by omega) (bnd u1 (ifp (by omega) (bnd u2 (bnd (may_yes k _ p1 (by omega)) (ifp rfl (bnd (may_yes k _ p2 (by omega)) (ifp rfl (bnd (pack12 k _ p1 (by omega)) ?_)))))))))))
    exact bnd (sameb_yes k _ _ q1 (by rw [layF_len]; omega) (by rw [layF_len]; omega)) (ifp rfl (ih (i + 1) k (by omega) (by omega)))
theorem parts_main {s K e1 e2 du dv : Nat} (hp : Par s K e1 e2 du dv) (hs : s ≤ 3) (hKs : K = s + 1) {s' K' e1' e2' du' dv' : Nat} (hp' : Par s' K' e1' e2' du' dv') (hne : K' ≠ K) (hs' : wrap64 (1 + Int.tmod (s : Int) 3) = (s' : Int)) (a0 : Int) (l1 : List Int) (hl : l1.length ≤ 100)
    (u : Int) (hu : chatelainelaw0_Low.f a0 3 = some u) (hw : wrap64 (1 + u) = (s : Int)) : chatelainelaw7_PkeParts.f 100000 a0 l1 = some true := by
  have hK := hp.K
  obtain ⟨d, hd, hdl, hdB⟩ := full_ok 100000 l1 hl 2 (by omega)
  have hpl : (pubP K e1 d).length = 384 * K + 32 := by unfold pubP; rw [List.length_append, layP_len, tS_len, PkeB.rho_len]
  have hvl : (prvP K e1 d).length = 384 * K := by unfold prvP; rw [layP_len, sP_len]
  have w1 : wrap64 (1 + (s : Int)) = ((s + 1 : Nat) : Int) := by rw [w64 (by omega) (by omega)]; omega
  have key : chatelainelaw7_PkeParts.j0 100000 (s : Int) d (pubP K e1 d) (prvP K e1 d) ((384 * K + 32 : Nat) : Int) false (K : Int) (e1 : Int) (e2 : Int) (du : Int) (dv : Int) = some true := by
    rw [show (100000 : Nat) = 99999 + 1 from rfl, chatelainelaw7_PkeParts.j0, if_neg (by decide), show ((K : Int)) % 256 = (K : Int) by omega, w64 (n := ((384 * K + 32 : Nat) : Int) - 32) (by omega) (by omega), show ((384 * K + 32 : Nat) : Int) - 32 = ((384 * K : Nat) : Int) by omega, Int.toNat_natCast]
    have hb := both_len K d
    have e0 : (pubP K e1 d).drop (384 * K) = rhoP K d := by
      unfold pubP
      have := layP_len (tS K e1 d K)
      rw [tS_len] at this
      rw [List.drop_left' this]
    refine bnd (x := both K d) (sha_ok d K (by omega)) (ifp (by omega) (ifp (by omega) (ifp (by omega) (ifp (by omega) ?_))))
    rw [e0]
    refine bnd (sameb_yes 99999 _ _ rfl (by rw [PkeB.rho_len]; omega) (by rw [PkeB.rho_len]; omega)) ?_
    rw [show (99999 : Nat) = 99998 + 1 from rfl, chatelainelaw7_PkeParts.j1, if_neg (by decide)]
    exact parts_l0 hp d hp' hne hs' _ _ _ _ K 0 99998 (by omega) (by omega)
  rw [chatelainelaw7_PkeParts.f]
  refine ifn (by omega) (bnd hu (bnd hd ?_))
  rw [hw]
  refine bnd (keys_ok hp 100000 d hdl (by omega)) (bnd hp.of (bnd (sizes_ok hp) ?_))
  dsimp only
  rw [w1, w384 K (by omega), w64 (n := ((384 * K : Nat) : Int) + 32) (by omega) (by omega)]
  refine ifp rfl (ifp rfl (ifp (by omega) (ifp (by omega) (ifp rfl (ifp (by rw [hpl]) ?_)))))
  rw [hvl, show (((384 * K : Nat) : Int) != ((384 * K : Nat) : Int)) = false by simp]
  exact key
theorem PkeParts : chatelainelaw7_PkeParts.Pure := by
  intro a0 l1 ha _ hl hB
  by_cases c : 100 < l1.length
  · exact ⟨50000, by rw [chatelainelaw7_PkeParts.f]; exact ifp (by omega) (bnd (awake7 50000 (by omega)) rfl)⟩
  · obtain ⟨hu, h0, h3⟩ := low_eq a0 3 (by decide) (by decide)
    generalize IntKind.u64.wrap a0 % 3 = u at hu h0 h3
    refine ⟨100000, ?_⟩
    rcases (by omega : u = 0 ∨ u = 1 ∨ u = 2) with rfl | rfl | rfl
    · exact parts_main par1 (by omega) rfl par2 (by omega) (by rw [w64 (by decide) (by decide)]; rfl) a0 l1 (by omega) 0 hu (by rw [w64 (by decide) (by decide)]; rfl)
    · exact parts_main par2 (by omega) rfl par3 (by omega) (by rw [w64 (by decide) (by decide)]; rfl) a0 l1 (by omega) 1 hu (by rw [w64 (by decide) (by decide)]; rfl)
    · exact parts_main par3 (by omega) rfl par1 (by omega) (by rw [w64 (by decide) (by decide)]; rfl) a0 l1 (by omega) 2 hu (by rw [w64 (by decide) (by decide)]; rfl)
end Go.Proofs.YtkdfcgihgndnnaaDoor.Pure
end
section
/-
  What the row's one listed variable, errors.errorType, gives a walk: its cell; and a world that meets the condition.
-/
namespace Go.Proofs.YtkdfcgihgndnnaaDoor
open Go.ChangeShapes Go.WideShapes Go.RowKit

abbrev laidList : List (String × DataW Unit) := [("errors.errorType", Rows.laid_errors_errorType)]
theorem laid_et : Tryd.prog.globalNamed "errors.errorType" = some 0 := by kernel_rfl
theorem laid_rt : (Tryd.prog.cutTypes.find? (·.1 == "internal/reflectlite.rtype")).map (·.2) = some 115 := by kernel_rfl
theorem laid_one : ((List.range Tryd.prog.types.size).filter fun t => Tryd.prog.rowNamed t [101, 114, 114, 111, 114]) = [26] := by kernel_rfl
/-- WHAT THE CONDITION GIVES A WALK: the variable's one cell. -/
theorem handle_of_laid {W : World} (h : laidMetH Tryd.prog laidList W) : W.cell? ⟨0, 0, none⟩ = some (.iface 115 (.agg #[.pointer (some ⟨1, 26, none⟩)])) := by
  have h' : laidMet Tryd.prog [] W ∧ handlesMet Tryd.prog laidList W := h
  obtain ⟨name, u, ty, e1, e2, e3, e4, e5⟩ := h'.2 _ (List.mem_singleton.2 rfl)
  have en : name = [101, 114, 114, 111, 114] := (Option.some.inj e1).symm
  subst en
  obtain rfl := Option.some.inj (laid_rt.symm.trans e2)
  have hm : ty ∈ (List.range Tryd.prog.types.size).filter fun t => Tryd.prog.rowNamed t [101, 114, 114, 111, 114] := List.mem_filter.2 ⟨List.mem_range.2 e3, e4⟩
  rw [laid_one] at hm
  obtain rfl := List.mem_singleton.1 hm
  have hh : typeHandle Tryd.prog 26 = .pointer (some ⟨1, 26, none⟩) := by kernel_rfl
  rw [hh] at e5
  simpa using World.var?_cell laid_et e5 0
/-- A world that meets the condition: the settled one, the variable's cell laid. -/
noncomputable def laidWorld (os : Os) : World :=
  let w0 := World.holding Tryd.prog os ⟨#[], #[], []⟩
  { w0 with heap := w0.heap.modify 0 fun
      | .cells _ t frozen => .cells #[.iface 115 (.agg #[.pointer (some ⟨1, 26, none⟩)])] t frozen
      | o => o }
theorem laidWorld_met (os : Os) (args : Array Value) : laidMetH Tryd.prog laidList ((laidWorld os).forCall (fun _ _ => 0) ⟨#[], args, []⟩).memory :=
  laidMetH_of_parts (laidMet_nil _ _) (by kernel_rfl)
end Go.Proofs.YtkdfcgihgndnnaaDoor
end
