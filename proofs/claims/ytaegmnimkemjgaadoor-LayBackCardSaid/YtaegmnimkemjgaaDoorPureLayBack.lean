/- Numbers within bounds that were laid are told again. No condition. -/
import Derived.Test.YtaegmnimkemjgaaDoorPLayx13
import Derived.Test.YtaegmnimkemjgaaDoorPLayx14
import Derived.Test.YtaegmnimkemjgaaDoorPLayx15
import Derived.Test.YtaegmnimkemjgaaDoorPLayx2
import Derived.Test.YtaegmnimkemjgaaDoorPLayx3
import Derived.Test.YtaegmnimkemjgaaDoorPLayx4
import Derived.Test.YtaegmnimkemjgaaDoorPLayx5
import Derived.Test.YtaegmnimkemjgaaDoorPLayx8
import Derived.Test.YtaegmnimkemjgaaDoorPackMathB
namespace Go.Proofs.YtaegmnimkemjgaaDoor.Pure
open Go.RowKit Go.Proofs.YtaegmnimkemjgaaDoor.PLay Go.Proofs.YtaegmnimkemjgaaDoor.PackB Go.Proofs.YtaegmnimkemjgaaDoorW.PrintWords Go.Proofs.YtaegmnimkemjgaaDoorW.PrintLast Go.Proofs.YtaegmnimkemjgaaDoorW.PrintMore

theorem awake_yes : chatelainelaw11_awake.f 100000 = some true := by decide +kernel
theorem awake_yes2 : chatelainelaw11_awake.f 100257 = some true := by decide +kernel
/-! ### How many bits a number has -/
def lenTab : ByteArray := ⟨#[0, 1, 2, 2, 3, 3, 3, 3, 4, 4, 4, 4, 4, 4, 4, 4, 5, 5, 5, 5, 5, 5, 5, 5, 5, 5, 5, 5, 5, 5, 5, 5, 6, 6, 6, 6, 6, 6, 6, 6, 6, 6, 6, 6, 6, 6, 6, 6, 6, 6, 6, 6, 6, 6, 6, 6, 6, 6, 6, 6, 6, 6, 6, 6, 7, 7, 7, 7, 7, 7, 7, 7, 7, 7, 7, 7, 7, 7, 7, 7, 7, 7, 7, 7, 7, 7, 7, 7, 7, 7, 7, 7, 7, 7, 7, 7, 7, 7, 7, 7, 7, 7, 7, 7, 7, 7, 7, 7, 7, 7, 7, 7, 7, 7, 7, 7, 7, 7, 7, 7, 7, 7, 7, 7, 7, 7, 7, 7, 8, 8, 8, 8, 8, 8, 8, 8, 8, 8, 8, 8, 8, 8, 8, 8, 8, 8, 8, 8, 8, 8, 8, 8, 8, 8, 8, 8, 8, 8, 8, 8, 8, 8, 8, 8, 8, 8, 8, 8, 8, 8, 8, 8, 8, 8, 8, 8, 8, 8, 8, 8, 8, 8, 8, 8, 8, 8, 8, 8, 8, 8, 8, 8, 8, 8, 8, 8, 8, 8, 8, 8, 8, 8, 8, 8, 8, 8, 8, 8, 8, 8, 8, 8, 8, 8, 8, 8, 8, 8, 8, 8, 8, 8, 8, 8, 8, 8, 8, 8, 8, 8, 8, 8, 8, 8, 8, 8, 8, 8, 8, 8, 8, 8, 8, 8, 8, 8, 8, 8, 8, 8, 8, 8, 8, 8, 8, 8]⟩
theorem tab_ok : ∀ y : Fin 256, 0 < y.val → ∃ t : Fin 9, bt lenTab (y.val : Int) = (t.val : Int) ∧ 1 ≤ t.val ∧ y.val < 2 ^ t.val := by decide +kernel
theorem tab_is (y : Nat) (h : y < 256) (h0 : 0 < y) : ∃ t : Nat, bt lenTab (y : Int) = (t : Int) ∧ 1 ≤ t ∧ t ≤ 8 ∧ y < 2 ^ t := by
  obtain ⟨t, h1, h2, h3⟩ := tab_ok ⟨y, h⟩ h0
  exact ⟨t.val, h1, h2, by have := t.isLt; omega, h3⟩
theorem len_j0 (n : Nat) (h0 : 0 < n) (h1 : n < 16777216) : ∃ d : Nat, 1 ≤ d ∧ d ≤ 24 ∧ n < 2 ^ d ∧ ∀ k, bits_Len64.j0 (k + 1) (n : Int) 0 = some (d : Int) := by
  by_cases c : 65536 ≤ n
  · obtain ⟨t, e, t1, t2, t3⟩ := tab_is (n / 65536) (by omega) (by omega)
    refine ⟨16 + t, by omega, by omega, ?_, fun k => ?_⟩
    · rw [Nat.pow_add]
      omega
    · rw [bits_Len64.j0, if_pos (by omega), if_neg (by omega), if_pos (by omega), if_pos (by omega), show ((n : Int) / 65536) % 256 = ((n / 65536 : Nat) : Int) by omega]
      have e' : bt ⟨#[0, 1, 2, 2, 3, 3, 3, 3, 4, 4, 4, 4, 4, 4, 4, 4, 5, 5, 5, 5, 5, 5, 5, 5, 5, 5, 5, 5, 5, 5, 5, 5, 6, 6, 6, 6, 6, 6, 6, 6, 6, 6, 6, 6, 6, 6, 6, 6, 6, 6, 6, 6, 6, 6, 6, 6, 6, 6, 6, 6, 6, 6, 6, 6, 7, 7, 7, 7, 7, 7, 7, 7, 7, 7, 7, 7, 7, 7, 7, 7, 7, 7, 7, 7, 7, 7, 7, 7, 7, 7, 7, 7, 7, 7, 7, 7, 7, 7, 7, 7, 7, 7, 7, 7, 7, 7, 7, 7, 7, 7, 7, 7, 7, 7, 7, 7, 7, 7, 7, 7, 7, 7, 7, 7, 7, 7, 7, 7, 8, 8, 8, 8, 8, 8, 8, 8, 8, 8, 8, 8, 8, 8, 8, 8, 8, 8, 8, 8, 8, 8, 8, 8, 8, 8, 8, 8, 8, 8, 8, 8, 8, 8, 8, 8, 8, 8, 8, 8, 8, 8, 8, 8, 8, 8, 8, 8, 8, 8, 8, 8, 8, 8, 8, 8, 8, 8, 8, 8, 8, 8, 8, 8, 8, 8, 8, 8, 8, 8, 8, 8, 8, 8, 8, 8, 8, 8, 8, 8, 8, 8, 8, 8, 8, 8, 8, 8, 8, 8, 8, 8, 8, 8, 8, 8, 8, 8, 8, 8, 8, 8, 8, 8, 8, 8, 8, 8, 8, 8, 8, 8, 8, 8, 8, 8, 8, 8, 8, 8, 8, 8, 8, 8, 8, 8, 8, 8]⟩ ((n / 65536 : Nat) : Int) = (t : Int) := e
      rw [e', w64 (n := (t : Int)) (by omega) (by omega), w64 (n := (0 : Int) + 16) (by omega) (by omega), w64 (by omega) (by omega)]
      congr 1
  · by_cases c2 : 256 ≤ n
    · obtain ⟨t, e, t1, t2, t3⟩ := tab_is (n / 256) (by omega) (by omega)
      refine ⟨8 + t, by omega, by omega, ?_, fun k => ?_⟩
      · rw [Nat.pow_add]
        omega
      · rw [bits_Len64.j0, if_neg (by omega), if_pos (by omega), if_pos (by omega), if_pos (by omega), show ((n : Int) / 256) % 256 = ((n / 256 : Nat) : Int) by omega]
        have e' : bt ⟨#[0, 1, 2, 2, 3, 3, 3, 3, 4, 4, 4, 4, 4, 4, 4, 4, 5, 5, 5, 5, 5, 5, 5, 5, 5, 5, 5, 5, 5, 5, 5, 5, 6, 6, 6, 6, 6, 6, 6, 6, 6, 6, 6, 6, 6, 6, 6, 6, 6, 6, 6, 6, 6, 6, 6, 6, 6, 6, 6, 6, 6, 6, 6, 6, 7, 7, 7, 7, 7, 7, 7, 7, 7, 7, 7, 7, 7, 7, 7, 7, 7, 7, 7, 7, 7, 7, 7, 7, 7, 7, 7, 7, 7, 7, 7, 7, 7, 7, 7, 7, 7, 7, 7, 7, 7, 7, 7, 7, 7, 7, 7, 7, 7, 7, 7, 7, 7, 7, 7, 7, 7, 7, 7, 7, 7, 7, 7, 7, 8, 8, 8, 8, 8, 8, 8, 8, 8, 8, 8, 8, 8, 8, 8, 8, 8, 8, 8, 8, 8, 8, 8, 8, 8, 8, 8, 8, 8, 8, 8, 8, 8, 8, 8, 8, 8, 8, 8, 8, 8, 8, 8, 8, 8, 8, 8, 8, 8, 8, 8, 8, 8, 8, 8, 8, 8, 8, 8, 8, 8, 8, 8, 8, 8, 8, 8, 8, 8, 8, 8, 8, 8, 8, 8, 8, 8, 8, 8, 8, 8, 8, 8, 8, 8, 8, 8, 8, 8, 8, 8, 8, 8, 8, 8, 8, 8, 8, 8, 8, 8, 8, 8, 8, 8, 8, 8, 8, 8, 8, 8, 8, 8, 8, 8, 8, 8, 8, 8, 8, 8, 8, 8, 8, 8, 8, 8, 8]⟩ ((n / 256 : Nat) : Int) = (t : Int) := e
        rw [e', w64 (n := (t : Int)) (by omega) (by omega), w64 (n := (0 : Int) + 8) (by omega) (by omega), w64 (by omega) (by omega)]
        congr 1
    · obtain ⟨t, e, t1, t2, t3⟩ := tab_is n (by omega) (by omega)
      refine ⟨t, by omega, by omega, t3, fun k => ?_⟩
      rw [bits_Len64.j0, if_neg (by omega), if_neg (by omega), if_pos (by omega), if_pos (by omega), show (n : Int) % 256 = (n : Int) by omega]
      have e' : bt ⟨#[0, 1, 2, 2, 3, 3, 3, 3, 4, 4, 4, 4, 4, 4, 4, 4, 5, 5, 5, 5, 5, 5, 5, 5, 5, 5, 5, 5, 5, 5, 5, 5, 6, 6, 6, 6, 6, 6, 6, 6, 6, 6, 6, 6, 6, 6, 6, 6, 6, 6, 6, 6, 6, 6, 6, 6, 6, 6, 6, 6, 6, 6, 6, 6, 7, 7, 7, 7, 7, 7, 7, 7, 7, 7, 7, 7, 7, 7, 7, 7, 7, 7, 7, 7, 7, 7, 7, 7, 7, 7, 7, 7, 7, 7, 7, 7, 7, 7, 7, 7, 7, 7, 7, 7, 7, 7, 7, 7, 7, 7, 7, 7, 7, 7, 7, 7, 7, 7, 7, 7, 7, 7, 7, 7, 7, 7, 7, 7, 8, 8, 8, 8, 8, 8, 8, 8, 8, 8, 8, 8, 8, 8, 8, 8, 8, 8, 8, 8, 8, 8, 8, 8, 8, 8, 8, 8, 8, 8, 8, 8, 8, 8, 8, 8, 8, 8, 8, 8, 8, 8, 8, 8, 8, 8, 8, 8, 8, 8, 8, 8, 8, 8, 8, 8, 8, 8, 8, 8, 8, 8, 8, 8, 8, 8, 8, 8, 8, 8, 8, 8, 8, 8, 8, 8, 8, 8, 8, 8, 8, 8, 8, 8, 8, 8, 8, 8, 8, 8, 8, 8, 8, 8, 8, 8, 8, 8, 8, 8, 8, 8, 8, 8, 8, 8, 8, 8, 8, 8, 8, 8, 8, 8, 8, 8, 8, 8, 8, 8, 8, 8, 8, 8, 8, 8, 8, 8]⟩ (n : Int) = (t : Int) := e
      rw [e', w64 (n := (t : Int)) (by omega) (by omega), w64 (by omega) (by omega), Int.zero_add]
theorem long_ok (a b : Nat) (h0 : 0 < a + b) (h1 : a + b < 16777216) : ∃ d : Nat, 1 ≤ d ∧ d ≤ 24 ∧ a + b < 2 ^ d ∧ ∀ k, lay_long.f (k + 1) (a : Int) (b : Int) = some (d : Int) := by
  obtain ⟨d, d1, d2, d3, hd⟩ := len_j0 (a + b) h0 h1
  refine ⟨d, d1, d2, d3, fun k => ?_⟩
  have hw : ∀ x : Int, IntKind.u64.wrap x = x % 18446744073709551616 := fun x => by simp [IntKind.wrap, IntKind.bits, IntKind.signed]
  unfold lay_long.f bits_Len.f bits_Len64.f
  rw [w64 (by omega) (by omega), hw, show ((a : Int) + (b : Int)) % 18446744073709551616 = ((a + b : Nat) : Int) by omega, if_neg (by omega), hd k]
  rfl
/-! ### Numbers modulo 8380417 -/
theorem of_is (x : Int) (h0 : -4000000000 < x) (h1 : x < 4000000000) : round_Of.f x = some (x % 8380417) := by
  unfold round_Of.f
  by_cases c : 0 ≤ x
  · rw [Int.tmod_eq_emod_of_nonneg c, if_neg (by omega)]
  · obtain ⟨y, rfl⟩ : ∃ y, x = -y := ⟨-x, by omega⟩
    rw [Int.neg_tmod, Int.tmod_eq_emod_of_nonneg (by omega)]
    by_cases c2 : y % 8380417 = 0
    · rw [if_neg (by omega)]
      congr 1
      omega
    · rw [if_pos (by omega), w64 (by omega) (by omega)]
      congr 1
      omega
theorem may_idx (l : List Int) (hl : l.length < 1000) (h : ∀ x ∈ l, 0 ≤ x ∧ x < 8380417) : ∀ (m i k : Nat), i + m = l.length → m < k → slices_IndexFunc_int_int_at_wave_May_1.l0 k l (l.length : Int) (i : Int) = some (-1)
  | 0, i, k + 1, hi, hk => by rw [slices_IndexFunc_int_int_at_wave_May_1.l0, if_neg (by omega)]
  | m + 1, i, k + 1, hi, hk => by
    have hil : i < l.length := by omega
    have hx := h l[i] (List.getElem_mem hil)
    rw [slices_IndexFunc_int_int_at_wave_May_1.l0, if_pos (by omega), if_pos (by omega), if_pos (by omega), rdI l i hil]
    have : wave_May_1.f l[i] = some false := by
      unfold wave_May_1.f
      rw [if_neg (by omega), decide_eq_false (by omega)]
    rw [this, Option.bind_some, if_neg (by simp), w64 (by omega) (by omega), show (i : Int) + 1 = ((i + 1 : Nat) : Int) by omega, may_idx l hl h m (i + 1) k (by omega) (by omega)]
theorem may_yes (k : Nat) (l : List Int) (hl : l.length = 256) (h : ∀ x ∈ l, 0 ≤ x ∧ x < 8380417) (hk : 300 < k) : wave_May.f k l = some true := by
  unfold wave_May.f
  refine ifp (by omega) ?_
  unfold slices_ContainsFunc_int_int_at_wave_May_1.f slices_IndexFunc_int_int_at_wave_May_1.f
  have := may_idx l (by omega) h l.length 0 k (by omega) (by omega)
  rw [Int.natCast_zero] at this
  rw [this]
  rfl
theorem bounds_yes (a b : Nat) (ha : a ≤ 1048576) (hb : b ≤ 1048576) (h : 0 < a + b) : lay_bounds.f (a : Int) (b : Int) = some true := by
  unfold lay_bounds.f
  rw [if_pos (by omega), if_pos (by omega), if_pos (by omega), if_pos (by omega), w64 (by omega) (by omega), decide_eq_true (by omega)]
/-- A number that is laid, as it is laid. -/
def turn (b : Nat) (x : Int) : Int := ((b : Int) - x) % 8380417
theorem near_l0 (a b d : Nat) (ha : a ≤ 1048576) (hb : b ≤ 1048576) (f : List Int) (hf : f.length = 256) (h : ∀ x ∈ f, 0 ≤ x ∧ x < 8380417) (hd1 : 1 ≤ d) (hd2 : d ≤ 24) (hd3 : a + b < 2 ^ d) (hlong : ∀ k, lay_long.f (k + 1) (a : Int) (b : Int) = some (d : Int)) :
    ∀ (m i k : Nat), i + m = 256 → (∀ j (hj : j < f.length), j < i → turn b f[j] ≤ (a : Int) + b) → 2000 + m < k →
    lay_Near.l0 k (a : Int) (b : Int) ((f.take i).map (turn b)) f 256 (i : Int) = some (if ∀ x ∈ f, turn b x ≤ (a : Int) + b then digs (32 * d) (val d (f.map (turn b))) else [])
  | 0, i, k + 1, hi, hp, hk => by
    obtain rfl : i = 256 := by omega
    have hall : ∀ x ∈ f, turn b x ≤ (a : Int) + b := fun x hx => by
      obtain ⟨j, hj, rfl⟩ := List.getElem_of_mem hx
      exact hp j hj (by omega)
    obtain ⟨k', rfl⟩ : ∃ k', k = k' + 1 := ⟨k - 1, by omega⟩
    have hfit : fit d (f.map (turn b)) := fun x hx => by
      obtain ⟨y, hy, rfl⟩ := List.mem_map.mp hx
      have h1 := hall y hy
      have h2 : 0 ≤ turn b y := Int.emod_nonneg _ (by decide)
      have h3 : ((a + b : Nat) : Int) < ((2 ^ d : Nat) : Int) := by exact_mod_cast hd3
      exact ⟨h2, by omega⟩
    have hpk := pack_ok (k' + 1) d hd1 hd2 (f.map (turn b)) hfit (by rw [List.length_map]; omega) (by rw [List.length_map]; omega)
    rw [lay_Near.l0, if_neg (by omega), hlong, Option.bind_some, List.take_of_length_le (by omega), hpk, if_pos hall, List.length_map, hf, show (d * 256 + 7) / 8 = 32 * d by omega]
    rfl
  | m + 1, i, k + 1, hi, hp, hk => by
    have hil : i < f.length := by omega
    have hx := h f[i] (List.getElem_mem hil)
    rw [lay_Near.l0, if_pos (by omega), if_pos (by omega), if_pos (by omega), rdI f i hil, w64 (by omega) (by omega), of_is _ (by omega) (by omega), Option.bind_some, ← turn, w64 (n := (a : Int) + b) (by omega) (by omega)]
    by_cases c : turn b f[i] > (a : Int) + b
    · rw [if_pos c, if_neg (fun hall => by have := hall f[i] (List.getElem_mem hil); omega)]
    · rw [if_neg c, if_pos (by rw [List.length_map, List.length_take]; omega), w64 (by omega) (by omega), show (i : Int) + 1 = ((i + 1 : Nat) : Int) by omega]
      have e : (f.take i).map (turn b) ++ [turn b f[i]] = (f.take (i + 1)).map (turn b) := by rw [List.take_succ_eq_append_getElem hil, List.map_append]; rfl
      rw [e, near_l0 a b d ha hb f hf h hd1 hd2 hd3 hlong m (i + 1) k (by omega) (fun j hj hji => by
        by_cases c2 : j < i
        · exact hp j hj c2
        · obtain rfl : j = i := by omega
          omega) (by omega)]
theorem near_is (k a b d : Nat) (ha : a ≤ 1048576) (hb : b ≤ 1048576) (f : List Int) (hf : f.length = 256) (h : ∀ x ∈ f, 0 ≤ x ∧ x < 8380417) (h0 : 0 < a + b) (hd1 : 1 ≤ d) (hd2 : d ≤ 24) (hd3 : a + b < 2 ^ d) (hlong : ∀ k, lay_long.f (k + 1) (a : Int) (b : Int) = some (d : Int)) (hk : 3000 < k) :
    lay_Near.f k (a : Int) (b : Int) f = some (if ∀ x ∈ f, turn b x ≤ (a : Int) + b then digs (32 * d) (val d (f.map (turn b))) else []) := by
  unfold lay_Near.f
  obtain ⟨k, rfl⟩ : ∃ k', k = k' + 1 := ⟨k - 1, by omega⟩
  refine bnd (bounds_yes a b ha hb h0) (ifp rfl (bnd (may_yes _ f hf h (by omega)) ?_))
  rw [Bool.not_true, lay_Near.j0, if_neg (by simp), hf]
  have := near_l0 a b d ha hb f hf h hd1 hd2 hd3 hlong 256 0 k (by omega) (fun _ _ hj => by omega) (by omega)
  simpa using this
/-! ### And back -/
theorem far_l0 (b : Nat) (hb : b ≤ 1048576) (xs : List Int) (hl : xs.length < 1000000) (hx : ∀ x ∈ xs, 0 ≤ x ∧ x < 16777216) : ∀ (m i k : Nat), i + m = xs.length → m < k →
    lay_Far.l0 k (b : Int) ((xs.take i).map (turn b) ++ xs.drop i) (xs.length : Int) (i : Int) = some (xs.map (turn b))
  | 0, i, k + 1, hi, hk => by
    rw [lay_Far.l0, if_neg (by omega), List.take_of_length_le (by omega), List.drop_of_length_le (by omega), List.append_nil]
  | m + 1, i, k + 1, hi, hk => by
    have hil : i < xs.length := by omega
    have hx1 := hx xs[i] (List.getElem_mem hil)
    have hlen : ((xs.take i).map (turn b)).length = i := by rw [List.length_map, List.length_take]; omega
    have e : xs.drop i = xs[i] :: xs.drop (i + 1) := (List.getElem_cons_drop hil).symm
    have hrd : rd ((xs.take i).map (turn b) ++ xs.drop i) (i : Int) = xs[i] := by
      unfold rd
      rw [Int.toNat_natCast, List.getD_eq_getElem?_getD, List.getElem?_append_right (by omega), hlen, Nat.sub_self, e]
      rfl
    rw [lay_Far.l0, if_pos (by omega), if_pos (by omega), if_pos (by rw [List.length_append, hlen, List.length_drop]; omega), hrd, w64 (by omega) (by omega), of_is _ (by omega) (by omega), Option.bind_some, ← turn, w64 (by omega) (by omega), show (i : Int) + 1 = ((i + 1 : Nat) : Int) by omega]
    have hset : ((xs.take i).map (turn b) ++ xs.drop i).set (i : Int).toNat (turn b xs[i]) = (xs.take (i + 1)).map (turn b) ++ xs.drop (i + 1) := by
      rw [Int.toNat_natCast, List.set_append_right _ _ (by omega), hlen, Nat.sub_self, e, List.set_cons_zero, List.take_succ_eq_append_getElem hil, List.map_append, List.append_assoc]
      rfl
    rw [hset, far_l0 b hb xs hl hx m (i + 1) k (by omega) (by omega)]
theorem far_is (k a b d : Nat) (ha : a ≤ 1048576) (hb : b ≤ 1048576) (bs : List Int) (hbs : fit 8 bs) (hl : bs.length = 32 * d) (h0 : 0 < a + b) (hd1 : 1 ≤ d) (hd2 : d ≤ 24) (hlong : ∀ k, lay_long.f (k + 1) (a : Int) (b : Int) = some (d : Int)) (hk : 40000 < k) :
    lay_Far.f k (a : Int) (b : Int) bs = some ((unp d 256 (val 8 bs)).map (turn b)) := by
  unfold lay_Far.f
  obtain ⟨k, rfl⟩ : ∃ k', k = k' + 2 := ⟨k - 2, by omega⟩
  refine bnd (bounds_yes a b ha hb h0) (ifp rfl (bnd (hlong _) ?_))
  have hne : (((bs.length : Int)) != wrap64 (32 * (d : Int))) = false := by rw [w64 (by omega) (by omega), bne_eq_false_iff_eq]; omega
  rw [hne, lay_Far.j0, if_neg (by simp)]
  have hu := unpack_ok (k + 1) d hd1 hd2 bs hbs (by omega) (by omega)
  have hdiv : 8 * bs.length / d = 256 := by rw [hl, show 8 * (32 * d) = d * 256 by omega]; exact Nat.mul_div_cancel_left _ hd1
  rw [hdiv] at hu
  refine bnd (hlong _) (bnd hu ?_)
  have hlen := unp_len d 256 (val 8 bs)
  have hfit := unp_fit d 256 (val 8 bs)
  have hd24 : (2 : Nat) ^ d ≤ 16777216 := Nat.le_trans (Nat.pow_le_pow_right (by decide) hd2) (by decide)
  have := far_l0 b hb (unp d 256 (val 8 bs)) (by omega) (fun x hx => by
    have h1 := hfit x hx
    generalize (2 : Nat) ^ d = P at h1 hd24
    exact ⟨h1.1, by omega⟩) 256 0 (k + 1) (by omega) (by omega)
  rw [List.take_zero, List.map_nil, List.nil_append, List.drop_zero, Int.natCast_zero] at this
  exact this
/-! ### The law -/
theorem low_ok (a : Int) (n : Nat) (h0 : 0 < n) (h1 : n < 4294967296) : ∃ r : Nat, r < n ∧ chatelainelaw0_Low.f a (n : Int) = some (r : Int) := by
  have hw : ∀ x : Int, IntKind.u64.wrap x = x % 18446744073709551616 := fun x => by simp [IntKind.wrap, IntKind.bits, IntKind.signed]
  have hn : IntKind.u64.wrap (n : Int) = (n : Int) := by rw [hw]; omega
  have hu := hw a
  have hu0 : 0 ≤ IntKind.u64.wrap a := by rw [hu]; omega
  have hr0 : 0 ≤ IntKind.u64.wrap a % (n : Int) := Int.emod_nonneg _ (by omega)
  have hr1 : IntKind.u64.wrap a % (n : Int) < (n : Int) := Int.emod_lt_of_pos _ (by omega)
  refine ⟨(IntKind.u64.wrap a % (n : Int)).toNat, by omega, ?_⟩
  unfold chatelainelaw0_Low.f
  rw [hn, if_neg (by omega), Int.tmod_eq_emod_of_nonneg hu0, w64 (by omega) (by omega), Int.toNat_of_nonneg hr0]
theorem sameI_l0 (a b : List Int) (hl : a.length = b.length) (hb : a.length < 140737488355328) : ∀ (m i k : Nat), i + m = a.length → m < k → chatelainelaw0_SameInts.l0 k a b (i : Int) = some (decide (a.drop i = b.drop i))
  | 0, i, k + 1, hi, hk => by
    rw [chatelainelaw0_SameInts.l0, if_neg (by omega), List.drop_of_length_le (by omega), List.drop_of_length_le (by omega)]
    simp
  | m + 1, i, k + 1, hi, hk => by
    have e1 : a.drop i = a[i] :: a.drop (i + 1) := (List.getElem_cons_drop (by omega)).symm
    have e2 : b.drop i = b[i] :: b.drop (i + 1) := (List.getElem_cons_drop (by omega)).symm
    rw [chatelainelaw0_SameInts.l0, if_pos (by omega), if_pos (by omega), if_pos (by omega), rdI a i (by omega), rdI b i (by omega), e1, e2]
    by_cases h : a[i] = b[i]
    · rw [if_pos h, w64 (by omega) (by omega), show (i : Int) + 1 = ((i + 1 : Nat) : Int) by omega, sameI_l0 a b hl hb m (i + 1) k (by omega) (by omega)]
      simp only [List.cons.injEq, h, true_and]
    · rw [if_neg h]
      simp only [List.cons.injEq, h, false_and, decide_false]
theorem sameI_yes (k : Nat) (a : List Int) (hb : a.length < k) (hk : k < 140737488355328) : chatelainelaw0_SameInts.f k a a = some true := by
  unfold chatelainelaw0_SameInts.f
  rw [if_pos rfl]
  have := sameI_l0 a a rfl (by omega) a.length 0 k (by omega) (by omega)
  rw [List.drop_zero, Int.natCast_zero] at this
  rw [this]
  simp
/-- A number that stands for one from -a to b. -/
def stands (a b : Nat) (x : Int) : Prop := ∃ t : Nat, t ≤ a + b ∧ x = ((t : Int) - a) % 8380417
theorem stands_turn (a b : Nat) (ha : a ≤ 1048576) (hb : b ≤ 1048576) (x : Int) (h : stands a b x) : (0 ≤ x ∧ x < 8380417) ∧ turn b x ≤ (a : Int) + b ∧ turn b (turn b x) = x := by
  obtain ⟨t, ht, rfl⟩ := h
  have e : turn b (((t : Int) - a) % 8380417) = (a : Int) + b - t := by
    unfold turn
    omega
  refine ⟨by omega, by rw [e]; omega, ?_⟩
  rw [e]
  unfold turn
  congr 1
  omega
theorem made_l0 (k0 a b : Nat) (ha : a ≤ 1048576) (hb : b ≤ 1048576) (h0 : 0 < a + b) (ns : List Int) (hn : 0 < ns.length) (hn2 : ns.length ≤ 300) (hend : ∀ f : List Int, f.length = 256 → (∀ x ∈ f, stands a b x) → chatelainelaw11_LayBack.l0 (k0 + 1) (a : Int) (b : Int) ns f 256 = some true) :
    ∀ (m i : Nat) (f : List Int), i + m = 256 → f.length = 256 → (∀ j (hj : j < f.length), j < i → stands a b f[j]) → chatelainelaw11_LayBack.l0 (k0 + 1 + m) (a : Int) (b : Int) ns f (i : Int) = some true
  | 0, i, f, hi, hf, hs => by
    obtain rfl : i = 256 := by omega
    exact hend f hf fun x hx => by
      obtain ⟨j, hj, rfl⟩ := List.getElem_of_mem hx
      exact hs j hj (by omega)
  | m + 1, i, f, hi, hf, hs => by
    obtain ⟨r, hr, hlow⟩ := low_ok (wrap64 ((rd ns (Int.tmod (i : Int) (ns.length : Int))) + (wrap64 ((i : Int) * (i : Int))))) (a + b + 1) (by omega) (by omega)
    have hm : Int.tmod (i : Int) (ns.length : Int) = (i : Int) % (ns.length : Int) := Int.tmod_eq_emod_of_nonneg (by omega)
    have hm0 : 0 ≤ (i : Int) % (ns.length : Int) := Int.emod_nonneg _ (by omega)
    have hm1 : (i : Int) % (ns.length : Int) < (ns.length : Int) := Int.emod_lt_of_pos _ (by omega)
    rw [show k0 + 1 + (m + 1) = (k0 + 1 + m) + 1 by omega, chatelainelaw11_LayBack.l0, if_pos (by omega), if_neg (by omega), if_pos (by rw [hm]; exact hm0), if_pos (by rw [hm]; exact hm1)]
    have hab : wrap64 (wrap64 ((a : Int) + b) + 1) = ((a + b + 1 : Nat) : Int) := by rw [w64 (n := (a : Int) + b) (by omega) (by omega), w64 (by omega) (by omega)]; omega
    refine bnd (by rw [hab]; exact hlow) (ifp (by omega) (ifp (by omega) ?_))
    have hv : Int.tmod (wrap64 (wrap64 ((r : Int) - a) + 8380417)) 8380417 = ((r : Int) - a) % 8380417 := by
      rw [w64 (n := (r : Int) - a) (by omega) (by omega), w64 (by omega) (by omega), Int.tmod_eq_emod_of_nonneg (by omega)]
      omega
    rw [hv, w64 (by omega) (by omega), show (i : Int) + 1 = ((i + 1 : Nat) : Int) by omega, Int.toNat_natCast]
    refine made_l0 k0 a b ha hb h0 ns hn hn2 hend m (i + 1) _ (by omega) (by rw [List.length_set]; exact hf) fun j hj hji => ?_
    rw [List.length_set] at hj
    by_cases c : i = j
    · subst c
      rw [List.getElem_set_self]
      exact ⟨r, by omega, rfl⟩
    · rw [List.getElem_set_ne (by omega)]
      exact hs j hj (by omega)
theorem back_end (a b : Nat) (ha : a ≤ 1048576) (hb : b ≤ 1048576) (h0 : 0 < a + b) (ns : List Int) (hn : 0 < ns.length) (f : List Int) (hf : f.length = 256) (hs : ∀ x ∈ f, stands a b x) :
    chatelainelaw11_LayBack.l0 (100000 + 1) (a : Int) (b : Int) ns f 256 = some true := by
  obtain ⟨d, d1, d2, d3, hlong⟩ := long_ok a b h0 (by omega)
  have hq : ∀ x ∈ f, 0 ≤ x ∧ x < 8380417 := fun x hx => (stands_turn a b ha hb x (hs x hx)).1
  have hall : ∀ x ∈ f, turn b x ≤ (a : Int) + b := fun x hx => (stands_turn a b ha hb x (hs x hx)).2.1
  have hnear := near_is 100000 a b d ha hb f hf hq h0 d1 d2 d3 hlong (by omega)
  rw [if_pos hall] at hnear
  have hfit : fit d (f.map (turn b)) := fun x hx => by
    obtain ⟨y, hy, rfl⟩ := List.mem_map.mp hx
    have h1 := hall y hy
    have h2 : 0 ≤ turn b y := Int.emod_nonneg _ (by decide)
    generalize (2 : Nat) ^ d = P at d3
    exact ⟨h2, by omega⟩
  have hlen := digs_len (32 * d) (val d (f.map (turn b)))
  have hfar := far_is 100000 a b d ha hb _ (digs_fit (32 * d) (val d (f.map (turn b)))) hlen h0 d1 d2 hlong (by omega)
  have hval : val 8 (digs (32 * d) (val d (f.map (turn b)))) = val d (f.map (turn b)) := by
    apply val_digs
    have := val_lt d _ hfit
    rw [List.length_map, hf] at this
    rw [show (256 : Nat) = 2 ^ 8 by decide, ← Nat.pow_mul, show 8 * (32 * d) = d * 256 by omega]
    exact this
  have hunp := unp_val d _ hfit
  rw [List.length_map, hf] at hunp
  have hback : (f.map (turn b)).map (turn b) = f := by
    rw [List.map_map]
    conv => rhs; rw [← List.map_id f]
    apply List.map_congr_left
    intro x hx
    exact (stands_turn a b ha hb x (hs x hx)).2.2
  rw [hval, hunp, hback] at hfar
  obtain ⟨r, hr, hlow⟩ := low_ok (rd ns 0) 256 (by omega) (by omega)
  have hg1 : (f.set r ((b : Int) + 1)).length = 256 := by rw [List.length_set]; exact hf
  have hg2 : ∀ x ∈ f.set r ((b : Int) + 1), 0 ≤ x ∧ x < 8380417 := fun x hx => by
    rcases List.mem_or_eq_of_mem_set hx with h | h
    · exact hq x h
    · omega
  have hnear2 := near_is 100000 a b d ha hb _ hg1 hg2 h0 d1 d2 d3 hlong (by omega)
  rw [if_neg (fun h => by
    have h1 := h ((b : Int) + 1) (List.mem_set (by omega) _)
    unfold turn at h1
    omega)] at hnear2
  rw [chatelainelaw11_LayBack.l0, if_neg (by omega)]
  refine bnd hnear (bnd hfar ?_)
  rw [if_pos (by simp only [List.length_nil]; omega), List.nil_append, Option.bind_some, if_pos (by omega)]
  refine bnd hlow (ifp (by omega) (ifp (by omega) (ifp (by rw [hlen]; omega) (ifp (by rw [hlen]; omega) ?_))))
  refine bnd (sameI_yes _ f (by omega) (by omega)) (ifp rfl ?_)
  rw [w64 (by omega) (by omega), Int.toNat_natCast]
  refine bnd hnear2 (ifp rfl ?_)
  rw [awake_yes]
  rfl
theorem LayBack : chatelainelaw11_LayBack.Pure := by
  intro a0 a1 l2 _ _ _ _ _
  refine ⟨100258, ?_⟩
  unfold chatelainelaw11_LayBack.f
  have no : ∀ x0 x1 l, chatelainelaw11_LayBack.j0 100258 x0 x1 l true = some true := fun x0 x1 l => by
    rw [chatelainelaw11_LayBack.j0, if_pos rfl, awake_yes2]
    rfl
  by_cases h : (l2.length : Int) > 300
  · rw [if_pos h]; exact no ..
  rw [if_neg h]
  by_cases h2 : l2.length = 0
  · rw [show ((l2.length : Int) == 0) = true by rw [h2]; rfl]; exact no ..
  rw [show ((l2.length : Int) == 0) = false by rw [beq_eq_false_iff_ne]; omega, chatelainelaw11_LayBack.j0, if_neg (by simp)]
  obtain ⟨a, ha, hla⟩ := low_ok a0 1048577 (by omega) (by omega)
  obtain ⟨b, hb, hlb⟩ := low_ok a1 1048577 (by omega) (by omega)
  refine bnd hla (bnd hlb ?_)
  rw [w64 (by omega) (by omega)]
  by_cases h3 : a + b = 0
  · rw [if_pos (by omega), awake_yes2]
    rfl
  rw [if_neg (by omega), if_pos (by omega)]
  have := made_l0 100000 a b (by omega) (by omega) (by omega) l2 (by omega) (by omega) (fun f hf hs => back_end a b (by omega) (by omega) (by omega) l2 (by omega) f hf hs) 256 0 (List.replicate 256 0) (by omega) List.length_replicate (fun j hj hji => by omega)
  rw [Int.natCast_zero] at this
  exact this
end Go.Proofs.YtaegmnimkemjgaaDoor.Pure
