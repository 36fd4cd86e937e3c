/- What laying a poly, and reading one, computes. -/
import Derived.Test.YtggiddekbocokaaDoorPLHx11
import Derived.Test.YtggiddekbocokaaDoorPLHx12
import Derived.Test.YtggiddekbocokaaDoorPLHx6
import Derived.Test.YtggiddekbocokaaDoorPLHx7
import Derived.Test.YtggiddekbocokaaDoorPLHx9
import Derived.Test.YtggiddekbocokaaDoorPackH
namespace Go.Proofs.YtggiddekbocokaaDoor.PackH
open Go.RowKit Go.Proofs.YtggiddekbocokaaDoor.PLH Go.Proofs.YtggiddekbocokaaDoorW.PrintWords Go.Proofs.YtggiddekbocokaaDoorW.PrintLast Go.Proofs.YtggiddekbocokaaDoorW.PrintMore

/-! ### How many bits a number has -/
def lenTab : ByteArray := ⟨#[0, 1, 2, 2, 3, 3, 3, 3, 4, 4, 4, 4, 4, 4, 4, 4, 5, 5, 5, 5, 5, 5, 5, 5, 5, 5, 5, 5, 5, 5, 5, 5, 6, 6, 6, 6, 6, 6, 6, 6, 6, 6, 6, 6, 6, 6, 6, 6, 6, 6, 6, 6, 6, 6, 6, 6, 6, 6, 6, 6, 6, 6, 6, 6, 7, 7, 7, 7, 7, 7, 7, 7, 7, 7, 7, 7, 7, 7, 7, 7, 7, 7, 7, 7, 7, 7, 7, 7, 7, 7, 7, 7, 7, 7, 7, 7, 7, 7, 7, 7, 7, 7, 7, 7, 7, 7, 7, 7, 7, 7, 7, 7, 7, 7, 7, 7, 7, 7, 7, 7, 7, 7, 7, 7, 7, 7, 7, 7, 8, 8, 8, 8, 8, 8, 8, 8, 8, 8, 8, 8, 8, 8, 8, 8, 8, 8, 8, 8, 8, 8, 8, 8, 8, 8, 8, 8, 8, 8, 8, 8, 8, 8, 8, 8, 8, 8, 8, 8, 8, 8, 8, 8, 8, 8, 8, 8, 8, 8, 8, 8, 8, 8, 8, 8, 8, 8, 8, 8, 8, 8, 8, 8, 8, 8, 8, 8, 8, 8, 8, 8, 8, 8, 8, 8, 8, 8, 8, 8, 8, 8, 8, 8, 8, 8, 8, 8, 8, 8, 8, 8, 8, 8, 8, 8, 8, 8, 8, 8, 8, 8, 8, 8, 8, 8, 8, 8, 8, 8, 8, 8, 8, 8, 8, 8, 8, 8, 8, 8, 8, 8, 8, 8, 8, 8, 8, 8]⟩
theorem tab_ok : ∀ y : Fin 256, 0 < y.val → ∃ t : Fin 9, bt lenTab (y.val : Int) = (t.val : Int) ∧ 1 ≤ t.val ∧ y.val < 2 ^ t.val ∧ 2 ^ (t.val - 1) ≤ y.val := by decide +kernel
theorem tab_is (y : Nat) (h : y < 256) (h0 : 0 < y) : ∃ t : Nat, bt lenTab (y : Int) = (t : Int) ∧ 1 ≤ t ∧ t ≤ 8 ∧ y < 2 ^ t ∧ 2 ^ (t - 1) ≤ y := by
  obtain ⟨t, h1, h2, h3, h4⟩ := tab_ok ⟨y, h⟩ h0
  exact ⟨t.val, h1, h2, by have := t.isLt; omega, h3, h4⟩
theorem len_j0 (n : Nat) (h0 : 0 < n) (h1 : n < 16777216) : ∃ d : Nat, 1 ≤ d ∧ d ≤ 24 ∧ n < 2 ^ d ∧ 2 ^ (d - 1) ≤ n ∧ ∀ k, bits_Len64.j0 (k + 1) (n : Int) 0 = some (d : Int) := by
  by_cases c : 65536 ≤ n
  · obtain ⟨t, e, t1, t2, t3, t4⟩ := tab_is (n / 65536) (by omega) (by omega)
    refine ⟨16 + t, by omega, by omega, ?_, ?_, fun k => ?_⟩
    · rw [Nat.pow_add]
      omega
    · rw [show 16 + t - 1 = 16 + (t - 1) by omega, Nat.pow_add]
      omega
    · rw [bits_Len64.j0, if_pos (by omega), if_neg (by omega), if_pos (by omega), if_pos (by omega), show ((n : Int) / 65536) % 256 = ((n / 65536 : Nat) : Int) by omega]
      have e' : bt ⟨#[0, 1, 2, 2, 3, 3, 3, 3, 4, 4, 4, 4, 4, 4, 4, 4, 5, 5, 5, 5, 5, 5, 5, 5, 5, 5, 5, 5, 5, 5, 5, 5, 6, 6, 6, 6, 6, 6, 6, 6, 6, 6, 6, 6, 6, 6, 6, 6, 6, 6, 6, 6, 6, 6, 6, 6, 6, 6, 6, 6, 6, 6, 6, 6, 7, 7, 7, 7, 7, 7, 7, 7, 7, 7, 7, 7, 7, 7, 7, 7, 7, 7, 7, 7, 7, 7, 7, 7, 7, 7, 7, 7, 7, 7, 7, 7, 7, 7, 7, 7, 7, 7, 7, 7, 7, 7, 7, 7, 7, 7, 7, 7, 7, 7, 7, 7, 7, 7, 7, 7, 7, 7, 7, 7, 7, 7, 7, 7, 8, 8, 8, 8, 8, 8, 8, 8, 8, 8, 8, 8, 8, 8, 8, 8, 8, 8, 8, 8, 8, 8, 8, 8, 8, 8, 8, 8, 8, 8, 8, 8, 8, 8, 8, 8, 8, 8, 8, 8, 8, 8, 8, 8, 8, 8, 8, 8, 8, 8, 8, 8, 8, 8, 8, 8, 8, 8, 8, 8, 8, 8, 8, 8, 8, 8, 8, 8, 8, 8, 8, 8, 8, 8, 8, 8, 8, 8, 8, 8, 8, 8, 8, 8, 8, 8, 8, 8, 8, 8, 8, 8, 8, 8, 8, 8, 8, 8, 8, 8, 8, 8, 8, 8, 8, 8, 8, 8, 8, 8, 8, 8, 8, 8, 8, 8, 8, 8, 8, 8, 8, 8, 8, 8, 8, 8, 8, 8]⟩ ((n / 65536 : Nat) : Int) = (t : Int) := e
      rw [e', w64 (n := (t : Int)) (by omega) (by omega), w64 (n := (0 : Int) + 16) (by omega) (by omega), w64 (by omega) (by omega)]
      congr 1
  · by_cases c2 : 256 ≤ n
    · obtain ⟨t, e, t1, t2, t3, t4⟩ := tab_is (n / 256) (by omega) (by omega)
      refine ⟨8 + t, by omega, by omega, ?_, ?_, fun k => ?_⟩
      · rw [Nat.pow_add]
        omega
      · rw [show 8 + t - 1 = 8 + (t - 1) by omega, Nat.pow_add]
        omega
      · rw [bits_Len64.j0, if_neg (by omega), if_pos (by omega), if_pos (by omega), if_pos (by omega), show ((n : Int) / 256) % 256 = ((n / 256 : Nat) : Int) by omega]
        have e' : bt ⟨#[0, 1, 2, 2, 3, 3, 3, 3, 4, 4, 4, 4, 4, 4, 4, 4, 5, 5, 5, 5, 5, 5, 5, 5, 5, 5, 5, 5, 5, 5, 5, 5, 6, 6, 6, 6, 6, 6, 6, 6, 6, 6, 6, 6, 6, 6, 6, 6, 6, 6, 6, 6, 6, 6, 6, 6, 6, 6, 6, 6, 6, 6, 6, 6, 7, 7, 7, 7, 7, 7, 7, 7, 7, 7, 7, 7, 7, 7, 7, 7, 7, 7, 7, 7, 7, 7, 7, 7, 7, 7, 7, 7, 7, 7, 7, 7, 7, 7, 7, 7, 7, 7, 7, 7, 7, 7, 7, 7, 7, 7, 7, 7, 7, 7, 7, 7, 7, 7, 7, 7, 7, 7, 7, 7, 7, 7, 7, 7, 8, 8, 8, 8, 8, 8, 8, 8, 8, 8, 8, 8, 8, 8, 8, 8, 8, 8, 8, 8, 8, 8, 8, 8, 8, 8, 8, 8, 8, 8, 8, 8, 8, 8, 8, 8, 8, 8, 8, 8, 8, 8, 8, 8, 8, 8, 8, 8, 8, 8, 8, 8, 8, 8, 8, 8, 8, 8, 8, 8, 8, 8, 8, 8, 8, 8, 8, 8, 8, 8, 8, 8, 8, 8, 8, 8, 8, 8, 8, 8, 8, 8, 8, 8, 8, 8, 8, 8, 8, 8, 8, 8, 8, 8, 8, 8, 8, 8, 8, 8, 8, 8, 8, 8, 8, 8, 8, 8, 8, 8, 8, 8, 8, 8, 8, 8, 8, 8, 8, 8, 8, 8, 8, 8, 8, 8, 8, 8]⟩ ((n / 256 : Nat) : Int) = (t : Int) := e
        rw [e', w64 (n := (t : Int)) (by omega) (by omega), w64 (n := (0 : Int) + 8) (by omega) (by omega), w64 (by omega) (by omega)]
        congr 1
    · obtain ⟨t, e, t1, t2, t3, t4⟩ := tab_is n (by omega) (by omega)
      refine ⟨t, by omega, by omega, t3, t4, fun k => ?_⟩
      rw [bits_Len64.j0, if_neg (by omega), if_neg (by omega), if_pos (by omega), if_pos (by omega), show (n : Int) % 256 = (n : Int) by omega]
      have e' : bt ⟨#[0, 1, 2, 2, 3, 3, 3, 3, 4, 4, 4, 4, 4, 4, 4, 4, 5, 5, 5, 5, 5, 5, 5, 5, 5, 5, 5, 5, 5, 5, 5, 5, 6, 6, 6, 6, 6, 6, 6, 6, 6, 6, 6, 6, 6, 6, 6, 6, 6, 6, 6, 6, 6, 6, 6, 6, 6, 6, 6, 6, 6, 6, 6, 6, 7, 7, 7, 7, 7, 7, 7, 7, 7, 7, 7, 7, 7, 7, 7, 7, 7, 7, 7, 7, 7, 7, 7, 7, 7, 7, 7, 7, 7, 7, 7, 7, 7, 7, 7, 7, 7, 7, 7, 7, 7, 7, 7, 7, 7, 7, 7, 7, 7, 7, 7, 7, 7, 7, 7, 7, 7, 7, 7, 7, 7, 7, 7, 7, 8, 8, 8, 8, 8, 8, 8, 8, 8, 8, 8, 8, 8, 8, 8, 8, 8, 8, 8, 8, 8, 8, 8, 8, 8, 8, 8, 8, 8, 8, 8, 8, 8, 8, 8, 8, 8, 8, 8, 8, 8, 8, 8, 8, 8, 8, 8, 8, 8, 8, 8, 8, 8, 8, 8, 8, 8, 8, 8, 8, 8, 8, 8, 8, 8, 8, 8, 8, 8, 8, 8, 8, 8, 8, 8, 8, 8, 8, 8, 8, 8, 8, 8, 8, 8, 8, 8, 8, 8, 8, 8, 8, 8, 8, 8, 8, 8, 8, 8, 8, 8, 8, 8, 8, 8, 8, 8, 8, 8, 8, 8, 8, 8, 8, 8, 8, 8, 8, 8, 8, 8, 8, 8, 8, 8, 8, 8, 8]⟩ (n : Int) = (t : Int) := e
      rw [e', w64 (n := (t : Int)) (by omega) (by omega), w64 (by omega) (by omega), Int.zero_add]
theorem long_ok (a b : Nat) (h0 : 0 < a + b) (h1 : a + b < 16777216) : ∃ d : Nat, 1 ≤ d ∧ d ≤ 24 ∧ a + b < 2 ^ d ∧ 2 ^ (d - 1) ≤ a + b ∧ ∀ k, lay_long.f (k + 1) (a : Int) (b : Int) = some (d : Int) := by
  obtain ⟨d, d1, d2, d3, d4, hd⟩ := len_j0 (a + b) h0 h1
  refine ⟨d, d1, d2, d3, d4, fun k => ?_⟩
  have hw : ∀ x : Int, IntKind.u64.wrap x = x % 18446744073709551616 := fun x => by simp [IntKind.wrap, IntKind.bits, IntKind.signed]
  unfold lay_long.f bits_Len.f bits_Len64.f
  rw [w64 (by omega) (by omega), hw, show ((a : Int) + (b : Int)) % 18446744073709551616 = ((a + b : Nat) : Int) by omega, if_neg (by omega), hd k]
  rfl
/-! ### Numbers modulo 8380417 -/
theorem of_is (x : Int) (h0 : -4000000000 < x) (h1 : x < 4000000000) : round_Of.f x = some (x % 8380417) := by
  unfold round_Of.f
  by_cases c : 0 ≤ x
  · rw [Int.tmod_eq_emod_of_nonneg c, if_neg (by omega)]
  · obtain ⟨y, rfl⟩ : ∃ y, x = -y := ⟨-x, by omega⟩
    rw [Int.neg_tmod, Int.tmod_eq_emod_of_nonneg (by omega)]
    by_cases c2 : y % 8380417 = 0
    · rw [if_neg (by omega)]
      congr 1
      omega
    · rw [if_pos (by omega), w64 (by omega) (by omega)]
      congr 1
      omega
/-- Is a number none of a poly? -/
def odd (x : Int) : Bool := decide (x < 0) || decide (x ≥ 8380417)
def mayB (l : List Int) : Bool := decide (l.length = 256) && !l.any odd
theorem odd_is (x : Int) : wave_May_1.f x = some (odd x) := by
  unfold wave_May_1.f odd
  by_cases c : x < 0
  · rw [if_pos c, decide_eq_true c]; rfl
  · rw [if_neg c, decide_eq_false c]; rfl
theorem may_idx (l : List Int) (hl : l.length < 1000) : ∀ (m i k : Nat), i + m = l.length → m < k → ∃ r, slices_IndexFunc_int_int_at_wave_May_1.l0 k l (l.length : Int) (i : Int) = some r ∧ decide (r ≥ 0) = (l.drop i).any odd
  | 0, i, k + 1, hi, hk => ⟨-1, by rw [slices_IndexFunc_int_int_at_wave_May_1.l0, if_neg (by omega)], by rw [List.drop_of_length_le (by omega)]; rfl⟩
  | m + 1, i, k + 1, hi, hk => by
    have hil : i < l.length := by omega
    have e : l.drop i = l[i] :: l.drop (i + 1) := (List.getElem_cons_drop hil).symm
    rw [slices_IndexFunc_int_int_at_wave_May_1.l0, if_pos (by omega), if_pos (by omega), if_pos (by omega), rdI l i hil, odd_is, Option.bind_some, e, List.any_cons]
    by_cases c : odd l[i] = true
    · rw [if_pos c]
      exact ⟨_, rfl, by rw [c, Bool.true_or, decide_eq_true (by omega)]⟩
    · rw [if_neg c, w64 (by omega) (by omega), show (i : Int) + 1 = ((i + 1 : Nat) : Int) by omega, Bool.eq_false_iff.mpr c, Bool.false_or]
      exact may_idx l hl m (i + 1) k (by omega) (by omega)
theorem may_is (k : Nat) (l : List Int) (hl : l.length < 1000) (hk : 1000 < k) : wave_May.f k l = some (mayB l) := by
  unfold wave_May.f mayB
  by_cases c : l.length = 256
  · rw [if_pos (by omega), decide_eq_true c, Bool.true_and]
    unfold slices_ContainsFunc_int_int_at_wave_May_1.f slices_IndexFunc_int_int_at_wave_May_1.f
    obtain ⟨r, h1, h2⟩ := may_idx l hl l.length 0 k (by omega) (by omega)
    rw [Int.natCast_zero] at h1
    rw [List.drop_zero] at h2
    rw [h1, ← h2]
    rfl
  · rw [if_neg (by omega), decide_eq_false c, Bool.false_and]
theorem mayB_yes (l : List Int) (h : mayB l = true) : l.length = 256 ∧ ∀ x ∈ l, 0 ≤ x ∧ x < 8380417 := by
  unfold mayB at h
  rw [Bool.and_eq_true, decide_eq_true_eq, Bool.not_eq_true', List.any_eq_false] at h
  refine ⟨h.1, fun x hx => ?_⟩
  have := h.2 x hx
  simp only [odd, Bool.or_eq_true, decide_eq_true_eq] at this
  omega
theorem mayB_of (l : List Int) (hl : l.length = 256) (h : ∀ x ∈ l, 0 ≤ x ∧ x < 8380417) : mayB l = true := by
  unfold mayB
  rw [Bool.and_eq_true, decide_eq_true_eq, Bool.not_eq_true', List.any_eq_false]
  refine ⟨hl, fun x hx => ?_⟩
  have := h x hx
  simp only [odd, Bool.or_eq_true, decide_eq_true_eq]
  omega
theorem may_yes (k : Nat) (l : List Int) (hl : l.length = 256) (h : ∀ x ∈ l, 0 ≤ x ∧ x < 8380417) (hk : 1000 < k) : wave_May.f k l = some true := by rw [may_is k l (by omega) hk, mayB_of l hl h]
theorem bounds_yes (a b : Nat) (ha : a ≤ 1048576) (hb : b ≤ 1048576) (h : 0 < a + b) : lay_bounds.f (a : Int) (b : Int) = some true := by
  unfold lay_bounds.f
  rw [if_pos (by omega), if_pos (by omega), if_pos (by omega), if_pos (by omega), w64 (by omega) (by omega), decide_eq_true (by omega)]
/-- A number that is laid, as it is laid. -/
def turn (b : Nat) (x : Int) : Int := ((b : Int) - x) % 8380417
theorem near_l0 (a b d : Nat) (ha : a ≤ 1048576) (hb : b ≤ 1048576) (f : List Int) (hf : f.length = 256) (h : ∀ x ∈ f, 0 ≤ x ∧ x < 8380417) (hd1 : 1 ≤ d) (hd2 : d ≤ 24) (hd3 : a + b < 2 ^ d) (hlong : ∀ k, lay_long.f (k + 1) (a : Int) (b : Int) = some (d : Int)) :
    ∀ (m i k : Nat), i + m = 256 → (∀ j (hj : j < f.length), j < i → turn b f[j] ≤ (a : Int) + b) → 2000 + m < k →
    lay_Near.l0 k (a : Int) (b : Int) ((f.take i).map (turn b)) f 256 (i : Int) = some (if ∀ x ∈ f, turn b x ≤ (a : Int) + b then digs (32 * d) (val d (f.map (turn b))) else [])
  | 0, i, k + 1, hi, hp, hk => by
    obtain rfl : i = 256 := by omega
    have hall : ∀ x ∈ f, turn b x ≤ (a : Int) + b := fun x hx => by
      obtain ⟨j, hj, rfl⟩ := List.getElem_of_mem hx
      exact hp j hj (by omega)
    obtain ⟨k', rfl⟩ : ∃ k', k = k' + 1 := ⟨k - 1, by omega⟩
    have hfit : fit d (f.map (turn b)) := fun x hx => by
      obtain ⟨y, hy, rfl⟩ := List.mem_map.mp hx
      have h1 := hall y hy
      have h2 : 0 ≤ turn b y := Int.emod_nonneg _ (by decide)
      have h3 : ((a + b : Nat) : Int) < ((2 ^ d : Nat) : Int) := by exact_mod_cast hd3
      exact ⟨h2, by omega⟩
    have hpk := pack_ok (k' + 1) d hd1 hd2 (f.map (turn b)) hfit (by rw [List.length_map]; omega) (by rw [List.length_map]; omega)
    rw [lay_Near.l0, if_neg (by omega), hlong, Option.bind_some, List.take_of_length_le (by omega), hpk, if_pos hall, List.length_map, hf, show (d * 256 + 7) / 8 = 32 * d by omega]
    rfl
  | m + 1, i, k + 1, hi, hp, hk => by
    have hil : i < f.length := by omega
    have hx := h f[i] (List.getElem_mem hil)
    rw [lay_Near.l0, if_pos (by omega), if_pos (by omega), if_pos (by omega), rdI f i hil, w64 (by omega) (by omega), of_is _ (by omega) (by omega), Option.bind_some, ← turn, w64 (n := (a : Int) + b) (by omega) (by omega)]
    by_cases c : turn b f[i] > (a : Int) + b
    · rw [if_pos c, if_neg (fun hall => by have := hall f[i] (List.getElem_mem hil); omega)]
    · rw [if_neg c, if_pos (by rw [List.length_map, List.length_take]; omega), w64 (by omega) (by omega), show (i : Int) + 1 = ((i + 1 : Nat) : Int) by omega]
      have e : (f.take i).map (turn b) ++ [turn b f[i]] = (f.take (i + 1)).map (turn b) := by rw [List.take_succ_eq_append_getElem hil, List.map_append]; rfl
      rw [e, near_l0 a b d ha hb f hf h hd1 hd2 hd3 hlong m (i + 1) k (by omega) (fun j hj hji => by
        by_cases c2 : j < i
        · exact hp j hj c2
        · obtain rfl : j = i := by omega
          omega) (by omega)]
theorem near_is (k a b d : Nat) (ha : a ≤ 1048576) (hb : b ≤ 1048576) (f : List Int) (hf : f.length = 256) (h : ∀ x ∈ f, 0 ≤ x ∧ x < 8380417) (h0 : 0 < a + b) (hd1 : 1 ≤ d) (hd2 : d ≤ 24) (hd3 : a + b < 2 ^ d) (hlong : ∀ k, lay_long.f (k + 1) (a : Int) (b : Int) = some (d : Int)) (hk : 3000 < k) :
    lay_Near.f k (a : Int) (b : Int) f = some (if ∀ x ∈ f, turn b x ≤ (a : Int) + b then digs (32 * d) (val d (f.map (turn b))) else []) := by
  unfold lay_Near.f
  obtain ⟨k, rfl⟩ : ∃ k', k = k' + 1 := ⟨k - 1, by omega⟩
  refine bnd (bounds_yes a b ha hb h0) (ifp rfl (bnd (may_yes _ f hf h (by omega)) ?_))
  rw [Bool.not_true, lay_Near.j0, if_neg (by simp), hf]
  have := near_l0 a b d ha hb f hf h hd1 hd2 hd3 hlong 256 0 k (by omega) (fun _ _ hj => by omega) (by omega)
  simpa using this
/-! ### And back -/
theorem far_l0 (b : Nat) (hb : b ≤ 1048576) (xs : List Int) (hl : xs.length < 1000000) (hx : ∀ x ∈ xs, 0 ≤ x ∧ x < 16777216) : ∀ (m i k : Nat), i + m = xs.length → m < k →
    lay_Far.l0 k (b : Int) ((xs.take i).map (turn b) ++ xs.drop i) (xs.length : Int) (i : Int) = some (xs.map (turn b))
  | 0, i, k + 1, hi, hk => by
    rw [lay_Far.l0, if_neg (by omega), List.take_of_length_le (by omega), List.drop_of_length_le (by omega), List.append_nil]
  | m + 1, i, k + 1, hi, hk => by
    have hil : i < xs.length := by omega
    have hx1 := hx xs[i] (List.getElem_mem hil)
    have hlen : ((xs.take i).map (turn b)).length = i := by rw [List.length_map, List.length_take]; omega
    have e : xs.drop i = xs[i] :: xs.drop (i + 1) := (List.getElem_cons_drop hil).symm
    have hrd : rd ((xs.take i).map (turn b) ++ xs.drop i) (i : Int) = xs[i] := by
      unfold rd
      rw [Int.toNat_natCast, List.getD_eq_getElem?_getD, List.getElem?_append_right (by omega), hlen, Nat.sub_self, e]
      rfl
    rw [lay_Far.l0, if_pos (by omega), if_pos (by omega), if_pos (by rw [List.length_append, hlen, List.length_drop]; omega), hrd, w64 (by omega) (by omega), of_is _ (by omega) (by omega), Option.bind_some, ← turn, w64 (by omega) (by omega), show (i : Int) + 1 = ((i + 1 : Nat) : Int) by omega]
    have hset : ((xs.take i).map (turn b) ++ xs.drop i).set (i : Int).toNat (turn b xs[i]) = (xs.take (i + 1)).map (turn b) ++ xs.drop (i + 1) := by
      rw [Int.toNat_natCast, List.set_append_right _ _ (by omega), hlen, Nat.sub_self, e, List.set_cons_zero, List.take_succ_eq_append_getElem hil, List.map_append, List.append_assoc]
      rfl
    rw [hset, far_l0 b hb xs hl hx m (i + 1) k (by omega) (by omega)]
theorem far_is (k a b d : Nat) (ha : a ≤ 1048576) (hb : b ≤ 1048576) (bs : List Int) (hbs : fit 8 bs) (hl : bs.length = 32 * d) (h0 : 0 < a + b) (hd1 : 1 ≤ d) (hd2 : d ≤ 24) (hlong : ∀ k, lay_long.f (k + 1) (a : Int) (b : Int) = some (d : Int)) (hk : 40000 < k) :
    lay_Far.f k (a : Int) (b : Int) bs = some ((unp d 256 (val 8 bs)).map (turn b)) := by
  unfold lay_Far.f
  obtain ⟨k, rfl⟩ : ∃ k', k = k' + 2 := ⟨k - 2, by omega⟩
  refine bnd (bounds_yes a b ha hb h0) (ifp rfl (bnd (hlong _) ?_))
  have hne : (((bs.length : Int)) != wrap64 (32 * (d : Int))) = false := by rw [w64 (by omega) (by omega), bne_eq_false_iff_eq]; omega
  rw [hne, lay_Far.j0, if_neg (by simp)]
  have hu := unpack_ok (k + 1) d hd1 hd2 bs hbs (by omega) (by omega)
  have hdiv : 8 * bs.length / d = 256 := by rw [hl, show 8 * (32 * d) = d * 256 by omega]; exact Nat.mul_div_cancel_left _ hd1
  rw [hdiv] at hu
  refine bnd (hlong _) (bnd hu ?_)
  have hlen := unp_len d 256 (val 8 bs)
  have hfit := unp_fit d 256 (val 8 bs)
  have hd24 : (2 : Nat) ^ d ≤ 16777216 := Nat.le_trans (Nat.pow_le_pow_right (by decide) hd2) (by decide)
  have := far_l0 b hb (unp d 256 (val 8 bs)) (by omega) (fun x hx => by
    have h1 := hfit x hx
    generalize (2 : Nat) ^ d = P at h1 hd24
    exact ⟨h1.1, by omega⟩) 256 0 (k + 1) (by omega) (by omega)
  rw [List.take_zero, List.map_nil, List.nil_append, List.drop_zero, Int.natCast_zero] at this
  exact this
end Go.Proofs.YtggiddekbocokaaDoor.PackH
