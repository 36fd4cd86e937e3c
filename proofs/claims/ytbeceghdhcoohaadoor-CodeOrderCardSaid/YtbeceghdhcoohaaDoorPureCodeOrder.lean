/- Numbers from 0 on stand in the order of their bytes; one below 0 is behind all of them; several at once are one behind the other. No condition. -/
import Derived.Test.YtbeceghdhcoohaaDoorPCodx5
import Derived.Test.YtbeceghdhcoohaaDoorCodeBase
import Derived.Lib.Bytes
namespace Go.Proofs.YtbeceghdhcoohaaDoor.Pure
open Go.RowKit Go.Proofs.YtbeceghdhcoohaaDoor.PCod Go.Proofs.YtbeceghdhcoohaaDoor.CodeMath Go.Proofs.YtbeceghdhcoohaaDoorW.PrintWords Go.Proofs.YtbeceghdhcoohaaDoorW.PrintLast Go.Proofs.YtbeceghdhcoohaaDoorW.PrintMore

/-- What bytes are as one number. -/
def val : List Int → Int
  | [] => 0
  | x :: r => x * 256 ^ r.length + val r
theorem val_lt : ∀ (l : List Int), (∀ x ∈ l, 0 ≤ x ∧ x < 256) → 0 ≤ val l ∧ val l < 256 ^ l.length
  | [], _ => by simp [val]
  | x :: r, h => by
    obtain ⟨h1, h2⟩ := val_lt r (fun y hy => h y (List.mem_cons_of_mem _ hy))
    obtain ⟨h3, h4⟩ := h x (List.mem_cons_self ..)
    have hp : (0 : Int) < 256 ^ r.length := Int.pow_pos (by omega)
    have h5 : 0 ≤ x * 256 ^ r.length := Int.mul_nonneg h3 (by omega)
    have h6 : (x + 1) * 256 ^ r.length ≤ 256 * 256 ^ r.length := Int.mul_le_mul_of_nonneg_right (by omega) (by omega)
    rw [Int.add_mul, Int.one_mul] at h6
    simp only [val, List.length_cons, Int.pow_succ]
    generalize x * 256 ^ r.length = a at *
    rw [Int.mul_comm (256 ^ r.length) 256]
    generalize 256 * 256 ^ r.length = b at *
    generalize (256 : Int) ^ r.length = c at *
    omega
theorem u8_lt (x y : Int) (hx : 0 ≤ x ∧ x < 256) (hy : 0 ≤ y ∧ y < 256) : (UInt8.ofNat x.toNat < UInt8.ofNat y.toNat) ↔ x < y := by
  rw [UInt8.lt_iff_toNat_lt, UInt8.toNat_ofNat', UInt8.toNat_ofNat', Nat.mod_eq_of_lt (by omega), Nat.mod_eq_of_lt (by omega)]
  omega
theorem u8_eq (x y : Int) (hx : 0 ≤ x ∧ x < 256) (hy : 0 ≤ y ∧ y < 256) : (UInt8.ofNat x.toNat = UInt8.ofNat y.toNat) ↔ x = y := by
  rw [← UInt8.toNat_inj, UInt8.toNat_ofNat', UInt8.toNat_ofNat', Nat.mod_eq_of_lt (by omega), Nat.mod_eq_of_lt (by omega)]
  omega
theorem less_val : ∀ (a b : List Int), a.length = b.length → (∀ x ∈ a, 0 ≤ x ∧ x < 256) → (∀ x ∈ b, 0 ≤ x ∧ x < 256) →
    Op.bytesLess (Go.Lib.bytesOf a) (Go.Lib.bytesOf b) = decide (val a < val b)
  | [], [], _, _, _ => by simp [val, Go.Lib.bytesOf, Op.bytesLess]
  | x :: a, y :: b, hl, ha, hb => by
    have hl2 : a.length = b.length := by simpa using hl
    have hx := ha x (List.mem_cons_self ..)
    have hy := hb y (List.mem_cons_self ..)
    have ih := less_val a b hl2 (fun z hz => ha z (List.mem_cons_of_mem _ hz)) (fun z hz => hb z (List.mem_cons_of_mem _ hz))
    have h1 := val_lt a (fun z hz => ha z (List.mem_cons_of_mem _ hz))
    have h2 := val_lt b (fun z hz => hb z (List.mem_cons_of_mem _ hz))
    have e : ∀ (z : Int) (c : List Int), Go.Lib.bytesOf (z :: c) = UInt8.ofNat z.toNat :: Go.Lib.bytesOf c := fun _ _ => rfl
    rw [e, e, Op.bytesLess, ih, Bool.eq_iff_iff, Bool.or_eq_true, Bool.and_eq_true, beq_iff_eq, decide_eq_true_iff, decide_eq_true_iff, decide_eq_true_iff, u8_lt x y hx hy, u8_eq x y hx hy]
    simp only [val]
    rw [← hl2] at h2 ⊢
    have hp : (0 : Int) < 256 ^ a.length := Int.pow_pos (by omega)
    rcases Int.lt_trichotomy x y with h | h | h
    · have h6 : (x + 1) * 256 ^ a.length ≤ y * 256 ^ a.length := Int.mul_le_mul_of_nonneg_right (by omega) (by omega)
      rw [Int.add_mul, Int.one_mul] at h6
      exact ⟨fun _ => by omega, fun _ => .inl h⟩
    · subst h
      exact ⟨fun h => by rcases h with h | h <;> omega, fun h => .inr ⟨rfl, by omega⟩⟩
    · have h6 : (y + 1) * 256 ^ a.length ≤ x * 256 ^ a.length := Int.mul_le_mul_of_nonneg_right (by omega) (by omega)
      rw [Int.add_mul, Int.one_mul] at h6
      exact ⟨fun h' => by rcases h' with h' | h' <;> omega, fun h' => by omega⟩
theorem val_be8 (n : Int) : val (be8 n) = n % 18446744073709551616 := by
  have h0 := Int.emod_nonneg n (show (18446744073709551616 : Int) ≠ 0 by omega)
  have h1 := Int.emod_lt_of_pos n (show (0 : Int) < 18446744073709551616 by omega)
  rw [be8_div]
  generalize n % 18446744073709551616 = u at *
  simp only [val, List.length_cons, List.length_nil, Nat.zero_add, Nat.reduceAdd, Int.reducePow, Int.pow_zero, Int.mul_one, Int.add_zero]
  omega
theorem less_num (a b : Int) : Op.bytesLess ((strOfNums (be8 a)).toList) ((strOfNums (be8 b)).toList) = decide (a % 18446744073709551616 < b % 18446744073709551616) := by
  rw [Go.Lib.strOfNums_toList, Go.Lib.strOfNums_toList, less_val (be8 a) (be8 b) rfl (be8_bytes a) (be8_bytes b), val_be8, val_be8]
theorem CodeOrder : chatelainelaw14_CodeOrder.Pure := by
  intro a b ha hb
  have ha' : -9223372036854775808 ≤ a ∧ a ≤ 9223372036854775807 := wf_i64 ha
  have hb' : -9223372036854775808 ≤ b ∧ b ≤ 9223372036854775807 := wf_i64 hb
  refine ⟨100, ?_⟩
  unfold chatelainelaw14_CodeOrder.f
  refine bnd (number1 100 [] a (by simp) (by omega)) (bnd (number1 100 [] b (by simp) (by omega)) ?_)
  simp only [List.nil_append]
  refine ifp (by rw [be8_len]; rfl) (ifp (by rw [be8_len]; rfl) (bnd (number 100 [] [a, b] (by simp) (by simp)) (ifp (by rw [be8_len]; simp) ?_)))
  refine bnd rfl (ifp (by rw [be8_len, be8_len]; omega) (bnd (same_yes 100 _ _ (by simp [be8_len]) (by omega) (by simp)) ?_))
  rw [Bool.not_true, chatelainelaw14_CodeOrder.j0, if_neg (by simp), less_num]
  by_cases h : ((decide (a < 0)) != (decide (b < 0))) = true
  · rw [if_pos h, if_pos (by
      have h2 : ¬ (decide (a < 0) = decide (b < 0)) := by simpa using h
      rw [beq_iff_eq, decide_eq_decide]
      rw [decide_eq_decide] at h2
      omega)]
    rfl
  · rw [if_neg h, if_pos (by
      have h2 : (decide (a < 0) = decide (b < 0)) := by simpa using h
      rw [beq_iff_eq, decide_eq_decide]
      rw [decide_eq_decide] at h2
      omega)]
    rfl
end Go.Proofs.YtbeceghdhcoohaaDoor.Pure
