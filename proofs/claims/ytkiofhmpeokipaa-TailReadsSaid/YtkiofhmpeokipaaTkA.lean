import Derived.Test.YtkiofhmpeokipaaPD
namespace Go.Proofs.Ytkiofhmpeokipaa.PTA
open Go.RowKit Go.Proofs.YtkiofhmpeokipaaW.PrintWords Go.Proofs.YtkiofhmpeokipaaW.PrintLast Go.Proofs.YtkiofhmpeokipaaW.PrintMore
attribute [local go_sem] max2_int min2_int max_two min_two max_three min_three max_four min_four
set_option linter.unusedVariables false
set_option linter.unusedSimpArgs false
section
theorem w64' {n : Int} (h0 : -9223372036854775808 ≤ n) (h1 : n ≤ 9223372036854775807) : wrap64 n = n := by unfold wrap64; omega
theorem rdI' (l : List Int) (i : Nat) (h : i < l.length) : rd l (i : Int) = l[i] := by
  unfold rd
  rw [Int.toNat_natCast, List.getD_eq_getElem?_getD, List.getElem?_eq_getElem h]
  rfl
/-- What bytes are as one number, the highest first. -/
def bv : List Int → Int
  | [] => 0
  | x :: r => x * 256 ^ r.length + bv r
theorem bv_snoc : ∀ (a : List Int) (x : Int), bv (a ++ [x]) = bv a * 256 + x
  | [], x => by simp [bv]
  | y :: r, x => by
    rw [List.cons_append, bv, bv, bv_snoc r x, List.length_append, List.length_cons, List.length_nil, Nat.zero_add, Int.pow_succ, Int.add_mul, Int.mul_assoc]
    omega
/-- Bytes alone. -/
def IsB (l : List Int) : Prop := ∀ x ∈ l, 0 ≤ x ∧ x < 256
theorem IsB.take {l : List Int} (h : IsB l) (n : Nat) : IsB (l.take n) := fun x hx => h x (List.mem_of_mem_take hx)
theorem IsB.drop {l : List Int} (h : IsB l) (n : Nat) : IsB (l.drop n) := fun x hx => h x (List.mem_of_mem_drop hx)
theorem IsB.append {a b : List Int} (h : IsB a) (k : IsB b) : IsB (a ++ b) := fun x hx => (List.mem_append.mp hx).elim (h x) (k x)
theorem bv_lt : ∀ (l : List Int), IsB l → 0 ≤ bv l ∧ bv l < 256 ^ l.length
  | [], _ => by simp [bv]
  | x :: r, h => by
    obtain ⟨h1, h2⟩ := bv_lt r (fun y hy => h y (List.mem_cons_of_mem _ hy))
    obtain ⟨h3, h4⟩ := h x (List.mem_cons_self ..)
    have hp : (0 : Int) < 256 ^ r.length := Int.pow_pos (by omega)
    have h5 : 0 ≤ x * 256 ^ r.length := Int.mul_nonneg h3 (by omega)
    have h6 : (x + 1) * 256 ^ r.length ≤ 256 * 256 ^ r.length := Int.mul_le_mul_of_nonneg_right (by omega) (by omega)
    rw [Int.add_mul, Int.one_mul] at h6
    simp only [bv, List.length_cons, Int.pow_succ]
    rw [Int.mul_comm (256 ^ r.length) 256]
    generalize x * 256 ^ r.length = a at *
    generalize 256 * 256 ^ r.length = b at *
    generalize (256 : Int) ^ r.length = c at *
    omega
/-- A number of so many bytes is its bytes. -/
theorem bv_inj : ∀ (a b : List Int), IsB a → IsB b → a.length = b.length → bv a = bv b → a = b
  | [], b, _, _, hl, _ => by cases b with | nil => rfl | cons => cases hl
  | x :: r, [], _, _, hl, _ => by cases hl
  | x :: r, y :: t, ha, hb, hl, he => by
    have hl' : r.length = t.length := by simpa using hl
    have hr : IsB r := fun z hz => ha z (List.mem_cons_of_mem _ hz)
    have ht : IsB t := fun z hz => hb z (List.mem_cons_of_mem _ hz)
    obtain ⟨a1, a2⟩ := bv_lt r hr
    obtain ⟨b1, b2⟩ := bv_lt t ht
    rw [bv, bv, hl'] at he
    rw [hl'] at a2
    have hxy : x = y := by
      generalize hp : (256 : Int) ^ t.length = p at *
      have hpos : 0 < p := by omega
      rcases Int.lt_trichotomy x y with h | h | h
      · have h6 : (x + 1) * p ≤ y * p := Int.mul_le_mul_of_nonneg_right (by omega) (by omega)
        rw [Int.add_mul, Int.one_mul] at h6
        omega
      · exact h
      · have h6 : (y + 1) * p ≤ x * p := Int.mul_le_mul_of_nonneg_right (by omega) (by omega)
        rw [Int.add_mul, Int.one_mul] at h6
        omega
    subst hxy
    rw [bv_inj r t hr ht hl' (by omega)]
/-- The bytes of a number. -/
def beN : Nat → Int → List Int
  | 0, _ => []
  | k + 1, n => n / 256 ^ k % 256 :: beN k n
theorem beN_len : ∀ (k : Nat) (n : Int), (beN k n).length = k
  | 0, _ => rfl
  | k + 1, n => by rw [beN, List.length_cons, beN_len k n]
theorem beN_B : ∀ (k : Nat) (n : Int), IsB (beN k n)
  | 0, _ => fun x hx => by cases hx
  | k + 1, n => fun x hx => by
    rw [beN] at hx
    rcases List.mem_cons.mp hx with rfl | h
    · exact ⟨Int.emod_nonneg _ (by omega), Int.emod_lt_of_pos _ (by omega)⟩
    · exact beN_B k n x h
theorem bv_beN2 (n : Int) (h0 : 0 ≤ n) (h1 : n < 65536) : bv (beN 2 n) = n := by
  simp only [beN, bv, List.length_cons, List.length_nil, Nat.zero_add, Int.pow_zero, Int.mul_one, Int.add_zero, Int.pow_one, Int.ediv_one, Int.reducePow]
  omega
theorem bv_beN8 (n : Int) (h0 : 0 ≤ n) (h1 : n < 18446744073709551616) : bv (beN 8 n) = n := by
  simp only [beN, bv, List.length_cons, List.length_nil, Nat.zero_add, Int.pow_zero, Int.mul_one, Int.add_zero, Int.pow_one, Int.ediv_one, Nat.reduceAdd, Int.reducePow]
  omega
theorem get_or (a x : Int) (h0 : 0 ≤ a) (h1 : a < 72057594037927936) (h2 : 0 ≤ x) (h3 : x < 256) : Go.bits .or .i64 (wrap64 (a * 256)) (wrap64 x) = wrap64 (a * 256 + x) := by
  obtain ⟨m, rfl⟩ := Int.eq_ofNat_of_zero_le h0
  obtain ⟨y, rfl⟩ := Int.eq_ofNat_of_zero_le h2
  have hw : ∀ n : Int, BitVec.ofInt 64 (wrap64 n) = BitVec.ofInt 64 n := fun n => by
    apply BitVec.eq_of_toInt_eq
    rw [BitVec.toInt_ofInt, BitVec.toInt_ofInt]
    unfold wrap64
    simp only [Int.bmod]
    omega
  have e1 : BitVec.ofInt 64 ((m : Int) * 256) = BitVec.ofNat 64 (2 ^ 8 * m) := by
    rw [← BitVec.ofInt_natCast]; congr 1; omega
  have e2 : (BitVec.ofInt 64 (wrap64 ((m : Int) * 256)) ||| BitVec.ofInt 64 (wrap64 (y : Int))).toNat = 2 ^ 8 * m + y := by
    rw [hw, hw, e1, BitVec.ofInt_natCast, BitVec.toNat_or, BitVec.toNat_ofNat, BitVec.toNat_ofNat, Nat.mod_eq_of_lt (by omega), Nat.mod_eq_of_lt (by omega), ← Nat.two_pow_add_eq_or_of_lt (by omega : y < 2 ^ 8) m]
  show IntKind.i64.wrap ((BitVec.ofInt 64 (wrap64 ((m : Int) * 256)) ||| BitVec.ofInt 64 (wrap64 (y : Int))).toNat : Int) = _
  rw [e2, i64_w]
  congr 1
  omega
theorem get_l (l : List Int) (hl : l.length ≤ 8) (hb : IsB l) : ∀ (m i k : Nat), i + m = l.length → m < k → tail_get.l0 k (wrap64 (bv (l.take i))) l (l.length : Int) (i : Int) = some (wrap64 (bv l))
  | 0, i, k + 1, hi, _ => by
    rw [tail_get.l0, if_neg (by omega), List.take_of_length_le (by omega)]
  | m + 1, i, k + 1, hi, hk => by
    have hil : i < l.length := by omega
    have hw : wrap64 ((i : Int) + 1) = ((i + 1 : Nat) : Int) := by unfold wrap64; omega
    obtain ⟨b1, b2⟩ := bv_lt (l.take i) (hb.take i)
    have h3 : bv (l.take i) < 72057594037927936 := by
      have hlen : (l.take i).length = i := by rw [List.length_take]; omega
      rw [hlen] at b2
      refine Int.lt_of_lt_of_le b2 ?_
      rcases (by omega : i = 0 ∨ i = 1 ∨ i = 2 ∨ i = 3 ∨ i = 4 ∨ i = 5 ∨ i = 6 ∨ i = 7) with rfl | rfl | rfl | rfl | rfl | rfl | rfl | rfl <;> decide
    obtain ⟨c1, c2⟩ := hb l[i] (List.getElem_mem hil)
    rw [tail_get.l0, if_pos (by omega), if_pos (by omega), if_pos (by omega), rdI' l i hil, w64' (n := bv (l.take i)) (by omega) (by omega), get_or _ _ b1 h3 c1 c2, hw, ← bv_snoc, ← List.take_succ_eq_append_getElem hil]
    exact get_l l hl hb m (i + 1) k (by omega) (by omega)
theorem get_f (l : List Int) (hl : l.length ≤ 8) (hb : IsB l) : tail_get.f 100 l = some (wrap64 (bv l)) := by
  have := get_l l hl hb l.length 0 100 (by omega) (by omega)
  have e : wrap64 (bv (l.take 0)) = 0 := w64' (by rw [List.take_zero]; decide) (by rw [List.take_zero]; decide)
  rw [e] at this
  exact this
theorem get_f2 (l : List Int) (hl : l.length = 2) (hb : IsB l) : tail_get.f 100 l = some (bv l) := by
  rw [get_f l (by omega) hb, w64']
  · have := (bv_lt l hb).1; omega
  · have := (bv_lt l hb).2; rw [hl] at this; omega
/-! ### put, Number, lay -/
theorem byte_shr (n : Int) (s j : Nat) (hs : s = 8 * j) (h : j < 8) : (shr .u64 (IntKind.u64.wrap n) (s : Int)) % 256 = n / 256 ^ j % 256 := by
  have hw : IntKind.u64.wrap n = n % 18446744073709551616 := by simp [IntKind.wrap, IntKind.bits, IntKind.signed]
  unfold shr
  rw [hw, Int.toNat_natCast, Nat.min_eq_left (by simp only [IntKind.bits]; omega)]
  subst hs
  rcases (by omega : j = 0 ∨ j = 1 ∨ j = 2 ∨ j = 3 ∨ j = 4 ∨ j = 5 ∨ j = 6 ∨ j = 7) with rfl | rfl | rfl | rfl | rfl | rfl | rfl | rfl <;> simp only [Nat.reduceMul, Int.reducePow, Int.pow_zero, Int.pow_one] <;> omega
theorem wk01 : wrap64 (0 + 1) = 1 := w64' (by decide) (by decide)
theorem wk11 : wrap64 (1 + 1) = 2 := w64' (by decide) (by decide)
theorem wk21 : wrap64 (2 + 1) = 3 := w64' (by decide) (by decide)
theorem wk31 : wrap64 (3 + 1) = 4 := w64' (by decide) (by decide)
theorem num_step' (k : Nat) (x0 : List Int) (n s : Int) (x10 : List Int) (x11 x12 : Int) (h0 : 0 ≤ s) (h1 : s ≤ 56) (hx : x0.length < 140737488355328) :
    code_Number.l1 (k + 1) x0 n s x10 x11 x12 = code_Number.l1 k (x0 ++ [(shr .u64 (IntKind.u64.wrap n) s) % 256]) n (s - 8) x10 x11 x12 := by
  rw [code_Number.l1, if_pos h0, if_pos h0, if_pos hx, w64' (by omega) (by omega)]
theorem num_l1' (k : Nat) (x0 : List Int) (n : Int) (x10 : List Int) (x11 x12 : Int) (hx : x0.length + 8 < 140737488355328) :
    code_Number.l1 (k + 9) x0 n 56 x10 x11 x12 = code_Number.l0 k (x0 ++ beN 8 n) x10 x11 (wrap64 (x12 + 1)) := by
  rw [num_step' _ _ _ _ _ _ _ (by omega) (by omega) (by omega)]
  rw [num_step' _ _ _ _ _ _ _ (by omega) (by omega) (by simp only [List.length_append, List.length_cons, List.length_nil]; omega)]
  rw [num_step' _ _ _ _ _ _ _ (by omega) (by omega) (by simp only [List.length_append, List.length_cons, List.length_nil]; omega)]
  rw [num_step' _ _ _ _ _ _ _ (by omega) (by omega) (by simp only [List.length_append, List.length_cons, List.length_nil]; omega)]
  rw [num_step' _ _ _ _ _ _ _ (by omega) (by omega) (by simp only [List.length_append, List.length_cons, List.length_nil]; omega)]
  rw [num_step' _ _ _ _ _ _ _ (by omega) (by omega) (by simp only [List.length_append, List.length_cons, List.length_nil]; omega)]
  rw [num_step' _ _ _ _ _ _ _ (by omega) (by omega) (by simp only [List.length_append, List.length_cons, List.length_nil]; omega)]
  rw [num_step' _ _ _ _ _ _ _ (by omega) (by omega) (by simp only [List.length_append, List.length_cons, List.length_nil]; omega)]
  rw [code_Number.l1, if_neg (by omega)]
  simp only [List.append_assoc, List.cons_append, List.nil_append]
  have e : ∀ j : Nat, j < 8 → (shr .u64 (IntKind.u64.wrap n) ((8 * j : Nat) : Int)) % 256 = n / 256 ^ j % 256 := fun j hj => byte_shr n (8 * j) j rfl hj
  have e7 := e 7 (by omega)
  have e6 := e 6 (by omega)
  have e5 := e 5 (by omega)
  have e4 := e 4 (by omega)
  have e3 := e 3 (by omega)
  have e2 := e 2 (by omega)
  have e1 := e 1 (by omega)
  have e0 := e 0 (by omega)
  simp only [Nat.reduceMul, Int.cast_ofNat_Int] at e7 e6 e5 e4 e3 e2 e1 e0
  show code_Number.l0 k (x0 ++ [(shr .u64 (IntKind.u64.wrap n) 56) % 256, (shr .u64 (IntKind.u64.wrap n) 48) % 256, (shr .u64 (IntKind.u64.wrap n) 40) % 256, (shr .u64 (IntKind.u64.wrap n) 32) % 256, (shr .u64 (IntKind.u64.wrap n) 24) % 256, (shr .u64 (IntKind.u64.wrap n) 16) % 256, (shr .u64 (IntKind.u64.wrap n) 8) % 256, (shr .u64 (IntKind.u64.wrap n) 0) % 256]) x10 x11 (wrap64 (x12 + 1)) = _
  rw [e7, e6, e5, e4, e3, e2, e1]
  have e0' : (shr .u64 (IntKind.u64.wrap n) 0) % 256 = n / 256 ^ 0 % 256 := e0
  rw [e0']
  rfl
theorem number2 (g n : Int) : code_Number.f 100 [] [g, n] = some (beN 8 g ++ beN 8 n) := by
  unfold code_Number.f
  have hc : slices_Clone_byte_byte.f [] = some [] := rfl
  have e1 : rd [g, n] 0 = g := rfl
  have e2 : rd [g, n] 1 = n := rfl
  have l1 : (([g, n] : List Int).length : Int) = 2 := rfl
  rw [hc, Option.bind_some, l1, code_Number.l0, if_pos (by decide), if_pos (by decide), if_pos (by rw [l1]; decide), e1, num_l1' 90 _ _ _ _ _ (by simp), wk01]
  rw [code_Number.l0, if_pos (by decide), if_pos (by decide), if_pos (by rw [l1]; decide), e2, num_l1' 80 _ _ _ _ _ (by rw [List.nil_append, beN_len]; omega), wk11, code_Number.l0, if_neg (by decide)]
  rfl
theorem put_f (l : List Int) (n : Int) (h : l.length < 100000) : tail_put.f 10 l n 2 = some (l ++ beN 2 n) := by
  have h8 : (shr .i64 n 8) % 256 = n / 256 ^ 1 % 256 := by
    unfold shr
    rw [show (8 : Int).toNat = 8 from rfl, Nat.min_eq_left (by decide)]
    simp only [Int.reducePow, Int.pow_one]
  have h0 : (shr .i64 n 0) % 256 = n / 256 ^ 0 % 256 := by
    unfold shr
    rw [show (0 : Int).toNat = 0 from rfl, Nat.min_eq_left (by decide)]
    rfl
  have v1 : wrap64 (2 - 1) = 1 := w64' (by decide) (by decide)
  have v2 : wrap64 (8 * 1) = 8 := w64' (by decide) (by decide)
  have v3 : wrap64 (1 - 1) = 0 := w64' (by decide) (by decide)
  have v4 : wrap64 (8 * 0) = 0 := w64' (by decide) (by decide)
  unfold tail_put.f
  rw [tail_put.l0, v1, v2, if_pos (by decide), if_pos (by decide), if_pos (by omega), h8]
  rw [tail_put.l0, v3, v4, if_pos (by decide), if_pos (by decide), if_pos (by rw [List.length_append, List.length_singleton]; omega), h0]
  rw [tail_put.l0, if_neg (by decide), List.append_assoc]
  rfl
/-- A frame's block. -/
def blkL (g n i m : Int) (p : List Int) : List Int := beN 8 g ++ beN 8 n ++ beN 2 i ++ beN 2 m ++ beN 2 (p.length : Int) ++ beN 2 0 ++ p ++ List.replicate (488 - p.length) 0
theorem blkL_len (g n i m : Int) (p : List Int) (h : p.length ≤ 488) : (blkL g n i m p).length = 512 := by
  unfold blkL
  simp only [List.length_append, beN_len, List.length_replicate]
  omega
theorem put_mono (l : List Int) (n : Int) (h : l.length < 100000) (k : Nat) : tail_put.f (10 + k) l n 2 = some (l ++ beN 2 n) := by
  induction k with
  | zero => exact put_f l n h
  | succ k ih => exact tail_put.mono _ _ _ _ _ ih
theorem lay_f (g n i m s : Int) (p : List Int) (hs : s = (p.length : Int)) (h : p.length ≤ 488) : tail_head_lay.f 100 g n i m s p = some (blkL g n i m p) := by
  subst hs
  unfold tail_head_lay.f
  rw [number2, Option.bind_some, Option.bind_some]
  have e0 : rd [i, m, (p.length : Int), 0] 0 = i := rfl
  have e1 : rd [i, m, (p.length : Int), 0] 1 = m := rfl
  have e2 : rd [i, m, (p.length : Int), 0] 2 = (p.length : Int) := rfl
  have e3 : rd [i, m, (p.length : Int), 0] 3 = 0 := rfl
  have l1 : (([i, m, (p.length : Int), 0] : List Int).length : Int) = 4 := rfl
  have hb8 : ∀ n, (beN 8 n).length = 8 := beN_len 8
  have hb2 : ∀ n, (beN 2 n).length = 2 := beN_len 2
  rw [l1, tail_head_lay.l0, if_pos (by decide), if_pos (by decide), if_pos (by rw [l1]; decide), e0, put_mono _ _ (by simp only [List.length_append, hb8, hb2]; omega) 89, Option.bind_some, wk01]
  rw [tail_head_lay.l0, if_pos (by decide), if_pos (by decide), if_pos (by rw [l1]; decide), e1, put_mono _ _ (by simp only [List.length_append, hb8, hb2]; omega) 88, Option.bind_some, wk11]
  rw [tail_head_lay.l0, if_pos (by decide), if_pos (by decide), if_pos (by rw [l1]; decide), e2, put_mono _ _ (by simp only [List.length_append, hb8, hb2]; omega) 87, Option.bind_some, wk21]
  rw [tail_head_lay.l0, if_pos (by decide), if_pos (by decide), if_pos (by rw [l1]; decide), e3, put_mono _ _ (by simp only [List.length_append, hb8, hb2]; omega) 86, Option.bind_some, wk31]
  have hlen : (beN 8 g ++ beN 8 n ++ beN 2 i ++ beN 2 m ++ beN 2 (p.length : Int) ++ beN 2 0).length = 24 := by simp only [List.length_append, hb8, hb2]
  have hw : wrap64 (512 - ((beN 8 g ++ beN 8 n ++ beN 2 i ++ beN 2 m ++ beN 2 (p.length : Int) ++ beN 2 0 ++ p).length : Int)) = ((488 - p.length : Nat) : Int) := by
    rw [List.length_append, hlen]; unfold wrap64; omega
  rw [tail_head_lay.l0, if_neg (by decide), if_pos (by rw [hlen]; omega), Option.bind_some, hw, if_pos (by omega), Int.toNat_natCast, if_pos (by rw [List.length_append, hlen]; omega)]
  rfl
end

end Go.Proofs.Ytkiofhmpeokipaa.PTA
