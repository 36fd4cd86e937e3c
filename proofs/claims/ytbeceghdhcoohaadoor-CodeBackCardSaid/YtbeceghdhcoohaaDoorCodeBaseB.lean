/- What the functions of code and the document's answer compute: one law a function. -/
import Derived.Test.YtbeceghdhcoohaaDoorPCBx0
import Derived.Test.YtbeceghdhcoohaaDoorPCBx1
import Derived.Test.YtbeceghdhcoohaaDoorPCBx2
import Derived.Test.YtbeceghdhcoohaaDoorPCBx3
namespace Go.Proofs.YtbeceghdhcoohaaDoor.CodeMathB
open Go.RowKit Go.Proofs.YtbeceghdhcoohaaDoor.PCB Go.Proofs.YtbeceghdhcoohaaDoorW.PrintWords Go.Proofs.YtbeceghdhcoohaaDoorW.PrintLast Go.Proofs.YtbeceghdhcoohaaDoorW.PrintMore

theorem bnd {α β : Type} {o : Option α} {x : α} {f : α → Option β} {r : Option β} (h : o = some x) (k : f x = r) : o.bind f = r := by rw [h]; exact k
theorem ifp {α : Type} {c : Prop} [Decidable c] {a b r : α} (h : c) (k : a = r) : (if c then a else b) = r := by rw [if_pos h]; exact k
theorem ifn {α : Type} {c : Prop} [Decidable c] {a b r : α} (h : ¬ c) (k : b = r) : (if c then a else b) = r := by rw [if_neg h]; exact k
theorem w64 {n : Int} (h0 : -9223372036854775808 ≤ n) (h1 : n ≤ 9223372036854775807) : wrap64 n = n := by unfold wrap64; omega
theorem wf_i64 {a : Int} (h : (Lit.int .i64 a).wf = true) : -9223372036854775808 ≤ a ∧ a ≤ 9223372036854775807 := by
  simp [Lit.wf, IntKind.min, IntKind.max, IntKind.signed, IntKind.bits] at h
  omega
theorem wrap_u64d (n : Int) : IntKind.u64.wrap n = n % 18446744073709551616 := by simp [IntKind.wrap, IntKind.bits, IntKind.signed]
theorem rdI (l : List Int) (i : Nat) (h : i < l.length) : rd l (i : Int) = l[i] := by
  unfold rd
  rw [Int.toNat_natCast, List.getD_eq_getElem?_getD, List.getElem?_eq_getElem h]
  rfl
theorem rdL (l : List (List Int)) (i : Nat) (h : i < l.length) : rd_L2 l (i : Int) = l[i] := by
  unfold rd_L2
  rw [Int.toNat_natCast, List.getD_eq_getElem?_getD, List.getElem?_eq_getElem h]
  rfl
/-- One byte of a number, and its eight. -/
def byt (n s : Int) : Int := (shr .u64 (IntKind.u64.wrap n) s) % 256
def be8 (n : Int) : List Int := [byt n 56, byt n 48, byt n 40, byt n 32, byt n 24, byt n 16, byt n 8, byt n 0]
theorem be8_len (n : Int) : (be8 n).length = 8 := rfl
theorem flat_len (ns : List Int) : (ns.flatMap be8).length = 8 * ns.length := by
  induction ns with
  | nil => rfl
  | cons a b ih => rw [List.flatMap_cons, List.length_append, ih, be8_len, List.length_cons]; omega
/-! ### The given one -/
theorem num_step (k : Nat) (x0 : List Int) (n s : Int) (x10 : List Int) (x11 x12 : Int) (h0 : 0 ≤ s) (h1 : s ≤ 56) (hx : x0.length < 140737488355328) :
    code_Number.l1 (k + 1) x0 n s x10 x11 x12 = code_Number.l1 k (x0 ++ [byt n s]) n (s - 8) x10 x11 x12 := by
  rw [code_Number.l1, if_pos h0, if_pos h0, if_pos hx, w64 (by omega) (by omega)]
  rfl
theorem num_l1 (k : Nat) (x0 : List Int) (n : Int) (x10 : List Int) (x11 x12 : Int) (hx : x0.length + 8 < 140737488355328) :
    code_Number.l1 (k + 9) x0 n 56 x10 x11 x12 = code_Number.l0 k (x0 ++ be8 n) x10 x11 (wrap64 (x12 + 1)) := by
  rw [num_step _ _ _ _ _ _ _ (by omega) (by omega) (by omega)]
  rw [num_step _ _ _ _ _ _ _ (by omega) (by omega) (by simp only [List.length_append, List.length_cons, List.length_nil]; omega)]
  rw [num_step _ _ _ _ _ _ _ (by omega) (by omega) (by simp only [List.length_append, List.length_cons, List.length_nil]; omega)]
  rw [num_step _ _ _ _ _ _ _ (by omega) (by omega) (by simp only [List.length_append, List.length_cons, List.length_nil]; omega)]
  rw [num_step _ _ _ _ _ _ _ (by omega) (by omega) (by simp only [List.length_append, List.length_cons, List.length_nil]; omega)]
  rw [num_step _ _ _ _ _ _ _ (by omega) (by omega) (by simp only [List.length_append, List.length_cons, List.length_nil]; omega)]
  rw [num_step _ _ _ _ _ _ _ (by omega) (by omega) (by simp only [List.length_append, List.length_cons, List.length_nil]; omega)]
  rw [num_step _ _ _ _ _ _ _ (by omega) (by omega) (by simp only [List.length_append, List.length_cons, List.length_nil]; omega)]
  rw [code_Number.l1, if_neg (by omega)]
  simp only [List.append_assoc, List.cons_append, List.nil_append]
  rfl
theorem num_l0 (ns : List Int) (hn : ns.length < 140737488355328) : ∀ (m i k : Nat) (x0 : List Int), i + m = ns.length → x0.length + 8 * m < 140737488355328 → 10 * m < k →
    code_Number.l0 k x0 ns (ns.length : Int) (i : Int) = some (x0 ++ (ns.drop i).flatMap be8)
  | 0, i, k + 1, x0, hi, _, _ => by
    rw [code_Number.l0, if_neg (by omega), List.drop_of_length_le (by omega)]
    simp
  | m + 1, i, k + 1, x0, hi, hx, hk => by
    obtain ⟨k', rfl⟩ : ∃ k', k = k' + 9 := ⟨k - 9, by omega⟩
    rw [code_Number.l0, if_pos (by omega), if_pos (by omega), if_pos (by omega), num_l1 k' x0 _ _ _ _ (by omega), w64 (by omega) (by omega),
      show (i : Int) + 1 = ((i + 1 : Nat) : Int) by omega,
      num_l0 ns hn m (i + 1) k' _ (by omega) (by rw [List.length_append, be8_len]; omega) (by omega), rdI ns i (by omega), List.append_assoc, ← List.flatMap_cons, List.getElem_cons_drop]
theorem clone (l : List Int) (h : l.length < 140737488355328) : slices_Clone_byte_byte.f l = some l := by
  unfold slices_Clone_byte_byte.f
  simp only [Option.bind_some, List.length_nil, List.nil_append]
  rw [if_pos (by omega)]
theorem number (k : Nat) (l ns : List Int) (h : l.length + 8 * ns.length < 140737488355328) (hk : 10 * ns.length < k) : code_Number.f k l ns = some (l ++ ns.flatMap be8) := by
  unfold code_Number.f
  rw [clone l (by omega), Option.bind_some]
  have := num_l0 ns (by omega) ns.length 0 k l (by omega) (by omega) (by omega)
  rw [List.drop_zero] at this
  exact this
theorem number1 (k : Nat) (l : List Int) (n : Int) (h : l.length + 8 < 140737488355328) (hk : 10 < k) : code_Number.f k l [n] = some (l ++ be8 n) := by
  rw [number k l [n] (by simp only [List.length_cons, List.length_nil]; omega) (by simp only [List.length_cons, List.length_nil]; omega)]
  simp
/-- A cpart with how long it is. -/
def cpart (p : List Int) : List Int := be8 (p.length : Int) ++ p
theorem cpart_len (p : List Int) : (cpart p).length = 8 + p.length := by unfold cpart; rw [List.length_append, be8_len]
/-- How much room the parts from one on take. -/
def room (ps : List (List Int)) : Nat := (ps.flatMap cpart).length
theorem bytes_l0 (ps : List (List Int)) (hn : ps.length < 140737488355328) : ∀ (m i k : Nat) (x0 : List Int), i + m = ps.length → x0.length + room (ps.drop i) < 140737488355328 → 11 + m < k →
    code_Bytes.l0 k x0 ps (ps.length : Int) (i : Int) = some (x0 ++ (ps.drop i).flatMap cpart)
  | 0, i, k + 1, x0, hi, _, _ => by
    rw [code_Bytes.l0, if_neg (by omega), List.drop_of_length_le (by omega)]
    simp
  | m + 1, i, k + 1, x0, hi, hx, hk => by
    have e : ps.drop i = ps[i] :: ps.drop (i + 1) := (List.getElem_cons_drop (by omega)).symm
    rw [e, room, List.flatMap_cons, List.length_append, cpart_len] at hx
    rw [code_Bytes.l0, if_pos (by omega), if_pos (by omega), if_pos (by omega), rdL ps i (by omega), number1 k x0 _ (by omega) (by omega), Option.bind_some,
      if_pos (by rw [List.length_append, be8_len]; omega), w64 (by omega) (by omega), show (i : Int) + 1 = ((i + 1 : Nat) : Int) by omega,
      bytes_l0 ps hn m (i + 1) k _ (by omega) (by rw [List.length_append, List.length_append, be8_len, room]; omega) (by omega), e, List.flatMap_cons, cpart, List.append_assoc, List.append_assoc, List.append_assoc]
theorem cbytes (k : Nat) (l : List Int) (ps : List (List Int)) (hn : ps.length < 140737488355328) (h : l.length + room ps < 140737488355328) (hk : 11 + ps.length < k) : code_Bytes.f k l ps = some (l ++ ps.flatMap cpart) := by
  unfold code_Bytes.f
  rw [clone l (by omega), Option.bind_some]
  have := bytes_l0 ps hn ps.length 0 k l (by omega) (by rw [List.drop_zero]; omega) (by omega)
  rw [List.drop_zero] at this
  exact this
theorem ctext (k : Nat) (l : List Int) (s : ByteArray) (h : l.length + s.size + 8 < 140737488355328) (hk : 12 < k) : code_Text.f k l s = some (l ++ cpart (bytesOf s)) := by
  unfold code_Text.f
  rw [if_pos (by omega), cbytes k l [bytesOf s] (by simp only [List.length_cons, List.length_nil]; omega) (by simp only [room, List.flatMap_cons, List.flatMap_nil, List.append_nil, cpart_len, bytesOf_length]; omega) (by simp only [List.length_cons, List.length_nil]; omega)]
  simp
/-! ### Likeness -/
theorem same_l0 (a b : List Int) (hl : a.length = b.length) (hb : a.length < 140737488355328) : ∀ (m i k : Nat), i + m = a.length → m < k → chatelainelaw0_SameBytes.l0 k a b (i : Int) = some (decide (a.drop i = b.drop i))
  | 0, i, k + 1, hi, hk => by
    rw [chatelainelaw0_SameBytes.l0, if_neg (by omega), List.drop_of_length_le (by omega), List.drop_of_length_le (by omega)]
    simp
  | m + 1, i, k + 1, hi, hk => by
    have e1 : a.drop i = a[i] :: a.drop (i + 1) := (List.getElem_cons_drop (by omega)).symm
    have e2 : b.drop i = b[i] :: b.drop (i + 1) := (List.getElem_cons_drop (by omega)).symm
    rw [chatelainelaw0_SameBytes.l0, if_pos (by omega), if_pos (by omega), if_pos (by omega), rdI a i (by omega), rdI b i (by omega), e1, e2]
    by_cases h : a[i] = b[i]
    · rw [if_pos h, w64 (by omega) (by omega), show (i : Int) + 1 = ((i + 1 : Nat) : Int) by omega, same_l0 a b hl hb m (i + 1) k (by omega) (by omega)]
      simp only [List.cons.injEq, h, true_and]
    · rw [if_neg h]
      simp only [List.cons.injEq, h, false_and, decide_false]
theorem same (k : Nat) (a b : List Int) (hb : a.length < k) (hk : k < 140737488355328) : chatelainelaw0_SameBytes.f k a b = some (decide (a = b)) := by
  unfold chatelainelaw0_SameBytes.f
  by_cases h : (a.length : Int) = (b.length : Int)
  · rw [if_pos h]
    have := same_l0 a b (by omega) (by omega) a.length 0 k (by omega) (by omega)
    rw [List.drop_zero, List.drop_zero] at this
    exact this
  · rw [if_neg h]
    have : a ≠ b := fun e => h (by rw [e])
    simp [this]
theorem same_yes (k : Nat) (a b : List Int) (hb : a.length < k) (hk : k < 140737488355328) (h : a = b) : chatelainelaw0_SameBytes.f k a b = some true := by rw [same k a b hb hk]; simp [h]
/-! ### Bytes of a number: each is one -/
theorem byt_range (n s : Int) : 0 ≤ byt n s ∧ byt n s < 256 := ⟨Int.emod_nonneg _ (by omega), Int.emod_lt_of_pos _ (by omega)⟩
theorem byt_div (n : Int) (s : Nat) (h : s ≤ 56) : byt n (s : Int) = (n % 18446744073709551616) / 2 ^ s % 256 := by
  unfold byt shr
  rw [wrap_u64d, Int.toNat_natCast, Nat.min_eq_left (by simp only [IntKind.bits]; omega)]
theorem be8_div (n : Int) : be8 n = [(n % 18446744073709551616) / 72057594037927936 % 256, (n % 18446744073709551616) / 281474976710656 % 256, (n % 18446744073709551616) / 1099511627776 % 256, (n % 18446744073709551616) / 4294967296 % 256,
    (n % 18446744073709551616) / 16777216 % 256, (n % 18446744073709551616) / 65536 % 256, (n % 18446744073709551616) / 256 % 256, (n % 18446744073709551616) % 256] := by
  have e7 : byt n 56 = (n % 18446744073709551616) / 72057594037927936 % 256 := by simpa using byt_div n 56 (by omega)
  have e6 : byt n 48 = (n % 18446744073709551616) / 281474976710656 % 256 := by simpa using byt_div n 48 (by omega)
  have e5 : byt n 40 = (n % 18446744073709551616) / 1099511627776 % 256 := by simpa using byt_div n 40 (by omega)
  have e4 : byt n 32 = (n % 18446744073709551616) / 4294967296 % 256 := by simpa using byt_div n 32 (by omega)
  have e3 : byt n 24 = (n % 18446744073709551616) / 16777216 % 256 := by simpa using byt_div n 24 (by omega)
  have e2 : byt n 16 = (n % 18446744073709551616) / 65536 % 256 := by simpa using byt_div n 16 (by omega)
  have e1 : byt n 8 = (n % 18446744073709551616) / 256 % 256 := by simpa using byt_div n 8 (by omega)
  have e0 : byt n 0 = (n % 18446744073709551616) % 256 := by simpa using byt_div n 0 (by omega)
  unfold be8
  rw [e7, e6, e5, e4, e3, e2, e1, e0]
theorem be8_bytes (n : Int) : ∀ x ∈ be8 n, 0 ≤ x ∧ x < 256 := by
  intro x hx
  simp only [be8, List.mem_cons, List.mem_nil_iff, or_false] at hx
  rcases hx with rfl | rfl | rfl | rfl | rfl | rfl | rfl | rfl <;> exact byt_range _ _
end Go.Proofs.YtbeceghdhcoohaaDoor.CodeMathB
