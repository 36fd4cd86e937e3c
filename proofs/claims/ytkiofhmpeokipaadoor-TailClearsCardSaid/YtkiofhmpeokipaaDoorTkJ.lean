import Derived.Test.YtkiofhmpeokipaaDoorTkI
import Derived.Test.YtkiofhmpeokipaaDoorPTAx6
namespace Go.Proofs.YtkiofhmpeokipaaDoor.PTA
open Go.RowKit Go.Proofs.YtkiofhmpeokipaaDoorW.PrintWords Go.Proofs.YtkiofhmpeokipaaDoorW.PrintLast Go.Proofs.YtkiofhmpeokipaaDoorW.PrintMore
attribute [local go_sem] max2_int min2_int max_two min_two max_three min_three max_four min_four
set_option linter.unusedVariables false
set_option linter.unusedSimpArgs false
section
/-! ### The document's blocks -/
theorem rnum_l (n : Int) : ∀ (m k : Nat) (x : List Int), m ≤ 8 → m < k → x.length + m < 100100 → chatelaineref24_num.l0 k x n ((m : Int) - 1) = some (x ++ beN m n)
  | 0, k + 1, x, _, _, _ => by
    rw [chatelaineref24_num.l0, if_neg (by omega)]
    simp [beN]
  | m + 1, k + 1, x, hm, hk, hx => by
    have e1 : ((m + 1 : Nat) : Int) - 1 = (m : Int) := by omega
    have w1 : wrap64 (8 * (m : Int)) = ((8 * m : Nat) : Int) := by rw [w64' (by omega) (by omega)]; omega
    have w2 : wrap64 ((m : Int) - 1) = (m : Int) - 1 := w64' (by omega) (by omega)
    have hs : (shr .i64 n ((8 * m : Nat) : Int)) % 256 = n / 256 ^ m % 256 := by
      unfold shr
      rw [Int.toNat_natCast, Nat.min_eq_left (by simp only [IntKind.bits]; omega), Int.pow_mul]
      rfl
    rw [e1, chatelaineref24_num.l0, if_pos (by omega), w1, if_pos (by omega), if_pos (by omega), hs, w2, rnum_l n m k _ (by omega) (by omega) (by rw [List.length_append, List.length_singleton]; omega), beN, List.append_assoc]
    rfl
theorem rnum_f (n : Int) (m k : Nat) (x : List Int) (hm : m ≤ 8) (hk : 10 < k) (hx : x.length < 100000) : chatelaineref24_num.f k x n (m : Int) = some (x ++ beN m n) := by
  unfold chatelaineref24_num.f
  have w2 : wrap64 ((m : Int) - 1) = (m : Int) - 1 := w64' (by omega) (by omega)
  rw [w2, rnum_l n m k x hm (by omega) (by omega)]
theorem rparts_f (n : Nat) (h : n ≤ 1048576) : chatelaineref24_Parts.f (n : Int) = some (prts n : Int) := parts_f n h
def blks (g k : Int) (l : List Int) (n : Nat) : List (List Int) := (List.range n).map fun j : Nat => blkL g k (j : Int) (prts l.length : Int) (partL l j)
theorem blks_len (g k : Int) (l : List Int) (n : Nat) : (blks g k l n).length = n := by unfold blks; rw [List.length_map, List.length_range]
theorem blks_succ (g k : Int) (l : List Int) (n : Nat) : blks g k l (n + 1) = blks g k l n ++ [blkL g k (n : Int) (prts l.length : Int) (partL l n)] := by unfold blks; rw [List.range_succ, List.map_append]; rfl
set_option maxRecDepth 100000 in
theorem blocks_l (g k : Int) (l : List Int) (hl : l.length ≤ 100000) : ∀ (d i r : Nat), i + d = prts l.length → 12 + d < r → chatelaineref24_Blocks.l0 r g k l (prts l.length : Int) (blks g k l i) (i : Int) = some (blks g k l (prts l.length))
  | 0, i, r + 1, hi, _ => by
    obtain rfl : i = prts l.length := by omega
    rw [chatelaineref24_Blocks.l0, if_neg (by omega)]
  | d + 1, i, r + 1, hi, hr => by
    have hp : prts l.length ≤ 300 := by unfold prts; omega
    have h488 : 488 * i ≤ l.length := by unfold prts at hi; omega
    have w1 : wrap64 ((i : Int) * 488) = ((488 * i : Nat) : Int) := by rw [w64' (by omega) (by omega)]; omega
    have w2 : wrap64 ((i : Int) + 1) = ((i + 1 : Nat) : Int) := by rw [w64' (by omega) (by omega)]; omega
    have w3 : wrap64 (((i + 1 : Nat) : Int) * 488) = ((488 * (i + 1) : Nat) : Int) := by rw [w64' (by omega) (by omega)]; omega
    have w4 : mn (l.length : Int) ((488 * (i + 1) : Nat) : Int) = ((min l.length (488 * (i + 1)) : Nat) : Int) := by unfold mn; omega
    have hpl := partL_le l i
    have e1 : (l.take ((min l.length (488 * (i + 1)) : Nat) : Int).toNat).drop ((488 * i : Nat) : Int).toNat = partL l i := by rw [Int.toNat_natCast, Int.toNat_natCast]; rfl
    have b8 : ∀ n, (beN 8 n).length = 8 := beN_len 8
    have b2 : ∀ n, (beN 2 n).length = 2 := beN_len 2
    have n8 : ∀ (x : List Int) (n : Int), x.length < 100000 → chatelaineref24_num.f r x n 8 = some (x ++ beN 8 n) := fun x n hx => rnum_f n 8 r x (by decide) (by omega) hx
    have n2 : ∀ (x : List Int) (n : Int), x.length < 100000 → chatelaineref24_num.f r x n 2 = some (x ++ beN 2 n) := fun x n hx => rnum_f n 2 r x (by decide) (by omega) hx
    have hlen : (beN 8 g ++ beN 8 k ++ beN 2 (i : Int) ++ beN 2 (prts l.length : Int) ++ beN 2 ((partL l i).length : Int) ++ beN 2 0).length = 24 := by simp only [List.length_append, b8, b2]
    have hw : wrap64 (512 - ((beN 8 g ++ beN 8 k ++ beN 2 (i : Int) ++ beN 2 (prts l.length : Int) ++ beN 2 ((partL l i).length : Int) ++ beN 2 0 ++ partL l i).length : Int)) = ((488 - (partL l i).length : Nat) : Int) := by
      rw [List.length_append, hlen, w64' (by omega) (by omega)]; omega
    rw [chatelaineref24_Blocks.l0, if_pos (by omega), w1, w2, w3, w4, if_pos (by omega), if_pos (by omega), if_pos (by omega), e1,
      n8 _ _ (by rw [List.length_nil]; omega), Option.bind_some, List.nil_append, n8 _ _ (by rw [b8]; omega), Option.bind_some, n2 _ _ (by simp only [List.length_append, b8, b2]; omega), Option.bind_some, n2 _ _ (by simp only [List.length_append, b8, b2]; omega), Option.bind_some, n2 _ _ (by simp only [List.length_append, b8, b2]; omega), Option.bind_some, n2 _ _ (by simp only [List.length_append, b8, b2]; omega), Option.bind_some,
      if_pos (by rw [hlen]; omega), Option.bind_some, hw, if_pos (by omega), Int.toNat_natCast, if_pos (by rw [List.length_append, hlen]; omega), if_pos (by rw [blks_len]; omega)]
    have := blocks_l g k l hl d (i + 1) r (by omega) (by omega)
    rw [blks_succ] at this
    exact this
theorem blocks_f (g k : Int) (l : List Int) (hl : l.length ≤ 100000) : chatelaineref24_Blocks.f 400 g k l = some (blks g k l (prts l.length)) := by
  unfold chatelaineref24_Blocks.f
  rw [rparts_f l.length (by omega), Option.bind_some]
  have hp : prts l.length ≤ 300 := by unfold prts; omega
  exact blocks_l g k l hl (prts l.length) 0 400 (by omega) (by omega)
theorem blks_at (g k : Int) (l : List Int) (n j : Nat) (hj : j < n) : (blks g k l n).getD j [] = blkL g k (j : Int) (prts l.length : Int) (partL l j) := by
  unfold blks
  rw [List.getD_eq_getElem?_getD, List.getElem?_map, List.getElem?_range hj]
  rfl
/-! ### whole, and how many are dirty -/
theorem whole_l (ls : List (List Int)) (hl : ls.length ≤ 1000) (h : ∀ l ∈ ls, l.length = 512) : ∀ (d i k : Nat), i + d = ls.length → d < k → chatelainelaw24_whole.l0 k ls (i : Int) = some true
  | 0, i, k + 1, hi, _ => by rw [chatelainelaw24_whole.l0, if_neg (by omega)]
  | d + 1, i, k + 1, hi, hk => by
    have e : rd_L4 ls (i : Int) = ls[i]'(by omega) := by
      unfold rd_L4
      rw [Int.toNat_natCast, List.getD_eq_getElem?_getD, List.getElem?_eq_getElem (by omega)]
      rfl
    have w2 : wrap64 ((i : Int) + 1) = ((i + 1 : Nat) : Int) := by rw [w64' (by omega) (by omega)]; omega
    rw [chatelainelaw24_whole.l0, if_pos (by omega), if_pos (by omega), e, if_pos (by rw [h _ (List.getElem_mem (by omega))]; rfl), w2]
    exact whole_l ls hl h d (i + 1) k (by omega) (by omega)
theorem whole_f (ls : List (List Int)) (hl : ls.length ≤ 1000) (h : ∀ l ∈ ls, l.length = 512) : chatelainelaw24_whole.f 2000 ls = some true := whole_l ls hl h ls.length 0 2000 (by omega) (by omega)
theorem dix_none (D : List Bool) (h : ∀ i, D.getD i false = false) : ∀ n, dix D n = []
  | 0 => rfl
  | n + 1 => by
    have hn := h n
    rw [dix, if_neg, dix_none D h n]
    intro e
    rw [List.getD_eq_getElem?_getD, e] at hn
    cases hn
theorem dix_run (D : List Bool) (a m : Nat) (h : ∀ x, x < D.length → D.getD x false = decide (a ≤ x ∧ x < a + m)) : ∀ n, n ≤ D.length → (dix D n).length = min n (a + m) - min n a
  | 0, _ => by simp [dix]
  | n + 1, hn => by
    have ih := dix_run D a m h n (by omega)
    have hx := h n (by omega)
    have hg : D[n]? = some (D.getD n false) := by rw [List.getD_eq_getElem?_getD, List.getElem?_eq_getElem (by omega)]; rfl
    rw [dix, hg, hx]
    by_cases c : a ≤ n ∧ n < a + m
    · rw [decide_eq_true c, if_pos rfl, List.length_append, List.length_singleton, ih]; omega
    · rw [decide_eq_false c, if_neg (by decide), ih]; omega
theorem newS_fits (n : Nat) : (newS n).dirty.length = (newS n).now.length := by unfold newS; rw [List.length_replicate, List.length_replicate]
theorem newS_dirty (n x : Nat) : (newS n).dirty.getD x false = false := by
  unfold newS
  rw [List.getD_eq_getElem?_getD, List.getElem?_replicate]
  split <;> rfl
theorem lay_dlen (s : DS) (a : Nat) (g k : Int) (m : Nat) (l : List Int) : ∀ j, (s.lay a g k m l j).dirty.length = s.dirty.length
  | 0 => rfl
  | j + 1 => by
    rw [DS.lay]
    unfold DS.write
    split
    · exact lay_dlen s a g k m l j
    · split
      · exact lay_dlen s a g k m l j
      · exact List.length_set.trans (lay_dlen s a g k m l j)
end

end Go.Proofs.YtkiofhmpeokipaaDoor.PTA
