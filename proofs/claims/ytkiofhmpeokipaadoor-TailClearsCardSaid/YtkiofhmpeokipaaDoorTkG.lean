import Derived.Test.YtkiofhmpeokipaaDoorTkF
namespace Go.Proofs.YtkiofhmpeokipaaDoor.PTA
open Go.RowKit Go.Proofs.YtkiofhmpeokipaaDoorW.PrintWords Go.Proofs.YtkiofhmpeokipaaDoorW.PrintLast Go.Proofs.YtkiofhmpeokipaaDoorW.PrintMore
attribute [local go_sem] max2_int min2_int max_two min_two max_three min_three max_four min_four
set_option linter.unusedVariables false
set_option linter.unusedSimpArgs false
section
/-! ### A frame's blocks, plainly -/
theorem cutM (a b c : List Int) (x y : Nat) (ha : a.length = x) (hb : y = x + b.length) : ((a ++ (b ++ c)).take y).drop x = b := by
  subst ha hb
  rw [List.take_append, List.take_of_length_le (by omega), List.drop_left, Nat.add_sub_cancel_left, List.take_left]
theorem takeD (l : List Int) (x y : Nat) (h : x ≤ y) : l.take x ++ (l.take y).drop x = l.take y := by
  have : (l.take y).take x = l.take x := by rw [List.take_take, Nat.min_eq_left h]
  rw [← this, List.take_append_drop]
theorem any_nz : ∀ (l : List Int), l.any nz = false ↔ l = List.replicate l.length 0
  | [] => by simp
  | x :: r => by
    rw [List.any_cons, Bool.or_eq_false_iff, any_nz r, List.length_cons, List.replicate_succ]
    unfold nz
    rw [bne_eq_false_iff_eq]
    constructor
    · rintro ⟨h1, h2⟩; rw [h1, ← h2]
    · intro h
      injection h with h1 h2
      exact ⟨h1, h2⟩
/-- What a block's numbers must be. -/
structure BkN (g k i m : Int) (n : Nat) : Prop where
  g1 : 1 ≤ g
  g2 : g ≤ 9223372036854775807
  k1 : 1 ≤ k
  k2 : k ≤ 9223372036854775807
  i1 : 0 ≤ i
  im : i < m
  m2 : m ≤ 65535
  n2 : n ≤ 488
  sz : n = 488 ∨ (i = m - 1 ∧ (0 < n ∨ m = 1))
theorem wrapS {v g : Int} (h0 : 0 ≤ v) (h1 : v < 18446744073709551616) (hg : 1 ≤ g) (h : wrap64 v = g) : v = g := by unfold wrap64 at h; omega
section
variable {g k i m : Int} {p : List Int}
theorem blk_G (h : BkN g k i m p.length) : hG (blkL g k i m p) = g := by
  have e : (blkL g k i m p).take 8 = beN 8 g := by
    unfold blkL
    simp only [List.append_assoc]
    exact List.take_left' (beN_len 8 g)
  unfold hG
  rw [e, bv_beN8 g (by have := h.g1; omega) (by have := h.g2; omega), w64' (by have := h.g1; omega) h.g2]
theorem blk_N (h : BkN g k i m p.length) : hN (blkL g k i m p) = k := by
  have e : ((blkL g k i m p).take 16).drop 8 = beN 8 k := by
    unfold blkL
    simp only [List.append_assoc]
    exact cutM _ _ _ 8 16 (beN_len 8 g) (by rw [beN_len])
  unfold hN
  rw [e, bv_beN8 k (by have := h.k1; omega) (by have := h.k2; omega), w64' (by have := h.k1; omega) h.k2]
theorem blk_W0 (h : BkN g k i m p.length) : hW (blkL g k i m p) 0 = i := by
  have e : ((blkL g k i m p).take 18).drop 16 = beN 2 i := by
    have := cutM (beN 8 g ++ beN 8 k) (beN 2 i) (beN 2 m ++ (beN 2 (p.length : Int) ++ (beN 2 0 ++ (p ++ List.replicate (488 - p.length) 0)))) 16 18 (by rw [List.length_append, beN_len, beN_len]) (by rw [beN_len])
    unfold blkL
    simp only [List.append_assoc] at this ⊢
    exact this
  show bv (((blkL g k i m p).take 18).drop 16) = i
  rw [e, bv_beN2 i h.i1 (by have := h.im; have := h.m2; omega)]
theorem blk_W1 (h : BkN g k i m p.length) : hW (blkL g k i m p) 1 = m := by
  have e : ((blkL g k i m p).take 20).drop 18 = beN 2 m := by
    have := cutM (beN 8 g ++ beN 8 k ++ beN 2 i) (beN 2 m) (beN 2 (p.length : Int) ++ (beN 2 0 ++ (p ++ List.replicate (488 - p.length) 0))) 18 20 (by simp only [List.length_append, beN_len]) (by rw [beN_len])
    unfold blkL
    simp only [List.append_assoc] at this ⊢
    exact this
  show bv (((blkL g k i m p).take 20).drop 18) = m
  rw [e, bv_beN2 m (by have := h.i1; have := h.im; omega) (by have := h.m2; omega)]
theorem blk_W2 (h : BkN g k i m p.length) : hW (blkL g k i m p) 2 = (p.length : Int) := by
  have e : ((blkL g k i m p).take 22).drop 20 = beN 2 (p.length : Int) := by
    have := cutM (beN 8 g ++ beN 8 k ++ beN 2 i ++ beN 2 m) (beN 2 (p.length : Int)) (beN 2 0 ++ (p ++ List.replicate (488 - p.length) 0)) 20 22 (by simp only [List.length_append, beN_len]) (by rw [beN_len])
    unfold blkL
    simp only [List.append_assoc] at this ⊢
    exact this
  show bv (((blkL g k i m p).take 22).drop 20) = _
  rw [e, bv_beN2 _ (by omega) (by have := h.n2; omega)]
theorem blk_W3 (h : BkN g k i m p.length) : hW (blkL g k i m p) 3 = 0 := by
  have e : ((blkL g k i m p).take 24).drop 22 = beN 2 0 := by
    have := cutM (beN 8 g ++ beN 8 k ++ beN 2 i ++ beN 2 m ++ beN 2 (p.length : Int)) (beN 2 0) (p ++ List.replicate (488 - p.length) 0) 22 24 (by simp only [List.length_append, beN_len]) (by rw [beN_len])
    unfold blkL
    simp only [List.append_assoc] at this ⊢
    exact this
  show bv (((blkL g k i m p).take 24).drop 22) = _
  rw [e, bv_beN2 _ (by omega) (by omega)]
theorem blk_pay (h : BkN g k i m p.length) : payL (blkL g k i m p) = p := by
  have := cutM (beN 8 g ++ beN 8 k ++ beN 2 i ++ beN 2 m ++ beN 2 (p.length : Int) ++ beN 2 0) p (List.replicate (488 - p.length) 0) 24 (24 + p.length) (by simp only [List.length_append, beN_len]) rfl
  unfold payL
  rw [blk_W2 h, Int.toNat_natCast]
  unfold blkL
  simp only [List.append_assoc] at this ⊢
  exact this
theorem blk_rest (h : BkN g k i m p.length) : ((blkL g k i m p).drop (24 + p.length)).any nz = false := by
  have e : (blkL g k i m p).drop (24 + p.length) = List.replicate (488 - p.length) 0 := by
    have hl : (beN 8 g ++ beN 8 k ++ beN 2 i ++ beN 2 m ++ beN 2 (p.length : Int) ++ beN 2 0 ++ p).length = 24 + p.length := by simp only [List.length_append, beN_len]
    unfold blkL
    exact List.drop_left' hl
  rw [e, any_nz, List.length_replicate]
theorem blk_ok (h : BkN g k i m p.length) : hOk (blkL g k i m p) = true := by
  have hS1 : hS i m (p.length : Int) = true := by
    unfold hS
    have := h.n2; have := h.sz; have := h.im; have := h.m2; have := h.i1
    have hw : wrap64 (m - 1) = m - 1 := w64' (by omega) (by omega)
    rw [hw]
    simp only [Bool.or_eq_true, Bool.and_eq_true, beq_iff_eq, decide_eq_true_eq]
    omega
  unfold hOk
  rw [blk_G h, blk_N h, blk_W0 h, blk_W1 h, blk_W2 h, blk_W3 h]
  unfold hOk5
  rw [decide_eq_true h.g1, decide_eq_true h.k1, decide_eq_true h.im, hS1]
  rfl
theorem blk_gd (h : BkN g k i m p.length) : gdB g k i m (blkL g k i m p) = true := by
  unfold gdB
  rw [blk_ok h, blk_G h, blk_N h, blk_W0 h, blk_W1 h, blk_W2 h, Int.toNat_natCast, blk_rest h]
  simp
end
/-- What is a frame's block is what was laid. -/
theorem gd_blk {g k i n : Int} {b : List Int} (hB : IsB b) (hL : b.length = 512) (hg : 1 ≤ g) (hk : 1 ≤ k) (h : gdB g k i n b = true) : b = blkL g k i n (payL b) ∧ BkN g k i n (payL b).length := by
  unfold gdB at h
  simp only [Bool.and_eq_true, beq_iff_eq, Bool.not_eq_true'] at h
  obtain ⟨⟨⟨⟨⟨h1, h2⟩, h3⟩, h4⟩, h5⟩, h6⟩ := h
  have hpos := hW_bd hB 2
  have hsz := hOk_size h1
  have hpl := payL_len b (by omega) hL
  have l8 : (b.take 8).length = 8 := by rw [List.length_take, hL]; rfl
  have l16 : ((b.take 16).drop 8).length = 8 := by rw [List.length_drop, List.length_take, hL]; rfl
  have lw : ∀ j, j < 4 → ((b.take (18 + 2 * j)).drop (16 + 2 * j)).length = 2 := fun j hj => by rw [List.length_drop, List.length_take, hL]; omega
  have small : ∀ j, j < 4 → hW b j < 65536 := fun j hj => by
    have := (bv_lt _ ((hB.take (18 + 2 * j)).drop (16 + 2 * j))).2
    rw [lw j hj] at this
    exact this
  have p1 : b.take 8 = beN 8 g := by
    have hv := bv_lt _ (hB.take 8)
    rw [l8] at hv
    have e := wrapS hv.1 hv.2 hg h2
    exact bv_inj _ _ (hB.take 8) (beN_B 8 g) (by rw [l8, beN_len]) (by rw [bv_beN8 g (by omega) (by omega), e])
  have p2 : (b.take 16).drop 8 = beN 8 k := by
    have hv := bv_lt _ ((hB.take 16).drop 8)
    rw [l16] at hv
    have e := wrapS hv.1 hv.2 hk h3
    exact bv_inj _ _ ((hB.take 16).drop 8) (beN_B 8 k) (by rw [l16, beN_len]) (by rw [bv_beN8 k (by omega) (by omega), e])
  have pw : ∀ j, j < 4 → (b.take (18 + 2 * j)).drop (16 + 2 * j) = beN 2 (hW b j) := fun j hj =>
    bv_inj _ _ ((hB.take _).drop _) (beN_B 2 _) (by rw [lw j hj, beN_len]) (by rw [bv_beN2 _ (hW_bd hB j) (small j hj)]; rfl)
  have h1' := h1
  unfold hOk hOk5 hS at h1'
  simp only [Bool.and_eq_true, Bool.or_eq_true, decide_eq_true_eq, beq_iff_eq] at h1'
  have z3 : hW b 3 = 0 := h1'.2
  have g2 : g ≤ 9223372036854775807 := by rw [← h2]; unfold hG wrap64; omega
  have k2 : k ≤ 9223372036854775807 := by rw [← h3]; unfold hN wrap64; omega
  have hi0 := hW_bd hB 0
  have hm2 := small 1 (by decide)
  rw [h4] at hi0
  rw [h5] at hm2
  have hszI : hW b 2 = ((payL b).length : Int) := by rw [hpl]; omega
  have hw : wrap64 (n - 1) = n - 1 := w64' (by have := h1'.1.1.2; omega) (by omega)
  rw [h4, h5, hw, hszI] at h1'
  refine ⟨?_, ⟨hg, g2, hk, k2, hi0, h1'.1.1.2, by omega, by omega, by omega⟩⟩
  have q0 := pw 0 (by decide)
  have q1 := pw 1 (by decide)
  have q2 := pw 2 (by decide)
  have q3 := pw 3 (by decide)
  rw [h4] at q0
  rw [h5] at q1
  rw [hszI] at q2
  rw [z3] at q3
  have r24 : b.take 24 = beN 8 g ++ beN 8 k ++ beN 2 i ++ beN 2 n ++ beN 2 ((payL b).length : Int) ++ beN 2 0 := by
    rw [← takeD b 22 24 (by decide), ← takeD b 20 22 (by decide), ← takeD b 18 20 (by decide), ← takeD b 16 18 (by decide), ← takeD b 8 16 (by decide), p1, p2]
    have q0' : (b.take 18).drop 16 = beN 2 i := q0
    have q1' : (b.take 20).drop 18 = beN 2 n := q1
    have q2' : (b.take 22).drop 20 = beN 2 ((payL b).length : Int) := q2
    have q3' : (b.take 24).drop 22 = beN 2 0 := q3
    rw [q0', q1', q2', q3']
  have rs : b.take (24 + (payL b).length) = b.take 24 ++ payL b := by
    have e : (b.take (24 + (payL b).length)).drop 24 = payL b := by rw [hpl]; rfl
    rw [← takeD b 24 (24 + (payL b).length) (by omega), e]
  have rd0 : b.drop (24 + (payL b).length) = List.replicate (488 - (payL b).length) 0 := by
    have := (any_nz _).mp h6
    rw [hszI, Int.toNat_natCast] at this
    rw [this, List.length_drop, hL]
    congr 1
    omega
  conv => lhs; rw [← List.take_append_drop (24 + (payL b).length) b, rs, r24, rd0]
  rfl
/-! ### Parts -/
theorem part_BkN {g k : Int} {l : List Int} (hl : l.length ≤ 100000) (hg : 1 ≤ g) (g2 : g ≤ 9223372036854775807) (hk : 1 ≤ k) (k2 : k ≤ 9223372036854775807) {j : Nat} (hj : j < prts l.length) : BkN g k (j : Int) (prts l.length : Int) (partL l j).length := by
  have e := partL_len l j
  unfold prts at hj ⊢
  refine ⟨hg, g2, hk, k2, by omega, by omega, by omega, partL_le l j, ?_⟩
  rw [e]
  omega
def outP (l : List Int) : Nat → List Int
  | 0 => []
  | j + 1 => outP l j ++ partL l j
theorem outP_take (l : List Int) : ∀ j, outP l j = l.take (488 * j)
  | 0 => by simp [outP]
  | j + 1 => by
    rw [outP, outP_take l j]
    unfold partL
    by_cases h : 488 * j ≤ l.length
    · have e : l.take (min l.length (488 * (j + 1))) = l.take (488 * (j + 1)) := by
        by_cases h2 : l.length ≤ 488 * (j + 1)
        · rw [Nat.min_eq_left h2, List.take_of_length_le (Nat.le_refl _), List.take_of_length_le h2]
        · rw [Nat.min_eq_right (by omega)]
      rw [e, takeD l _ _ (by omega)]
    · rw [List.drop_of_length_le (by rw [List.length_take]; omega), List.append_nil, List.take_of_length_le (by omega), List.take_of_length_le (by omega)]
theorem outP_all (l : List Int) : outP l (prts l.length) = l := by
  rw [outP_take, List.take_of_length_le (by unfold prts; omega)]
/-! ### Where a frame stands -/
def FrameAt (now : List (List Int)) (a : Nat) (g k : Int) (l : List Int) : Prop := ∀ j, j < prts l.length → now.getD (a + j) [] = blkL g k (j : Int) (prts l.length : Int) (partL l j)
theorem FrameAt.ok {now : List (List Int)} {a b : Nat} {g k : Int} {l : List Int} (h : FrameAt now a g k l) (hl : l.length ≤ 100000) (hg : 1 ≤ g) (g2 : g ≤ 9223372036854775807) (hk : 1 ≤ k) (k2 : k ≤ 9223372036854775807) (hb : a + prts l.length ≤ b) : RdOk now a b g k (prts l.length) :=
  ⟨prts_pos _, hb, fun j hj => by rw [h j hj]; exact blk_gd (part_BkN hl hg g2 hk k2 hj)⟩
theorem FrameAt.out {now : List (List Int)} {a : Nat} {g k : Int} {l : List Int} (h : FrameAt now a g k l) (hl : l.length ≤ 100000) (hg : 1 ≤ g) (g2 : g ≤ 9223372036854775807) (hk : 1 ≤ k) (k2 : k ≤ 9223372036854775807) : ∀ j, j ≤ prts l.length → outL now a j = outP l j
  | 0, _ => rfl
  | j + 1, hj => by rw [outL, outP, FrameAt.out h hl hg g2 hk k2 j (by omega), h j hj, blk_pay (part_BkN hl hg g2 hk k2 hj)]
/-- The number of parts is told by the first block. -/
theorem RdOk.uniq {now : List (List Int)} {a b b' : Nat} {g k : Int} {n n' : Nat} (h : RdOk now a b g k n) (h' : RdOk now a b' g k n') : n = n' := by
  have e1 := gdB_n (h.2.2 0 h.1)
  have e2 := gdB_n (h'.2.2 0 h'.1)
  omega
/-- Where a frame stands it is read. -/
theorem FrameAt.read {now : List (List Int)} {a b : Nat} {g k : Int} {l : List Int} (h : FrameAt now a g k l) (hl : l.length ≤ 100000) (hg : 1 ≤ g) (g2 : g ≤ 9223372036854775807) (hk : 1 ≤ k) (k2 : k ≤ 9223372036854775807) (hb : a + prts l.length ≤ b) {r : Option (List Int)} (hr : RdIs now a b g k r) : r = some l := by
  have ho := h.ok hl hg g2 hk k2 hb
  cases r with
  | none => exact absurd ho (hr _)
  | some out =>
    obtain ⟨n, h1, rfl⟩ := hr
    rw [h1.uniq ho, FrameAt.out h hl hg g2 hk k2 _ (Nat.le_refl _), outP_all]
/-- Cut short it is not. -/
theorem FrameAt.short {now : List (List Int)} {a b : Nat} {g k : Int} {l : List Int} (h : FrameAt now a g k l) (hl : l.length ≤ 100000) (hg : 1 ≤ g) (g2 : g ≤ 9223372036854775807) (hk : 1 ≤ k) (k2 : k ≤ 9223372036854775807) (hb : b < a + prts l.length) {r : Option (List Int)} (hr : RdIs now a b g k r) : r = none := by
  cases r with
  | none => rfl
  | some out =>
    obtain ⟨n, h1, rfl⟩ := hr
    have ho := h.ok hl hg g2 hk k2 (Nat.le_refl _)
    have := h1.uniq ho
    have := h1.2.1
    omega
/-- With another generation or number it is not. -/
theorem RdIs.other {now : List (List Int)} {a b : Nat} {g k g' k' i m : Int} {p : List Int} (e : now.getD a [] = blkL g k i m p) (h : BkN g k i m p.length) (hne : g ≠ g' ∨ k ≠ k') {r : Option (List Int)} (hr : RdIs now a b g' k' r) : r = none := by
  cases r with
  | none => rfl
  | some out =>
    obtain ⟨n, h1, rfl⟩ := hr
    have h2 := h1.2.2 0 h1.1
    rw [Nat.add_zero, e] at h2
    unfold gdB at h2
    simp only [Bool.and_eq_true, beq_iff_eq, blk_G h, blk_N h] at h2
    omega
/-- The blocks behind a frame's writing. -/
theorem lay_now (s : DS) (a : Nat) (g k : Int) (m : Nat) (l : List Int) (ha : a + m ≤ s.now.length) : ∀ j, j ≤ m → ∀ x, (s.lay a g k m l j).now.getD x [] = if a ≤ x ∧ x < a + j then blkL g k ((x - a : Nat) : Int) (m : Int) (partL l (x - a)) else s.now.getD x []
  | 0, _, x => by rw [if_neg (by omega)]; rfl
  | j + 1, hj, x => by
    have hlen := s.lay_len a g k m l j
    have hb := blkL_len g k (j : Int) (m : Int) (partL l j) (partL_le l j)
    have ih := lay_now s a g k m l ha j (by omega) x
    rw [DS.lay, DS.write, if_neg (by omega), if_neg (by omega), Int.toNat_natCast]
    show ((s.lay a g k m l j).now.set (a + j) _).getD x [] = _
    rw [List.getD_eq_getElem?_getD, List.getElem?_set]
    by_cases e : a + j = x
    · subst e
      rw [if_pos rfl, if_pos (by omega), if_pos (by omega), Nat.add_sub_cancel_left]
      rfl
    · rw [if_neg e, ← List.getD_eq_getElem?_getD, ih]
      by_cases c : a ≤ x ∧ x < a + j
      · rw [if_pos c, if_pos (by omega)]
      · rw [if_neg c, if_neg (by omega)]
theorem lay_frame (s : DS) (a : Nat) (g k : Int) (l : List Int) (ha : a + prts l.length ≤ s.now.length) : FrameAt (s.lay a g k (prts l.length) l (prts l.length)).now a g k l := fun j hj => by
  rw [lay_now s a g k _ l ha _ (Nat.le_refl _), if_pos (by omega), Nat.add_sub_cancel_left]
/-- Which blocks are dirty behind it. -/
theorem lay_dirty (s : DS) (a : Nat) (g k : Int) (m : Nat) (l : List Int) (ha : a + m ≤ s.now.length) (hf : s.dirty.length = s.now.length) : ∀ j, j ≤ m → ∀ x, x < s.now.length → (s.lay a g k m l j).dirty.getD x false = if a ≤ x ∧ x < a + j then true else s.dirty.getD x false
  | 0, _, x, _ => by rw [if_neg (by omega)]; rfl
  | j + 1, hj, x, hx => by
    have hlen := s.lay_len a g k m l j
    have hb := blkL_len g k (j : Int) (m : Int) (partL l j) (partL_le l j)
    have hd : ∀ j, (s.lay a g k m l j).dirty.length = s.dirty.length := fun j => by
      induction j with
      | zero => rfl
      | succ j ih =>
        rw [DS.lay]
        unfold DS.write
        split
        · exact ih
        · split
          · exact ih
          · exact List.length_set.trans ih
    have ih := lay_dirty s a g k m l ha hf j (by omega) x hx
    rw [DS.lay, DS.write, if_neg (by omega), if_neg (by omega), Int.toNat_natCast]
    show ((s.lay a g k m l j).dirty.set (a + j) true).getD x false = _
    rw [List.getD_eq_getElem?_getD, List.getElem?_set]
    by_cases e : a + j = x
    · subst e
      rw [if_pos rfl, if_pos (by rw [hd, hf]; exact hx), if_pos (by omega)]
      rfl
    · rw [if_neg e, ← List.getD_eq_getElem?_getD, ih]
      by_cases c : a ≤ x ∧ x < a + j
      · rw [if_pos c, if_pos (by omega)]
      · rw [if_neg c, if_neg (by omega)]
end

end Go.Proofs.YtkiofhmpeokipaaDoor.PTA
