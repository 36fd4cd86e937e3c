import Derived.Test.YtkiofhmpeokipaaTkC
namespace Go.Proofs.Ytkiofhmpeokipaa.PTA
open Go.RowKit Go.Proofs.YtkiofhmpeokipaaW.PrintWords Go.Proofs.YtkiofhmpeokipaaW.PrintLast Go.Proofs.YtkiofhmpeokipaaW.PrintMore
attribute [local go_sem] max2_int min2_int max_two min_two max_three min_three max_four min_four
set_option linter.unusedVariables false
set_option linter.unusedSimpArgs false
section
theorem low_f (x : Int) (n : Nat) (h0 : 0 < n) (h1 : n ≤ 1000000) : ∃ r : Nat, r < n ∧ chatelainelaw0_Low.f x (n : Int) = some (r : Int) := by
  have hw : ∀ m : Int, IntKind.u64.wrap m = m % 18446744073709551616 := fun m => by simp [IntKind.wrap, IntKind.bits, IntKind.signed]
  have e1 : IntKind.u64.wrap (n : Int) = (n : Int) := by rw [hw]; omega
  have h2 : 0 ≤ IntKind.u64.wrap x := by rw [hw]; omega
  obtain ⟨u, hu⟩ := Int.eq_ofNat_of_zero_le h2
  have e2 : Int.tmod (u : Int) (n : Int) = ((u % n : Nat) : Int) := by rw [Int.tmod_eq_emod_of_nonneg (by omega)]; omega
  have h3 : u % n < n := Nat.mod_lt _ h0
  refine ⟨u % n, h3, ?_⟩
  unfold chatelainelaw0_Low.f
  rw [e1, if_neg (by omega), hu, e2, w64' (by omega) (by omega)]
/-! ### What blocks may be -/
def Among (P : Nat → List Int → Prop) (s : DS) : Prop := ∀ x, x < s.now.length → P x (s.now.getD x []) ∧ P x (s.firm.getD x [])
theorem getD_set {α : Type} (l : List α) (i x : Nat) (a d : α) : (l.set i a).getD x d = if i = x ∧ x < l.length then a else l.getD x d := by
  rw [List.getD_eq_getElem?_getD, List.getElem?_set, List.getD_eq_getElem?_getD]
  by_cases e : i = x
  · subst e
    by_cases h : i < l.length
    · rw [if_pos rfl, if_pos h, if_pos ⟨rfl, h⟩]; rfl
    · rw [if_pos rfl, if_neg h, if_neg (by omega), List.getElem?_eq_none (by omega)]
  · rw [if_neg e, if_neg (by omega)]
section
variable {P : Nat → List Int → Prop} {s : DS}
theorem Among.keep (h : Among P s) (i : Nat) : Among P (s.keep i) := fun x hx => by
  have hx : x < s.now.length := hx
  refine ⟨(h x hx).1, ?_⟩
  show P x ((s.firm.set i (s.now.getD i [])).getD x [])
  rw [getD_set]
  split
  · rename_i e; rw [e.1]; exact (h x hx).1
  · exact (h x hx).2
theorem Among.back (h : Among P s) (i : Nat) : Among P (s.back i) := fun x hx => by
  have hx : x < s.now.length := by rw [DS.back_len] at hx; exact hx
  refine ⟨?_, (h x hx).2⟩
  show P x ((s.now.set i (s.firm.getD i [])).getD x [])
  rw [getD_set]
  split
  · rename_i e; rw [e.1]; exact (h x hx).2
  · exact (h x hx).1
theorem Among.crash (keep : List Bool) : ∀ (X : List Nat) (k : Nat) (s : DS) (n : Nat), Among P s → Among P (crashL keep X k s n).1 ∧ (crashL keep X k s n).1.now.length = s.now.length
  | [], _, _, _, h => ⟨h, rfl⟩
  | i :: r, k, s, n, h => by
    rw [crashL]
    split
    · obtain ⟨h1, h2⟩ := Among.crash keep r (k + 1) ((s.keep i).back i) (n + 1) ((h.keep i).back i)
      exact ⟨h1, h2.trans (DS.back_len _ _)⟩
    · obtain ⟨h1, h2⟩ := Among.crash keep r (k + 1) (s.back i) n (h.back i)
      exact ⟨h1, h2.trans (DS.back_len _ _)⟩
theorem Among.write (h : Among P s) (i : Int) {l : List Int} (hl : P i.toNat l) : Among P (s.write i l).1 := by
  unfold DS.write
  split
  · exact h
  · split
    · exact h
    · intro x hx
      have hx : x < s.now.length := by rw [show (DS.now _).length = s.now.length from List.length_set] at hx; exact hx
      refine ⟨?_, (h x hx).2⟩
      show P x ((s.now.set i.toNat l).getD x [])
      rw [getD_set]
      split
      · rename_i e; rw [← e.1]; exact hl
      · exact (h x hx).1
theorem Among.lay (h : Among P s) (a : Nat) (g k : Int) (m : Nat) (l : List Int) : ∀ j, (∀ i, i < j → P (a + i) (blkL g k (i : Int) (m : Int) (partL l i))) → Among P (s.lay a g k m l j)
  | 0, _ => h
  | j + 1, hP => by
    rw [DS.lay]
    refine (Among.lay h a g k m l j (fun i hi => hP i (by omega))).write _ ?_
    rw [Int.toNat_natCast]
    exact hP j (by omega)
end
theorem Among.AllB {s : DS} (h : Among (fun _ b => IsB b ∧ b.length = 512) s) : s.AllB := fun l hl => by
  obtain ⟨i, hi, rfl⟩ := List.getElem_of_mem hl
  have := (h i hi).1
  rw [List.getD_eq_getElem?_getD, List.getElem?_eq_getElem hi] at this
  exact this
theorem newS_at (n x : Nat) (hx : x < n) : (newS n).now.getD x [] = zeroL ∧ (newS n).firm.getD x [] = zeroL := by
  unfold newS
  constructor <;> rw [List.getD_eq_getElem?_getD, List.getElem?_replicate, if_pos hx] <;> rfl
theorem bv_zeros' : ∀ n, bv (List.replicate n 0) = 0
  | 0 => rfl
  | n + 1 => by rw [List.replicate_succ, bv, bv_zeros' n]; simp
theorem zero_ok' : hOk zeroL = false := by
  have e : hG zeroL = 0 := by
    unfold hG zeroL
    rw [List.take_replicate, bv_zeros']
    exact w64' (by decide) (by decide)
  unfold hOk
  rw [e]
  exact ok_G _ _ _ _ _ _ (by decide)
theorem zero_gd (g k i n : Int) : gdB g k i n zeroL = false := by unfold gdB; rw [zero_ok']; rfl
theorem zero_peek : peekF zeroL = (0, 0, false) := by unfold peekF; rw [if_neg (by rw [zero_ok']; simp)]
/-! ### Torn -/
def TornP (g g2 : Int) (a b : List Int) (x : Nat) (blk : List Int) : Prop := blk = zeroL ∨ (x < prts a.length ∧ blk = blkL g 4 (x : Int) (prts a.length : Int) (partL a x)) ∨ (x < prts b.length ∧ blk = blkL g2 5 (x : Int) (prts b.length : Int) (partL b x))
theorem torn_one {now : List (List Int)} {g k g2 k2 : Int} {a b : List Int} {N : Nat} (ha : a.length ≤ 100000) (hb : b.length ≤ 100000) (g0 : 1 ≤ g ∧ g ≤ 1000) (k0 : 1 ≤ k ∧ k ≤ 1000) (g20 : 1 ≤ g2 ∧ g2 ≤ 1000) (k20 : 1 ≤ k2 ∧ k2 ≤ 1000) (hk : k ≠ k2)
    (h : ∀ x, x < N → now.getD x [] = zeroL ∨ (x < prts a.length ∧ now.getD x [] = blkL g k (x : Int) (prts a.length : Int) (partL a x)) ∨ (x < prts b.length ∧ now.getD x [] = blkL g2 k2 (x : Int) (prts b.length : Int) (partL b x)))
    {r : Option (List Int)} (hr : RdIs now 0 N g k r) : r = none ∨ (r = some a ∧ now.getD 0 [] = blkL g k 0 (prts a.length : Int) (partL a 0)) := by
  cases r with
  | none => exact .inl rfl
  | some out =>
    right
    have hr0 := hr
    obtain ⟨n, h1, _⟩ := hr
    have key : ∀ j, j < n → j < prts a.length ∧ now.getD j [] = blkL g k (j : Int) (prts a.length : Int) (partL a j) := fun j hj => by
      have hg := h1.2.2 j hj
      rw [Nat.zero_add] at hg
      rcases h j (by have := h1.2.1; omega) with e | e | ⟨e1, e2⟩
      · rw [e, zero_gd] at hg; cases hg
      · exact e
      · rw [e2] at hg
        unfold gdB at hg
        simp only [Bool.and_eq_true, beq_iff_eq, blk_N (part_BkN hb g20.1 (by omega) k20.1 (by omega) e1)] at hg
        omega
    obtain ⟨p0, e0⟩ := key 0 h1.1
    have hn : n = prts a.length := by
      have hg := h1.2.2 0 h1.1
      rw [Nat.add_zero] at hg
      have := gdB_n hg
      rw [e0, blk_W1 (part_BkN ha g0.1 (by omega) k0.1 (by omega) p0)] at this
      omega
    have FR : FrameAt now 0 g k a := fun j hj => by rw [Nat.zero_add]; exact (key j (by omega)).2
    exact ⟨FR.read ha g0.1 (by omega) k0.1 (by omega) (by have := h1.2.1; omega) hr0, e0⟩
theorem blk_ne {g k g2 k2 i m i2 m2 : Int} {p p2 : List Int} (h : BkN g k i m p.length) (h2 : BkN g2 k2 i2 m2 p2.length) (hk : k ≠ k2) : blkL g k i m p ≠ blkL g2 k2 i2 m2 p2 := fun e => by
  have := blk_N h
  rw [e, blk_N h2] at this
  exact hk this.symm
/-! ### Rows -/
def posR (a : Nat) (ls : List (List Int)) : Nat → Nat
  | 0 => a
  | k + 1 => posR a ls k + prts (ls.getD k []).length
def stR (a : Nat) (g : Int) (ls : List (List Int)) : Nat → DS
  | 0 => newS 40
  | k + 1 => (stR a g ls k).lay (posR a ls k) g (7 + (k : Int)) (prts (ls.getD k []).length) (ls.getD k []) (prts (ls.getD k []).length)
theorem stR_len (a : Nat) (g : Int) (ls : List (List Int)) : ∀ k, (stR a g ls k).now.length = 40
  | 0 => newS_len 40
  | k + 1 => (DS.lay_len _ _ _ _ _ _ _).trans (stR_len a g ls k)
theorem stR_dlen (a : Nat) (g : Int) (ls : List (List Int)) : ∀ k, (stR a g ls k).dirty.length = 40
  | 0 => (newS_fits 40).trans (newS_len 40)
  | k + 1 => (lay_dlen _ _ _ _ _ _ _).trans (stR_dlen a g ls k)
theorem stR_AllB (a : Nat) (g : Int) {ls : List (List Int)} (h : ∀ l ∈ ls, IsB l) : ∀ k, (stR a g ls k).AllB
  | 0 => newS_AllB 40
  | k + 1 => DS.lay_AllB (stR_AllB a g h k) _ _ _ _ (by
      rw [List.getD_eq_getElem?_getD]
      cases e : ls[k]? with
      | none => intro x hx; cases hx
      | some l => exact h l (List.mem_of_getElem? e)) _
theorem posR_mono (a : Nat) (ls : List (List Int)) (i : Nat) : ∀ k, i ≤ k → posR a ls i ≤ posR a ls k
  | 0, h => by obtain rfl : i = 0 := by omega
               exact Nat.le_refl _
  | k + 1, h => by
    by_cases e : i = k + 1
    · rw [e]; exact Nat.le_refl _
    · exact Nat.le_trans (posR_mono a ls i k (by omega)) (by rw [posR]; omega)
theorem posR_le (a : Nat) {ls : List (List Int)} {N : Nat} (h : ∀ k, k < N → (ls.getD k []).length ≤ 1000) : ∀ k, k ≤ N → posR a ls k ≤ a + 3 * k
  | 0, _ => by rw [posR]; omega
  | k + 1, hk => by
    have := posR_le a h k (by omega)
    have := h k (by omega)
    rw [posR]
    unfold prts
    omega
/-- Behind so many frames. -/
structure RowsAt (a : Nat) (g : Int) (ls : List (List Int)) (k : Nat) (s : DS) : Prop where
  frames : ∀ i, i < k → FrameAt s.now (posR a ls i) g (7 + (i : Int)) (ls.getD i [])
  rest : ∀ x, posR a ls k ≤ x → x < 40 → s.now.getD x [] = zeroL
  dirty : ∀ x, x < 40 → s.dirty.getD x false = decide (a ≤ x ∧ x < posR a ls k)
theorem stR_rows (a : Nat) (g : Int) {ls : List (List Int)} {N : Nat} (h : ∀ k, k < N → (ls.getD k []).length ≤ 1000) (ha : a ≤ 4) (hl : N ≤ 10) : ∀ k, k ≤ N → RowsAt a g ls k (stR a g ls k)
  | 0, _ => ⟨fun i hi => absurd hi (by omega), fun x _ hx => (newS_at 40 x hx).1, fun x hx => by
      rw [stR, newS_dirty]
      symm
      apply decide_eq_false
      rw [posR]
      omega⟩
  | k + 1, hk => by
    have ih := stR_rows a g h ha hl k (by omega)
    have hp := posR_le a h (k + 1) hk
    have hp1 : posR a ls (k + 1) = posR a ls k + prts (ls.getD k []).length := rfl
    have hp0 := posR_mono a ls 0 k (by omega)
    have hp00 : posR a ls 0 = a := rfl
    have hn := lay_now (stR a g ls k) (posR a ls k) g (7 + (k : Int)) (prts (ls.getD k []).length) (ls.getD k []) (by rw [stR_len]; omega) _ (Nat.le_refl _)
    have hd := lay_dirty (stR a g ls k) (posR a ls k) g (7 + (k : Int)) (prts (ls.getD k []).length) (ls.getD k []) (by rw [stR_len]; omega) (by rw [stR_len, stR_dlen]) _ (Nat.le_refl _)
    refine ⟨fun i hi => ?_, fun x hx hx2 => ?_, fun x hx => ?_⟩
    · by_cases e : i = k
      · subst e
        exact lay_frame (stR a g ls i) (posR a ls i) g (7 + (i : Int)) (ls.getD i []) (by rw [stR_len]; omega)
      · intro j hj
        have h1 := posR_mono a ls (i + 1) k (by omega)
        have h2 : posR a ls (i + 1) = posR a ls i + prts (ls.getD i []).length := rfl
        rw [stR, hn, if_neg (by omega)]
        exact ih.frames i (by omega) j hj
    · rw [stR, hn, if_neg (by omega)]
      exact ih.rest x (by omega) hx2
    · rw [stR, hd x (by rw [stR_len]; exact hx), ih.dirty x hx]
      by_cases c : posR a ls k ≤ x ∧ x < posR a ls k + prts (ls.getD k []).length
      · rw [if_pos c]
        symm
        apply decide_eq_true
        omega
      · rw [if_neg c]
        congr 1
        apply propext
        omega
theorem kept_true (k : Nat) : kept [true] k = true := by unfold kept; simp [Nat.mod_one]
/-- What is flushed stays as it is. -/
theorem flush_now : ∀ (X : List Nat) (k : Nat) (s : DS) (n : Nat), s.Fits → ∀ x, (crashL [true] X k s n).1.now.getD x [] = s.now.getD x []
  | [], _, _, _, _, _ => rfl
  | i :: r, k, s, n, hf, x => by
    rw [crashL, if_pos (kept_true k), flush_now r (k + 1) _ (n + 1) ((hf.keep i).back i) x]
    show (s.now.set i ((s.firm.set i (s.now.getD i [])).getD i [])).getD x [] = _
    rw [getD_set, getD_set]
    split
    · rename_i e
      obtain ⟨rfl, hx⟩ := e
      rw [if_pos ⟨rfl, by rw [hf.nf]; exact hx⟩]
    · rfl
theorem FrameAt.of_now {now now' : List (List Int)} {a : Nat} {g k : Int} {l : List Int} (h : FrameAt now a g k l) (e : ∀ x, now'.getD x [] = now.getD x []) : FrameAt now' a g k l := fun j hj => (e _).trans (h j hj)
end
section
/-! ### The document's frame -/
theorem rget_l (l : List Int) (hl : l.length ≤ 4) (hb : IsB l) : ∀ (m i k : Nat), i + m = l.length → m < k → chatelaineref24_get.l0 k l (bv (l.take i)) (i : Int) = some (bv l)
  | 0, i, k + 1, hi, _ => by rw [chatelaineref24_get.l0, if_neg (by omega), List.take_of_length_le (by omega)]
  | m + 1, i, k + 1, hi, hk => by
    have hil : i < l.length := by omega
    have hw : wrap64 ((i : Int) + 1) = ((i + 1 : Nat) : Int) := by unfold wrap64; omega
    obtain ⟨b1, b2⟩ := bv_lt (l.take i) (hb.take i)
    have h3 : bv (l.take i) < 4294967296 := by
      have hlen : (l.take i).length = i := by rw [List.length_take]; omega
      rw [hlen] at b2
      refine Int.lt_of_lt_of_le b2 ?_
      rcases (by omega : i = 0 ∨ i = 1 ∨ i = 2 ∨ i = 3) with rfl | rfl | rfl | rfl <;> decide
    obtain ⟨c1, c2⟩ := hb l[i] (List.getElem_mem hil)
    rw [chatelaineref24_get.l0, if_pos (by omega), if_pos (by omega), rdI' l i hil, w64' (n := bv (l.take i) * 256) (by omega) (by omega), w64' (n := l[i]) (by omega) (by omega), w64' (n := bv (l.take i) * 256 + l[i]) (by omega) (by omega), hw, ← bv_snoc, ← List.take_succ_eq_append_getElem hil]
    exact rget_l l hl hb m (i + 1) k (by omega) (by omega)
theorem rget_f (l : List Int) (k : Nat) (hl : l.length ≤ 4) (hk : 10 < k) (hb : IsB l) : chatelaineref24_get.f k l = some (bv l) := rget_l l hl hb l.length 0 k (by omega) (by omega)
theorem str_inj {a b : List Int} (ha : IsB a) (hb : IsB b) : (strOfNums a).toList = (strOfNums b).toList ↔ a = b := by
  have back : ∀ {c : List Int}, IsB c → (strOfNums c).toList.map (fun x => (x.toNat : Int)) = c := fun {c} hc => by
    have e : (strOfNums c).toList = c.map fun n => UInt8.ofNat n.toNat := by
      unfold strOfNums
      simp [ByteArray.toList_eq]
    rw [e, List.map_map]
    conv => rhs; rw [← List.map_id c]
    apply List.map_congr_left
    intro x hx
    obtain ⟨h0, h1⟩ := hc x hx
    simp only [Function.comp_apply, id_eq, UInt8.toNat_ofNat']
    omega
  constructor
  · intro h
    have := congrArg (List.map fun x : UInt8 => (x.toNat : Int)) h
    rwa [back ha, back hb] at this
  · rintro rfl; rfl
theorem blocks_fr (g k : Int) (l : List Int) (r : Nat) (hr : 330 < r) (hl : l.length ≤ 100000) : chatelaineref24_Blocks.f r g k l = some (blks g k l (prts l.length)) := by
  unfold chatelaineref24_Blocks.f
  rw [rparts_f l.length (by omega), Option.bind_some]
  have hp : prts l.length ≤ 300 := by unfold prts; omega
  exact blocks_l g k l hl (prts l.length) 0 r (by omega) (by omega)
section
variable {now : List (List Int)} {g k : Int} {N n : Nat}
theorem getD_B (hB : ∀ l ∈ now, IsB l ∧ l.length = 512) {j : Nat} (hj : j < now.length) : IsB (now.getD j []) ∧ (now.getD j []).length = 512 := by
  rw [List.getD_eq_getElem?_getD, List.getElem?_eq_getElem hj]
  exact hB _ (List.getElem_mem hj)
theorem rd_blk (hB : ∀ l ∈ now, IsB l ∧ l.length = 512) (hN : N ≤ now.length) (hg : 1 ≤ g) (hk : 1 ≤ k) (h : RdOk now 0 N g k n) {j : Nat} (hj : j < n) : now.getD j [] = blkL g k (j : Int) (n : Int) (payL (now.getD j [])) ∧ BkN g k (j : Int) (n : Int) (payL (now.getD j [])).length := by
  have h2 := h.2.1
  obtain ⟨b1, b2⟩ := getD_B hB (j := j) (by omega)
  have := h.2.2 j hj
  rw [Nat.zero_add] at this
  exact gd_blk b1 b2 hg hk this
theorem rd_len (hB : ∀ l ∈ now, IsB l ∧ l.length = 512) (hN : N ≤ now.length) (hg : 1 ≤ g) (hk : 1 ≤ k) (h : RdOk now 0 N g k n) : ∀ j, j < n → (outL now 0 j).length = 488 * j
  | 0, _ => rfl
  | j + 1, hj => by
    have ih := rd_len hB hN hg hk h j (by omega)
    have hb := (rd_blk hB hN hg hk h (j := j) (by omega)).2.sz
    rw [outL, Nat.zero_add, List.length_append, ih]
    omega
theorem rd_full (hB : ∀ l ∈ now, IsB l ∧ l.length = 512) (hN : N ≤ now.length) (hg : 1 ≤ g) (hk : 1 ≤ k) (h : RdOk now 0 N g k n) : (outL now 0 n).length = 488 * (n - 1) + (payL (now.getD (n - 1) [])).length ∧ prts (outL now 0 n).length = n := by
  have h1 := h.1
  obtain ⟨m, rfl⟩ : ∃ m, n = m + 1 := ⟨n - 1, by omega⟩
  have e := rd_len hB hN hg hk h m (by omega)
  have hb := (rd_blk hB hN hg hk h (j := m) (by omega)).2
  have h3 := hb.sz
  have h4 := hb.n2
  have e2 : (outL now 0 (m + 1)).length = 488 * m + (payL (now.getD m [])).length := by rw [outL, Nat.zero_add, List.length_append, e]
  refine ⟨e2, ?_⟩
  rw [e2]
  unfold prts
  omega
theorem outL_pre (now : List (List Int)) (j : Nat) : ∀ m, j + 1 ≤ m → ∃ rest, outL now 0 m = outL now 0 j ++ (payL (now.getD j []) ++ rest)
  | 0, h => absurd h (by omega)
  | m + 1, h => by
    by_cases e : m = j
    · subst e
      exact ⟨[], by rw [outL, Nat.zero_add, List.append_nil]⟩
    · obtain ⟨rest, hr⟩ := outL_pre now j m (by omega)
      exact ⟨rest ++ payL (now.getD (0 + m) []), by rw [outL, hr]; simp only [List.append_assoc]⟩
theorem rd_part (hB : ∀ l ∈ now, IsB l ∧ l.length = 512) (hN : N ≤ now.length) (hg : 1 ≤ g) (hk : 1 ≤ k) (h : RdOk now 0 N g k n) {j : Nat} (hj : j < n) : partL (outL now 0 n) j = payL (now.getD j []) := by
  have e := rd_len hB hN hg hk h j hj
  have hf := (rd_full hB hN hg hk h).1
  have hb := (rd_blk hB hN hg hk h hj).2
  have h3 := hb.sz
  have h4 := hb.n2
  obtain ⟨rest, hr⟩ := outL_pre now j n (by omega)
  have hm : min (outL now 0 n).length (488 * (j + 1)) = 488 * j + (payL (now.getD j [])).length := by
    by_cases c : j = n - 1
    · rw [← c] at hf
      omega
    · have hb2 := (rd_blk hB hN hg hk h (j := n - 1) (by omega)).2.sz
      omega
  unfold partL
  rw [hm, hr]
  exact cutM _ _ _ _ _ e rfl
theorem out_size (now : List (List Int)) (hs : ∀ j, j < n → hW (now.getD j []) 2 ≤ 488) (hl : ∀ j, j < n → (now.getD j []).length = 512) : ∀ j, j ≤ n → (outL now 0 j).length ≤ 488 * j
  | 0, _ => by simp [outL]
  | j + 1, hj => by
    have ih := out_size now hs hl j (by omega)
    have h1 := payL_len (now.getD j []) (by have := hs j (by omega); omega) (hl j (by omega))
    have h2 := hs j (by omega)
    rw [outL, Nat.zero_add, List.length_append, h1]
    omega
end
theorem rdL2 (ls : List (List Int)) (i : Nat) : rd_L2 ls (i : Int) = ls.getD i [] := by unfold rd_L2; rw [Int.toNat_natCast]
/-- The first loop. -/
theorem frame_l0 (ls : List (List Int)) (hB : ∀ l ∈ ls, IsB l ∧ l.length = 512) (hl : ls.length ≤ 20) (g k M : Int) (hM : 0 ≤ M) : ∀ (d i r : Nat), i + d = ls.length → 600 + d < r → (∀ j, j < i → hW (ls.getD j []) 2 ≤ 488) → (i : Int) ≤ M →
    (chatelaineref24_Frame.l0 r ls g k M (outL ls 0 i) (i : Int) = some ([], 0, false) ∧ ∃ j : Nat, (j : Int) < M ∧ (ls.length ≤ j ∨ 488 < hW (ls.getD j []) 2))
    ∨ (∃ m r' : Nat, M = (m : Int) ∧ m ≤ ls.length ∧ 500 < r' ∧ (∀ j, j < m → hW (ls.getD j []) 2 ≤ 488) ∧ chatelaineref24_Frame.l0 r ls g k M (outL ls 0 i) (i : Int) = (chatelaineref24_Blocks.f r' g k (outL ls 0 m)).bind fun t => chatelaineref24_Frame.l1 r' ls M (outL ls 0 m) t 0)
  | d, i, 0, _, h, _, _ => absurd h (by omega)
  | d, i, r + 1, hi, hr, hs, hiM => by
    by_cases c : (i : Int) < M
    · cases d with
      | zero =>
        left
        refine ⟨?_, i, c, .inl (by omega)⟩
        rw [chatelaineref24_Frame.l0, if_pos c, if_pos (by omega)]
      | succ d =>
        obtain ⟨b1, b2⟩ := getD_B hB (j := i) (by omega)
        have hg : chatelaineref24_get.f r (((ls.getD i []).take 22).drop 20) = some (hW (ls.getD i []) 2) := rget_f _ r (by rw [List.length_drop, List.length_take]; omega) (by omega) ((b1.take _).drop _)
        have hpos := hW_bd b1 2
        by_cases c2 : hW (ls.getD i []) 2 > 488
        · left
          refine ⟨?_, i, c, .inr (by omega)⟩
          rw [chatelaineref24_Frame.l0, if_pos c, if_neg (by omega), if_pos (by omega), if_pos (by omega), if_pos (by decide), rdL2, if_pos (by rw [b2]; decide), hg, Option.bind_some, if_pos c2]
        · have w1 : wrap64 (24 + hW (ls.getD i []) 2) = 24 + hW (ls.getD i []) 2 := w64' (by omega) (by omega)
          have w2 : wrap64 ((i : Int) + 1) = ((i + 1 : Nat) : Int) := by rw [w64' (by omega) (by omega)]; omega
          have e1 : (24 + hW (ls.getD i []) 2).toNat = 24 + (hW (ls.getD i []) 2).toNat := by omega
          have hol := out_size (n := i) ls hs (fun j hj => (getD_B hB (j := j) (by omega)).2) i (Nat.le_refl _)
          have e2 : outL ls 0 (i + 1) = outL ls 0 i ++ ((ls.getD i []).take (24 + (hW (ls.getD i []) 2).toNat)).drop 24 := by rw [outL, Nat.zero_add]; rfl
          have hpl := payL_len (ls.getD i []) (by omega) b2
          have hpl : (((ls.getD i []).take (24 + (hW (ls.getD i []) 2).toNat)).drop 24).length = (hW (ls.getD i []) 2).toNat := hpl
          have step : chatelaineref24_Frame.l0 (r + 1) ls g k M (outL ls 0 i) (i : Int) = chatelaineref24_Frame.l0 r ls g k M (outL ls 0 (i + 1)) ((i + 1 : Nat) : Int) := by
            rw [chatelaineref24_Frame.l0, if_pos c, if_neg (by omega), if_pos (by omega), if_pos (by omega), if_pos (by decide), rdL2, if_pos (by rw [b2]; decide), hg, Option.bind_some, if_neg c2, w1, if_pos (by omega), if_pos (by rw [b2]; omega), e1, if_pos (by rw [hpl]; omega), w2, e2]
          rw [step]
          exact frame_l0 ls hB hl g k M hM d (i + 1) r (by omega) (by omega) (fun j hj => by
            by_cases e : j = i
            · subst e; omega
            · exact hs j (by omega)) (by omega)
    · right
      obtain rfl : M = (i : Int) := by omega
      refine ⟨i, r, rfl, by omega, by omega, hs, ?_⟩
      rw [chatelaineref24_Frame.l0, if_neg c]
/-- The second loop. -/
theorem frame_l1 (ls W : List (List Int)) (hB : ∀ l ∈ ls, IsB l ∧ l.length = 512) (hW : ∀ l ∈ W, IsB l) (m : Nat) (hm : m ≤ ls.length) (hl : ls.length ≤ 20) (hWl : W.length = m) (out : List Int) : ∀ (d i r : Nat), i + d = m → 100 + d < r →
    ((∀ j, i ≤ j → j < m → W.getD j [] = ls.getD j []) ∧ chatelaineref24_Frame.l1 r ls (m : Int) out W (i : Int) = some (out, (m : Int), decide ((m : Int) > 0))) ∨ (¬ (∀ j, i ≤ j → j < m → W.getD j [] = ls.getD j []) ∧ chatelaineref24_Frame.l1 r ls (m : Int) out W (i : Int) = some ([], 0, false))
  | _, _, 0, _, h => absurd h (by omega)
  | 0, i, r + 1, hi, hr => by
    left
    exact ⟨fun j h1 h2 => absurd h2 (by omega), by rw [chatelaineref24_Frame.l1, if_neg (by omega)]⟩
  | d + 1, i, r + 1, hi, hr => by
    have w2 : wrap64 ((i : Int) + 1) = ((i + 1 : Nat) : Int) := by rw [w64' (by omega) (by omega)]; omega
    have hb := (getD_B hB (j := i) (by omega)).1
    have hw : IsB (W.getD i []) := by
      rw [List.getD_eq_getElem?_getD, List.getElem?_eq_getElem (by omega)]
      exact hW _ (List.getElem_mem (by omega))
    rw [chatelaineref24_Frame.l1, if_pos (by omega), if_pos (by omega), if_pos (by omega), if_pos (by omega), if_pos (by omega), rdL2, rdL2]
    by_cases e : W.getD i [] = ls.getD i []
    · rw [if_pos ((str_inj hw hb).mpr e), w2]
      rcases frame_l1 ls W hB hW m hm hl hWl out d (i + 1) r (by omega) (by omega) with ⟨c, e1⟩ | ⟨c, e1⟩
      · left
        refine ⟨fun j h1 h2 => ?_, e1⟩
        by_cases e2 : j = i
        · subst e2; exact e
        · exact c j (by omega) h2
      · right
        exact ⟨fun h => c fun j h1 h2 => h j (by omega) h2, e1⟩
    · right
      refine ⟨fun h => e (h i (Nat.le_refl _) (by omega)), ?_⟩
      rw [if_neg (fun h => e ((str_inj hw hb).mp h))]
def frN : Option (List Int) → Int
  | some out => (prts out.length : Int)
  | none => 0
theorem frame_f (ls : List (List Int)) (hB : ∀ l ∈ ls, IsB l ∧ l.length = 512) (hl : ls.length ≤ 20) (g k : Int) (hg : 1 ≤ g) (g2 : g ≤ 9223372036854775807) (hk : 1 ≤ k) (k2 : k ≤ 9223372036854775807) :
    ∃ r, chatelaineref24_Frame.f 2000 ls g k = some (r.getD [], frN r, r.isSome) ∧ RdIs ls 0 ls.length g k r := by
  by_cases h0 : ls.length = 0
  · refine ⟨none, ?_, ?_⟩
    · unfold chatelaineref24_Frame.f
      rw [if_pos (by omega)]
      rfl
    · rintro n ⟨h1, h2, _⟩
      omega
  · obtain ⟨b1, b2⟩ := getD_B hB (j := 0) (by omega)
    have hget : chatelaineref24_get.f 2000 (((ls.getD 0 []).take 20).drop 18) = some (hW (ls.getD 0 []) 1) := rget_f _ 2000 (by rw [List.length_drop, List.length_take]; omega) (by omega) ((b1.take _).drop _)
    have hM := hW_bd b1 1
    have hf : chatelaineref24_Frame.f 2000 ls g k = chatelaineref24_Frame.l0 2000 ls g k (hW (ls.getD 0 []) 1) [] 0 := by
      have e0 : rd_L2 ls 0 = ls.getD 0 [] := rdL2 ls 0
      unfold chatelaineref24_Frame.f
      rw [if_neg (by omega), if_pos (by omega), if_pos (by decide), e0, if_pos (by rw [b2]; decide), hget, Option.bind_some]
    have first : ∀ n, RdOk ls 0 ls.length g k n → hW (ls.getD 0 []) 1 = (n : Int) := fun n h => by
      have := gdB_n (h.2.2 0 h.1)
      exact this
    rw [hf]
    rcases frame_l0 ls hB hl g k (hW (ls.getD 0 []) 1) hM ls.length 0 2000 (by omega) (by omega) (fun j hj => absurd hj (by omega)) hM with ⟨e1, j, hj, hbad⟩ | ⟨m, r', em, hm, hr', hs, e1⟩
    · refine ⟨none, e1, ?_⟩
      intro n h
      have hn := first n h
      have h2 := h.2.1
      rcases hbad with hbad | hbad
      · omega
      · have h3 := h.2.2 j (by omega)
        rw [Nat.zero_add] at h3
        unfold gdB at h3
        simp only [Bool.and_eq_true] at h3
        have := hOk_size h3.1.1.1.1.1
        omega
    · have hol := out_size (n := m) ls hs (fun j hj => (getD_B hB (j := j) (by omega)).2) m (Nat.le_refl _)
      have e1 : chatelaineref24_Frame.l0 2000 ls g k (hW (ls.getD 0 []) 1) [] 0 = (chatelaineref24_Blocks.f r' g k (outL ls 0 m)).bind fun t => chatelaineref24_Frame.l1 r' ls (hW (ls.getD 0 []) 1) (outL ls 0 m) t 0 := e1
      rw [e1, blocks_fr g k _ r' (by omega) (by omega), Option.bind_some, em]
      have first : ∀ n, RdOk ls 0 ls.length g k n → m = n := fun n h => by
        have := first n h
        omega
      by_cases hm0 : m = 0
      · subst hm0
        refine ⟨none, ?_, fun n h => by have := first n h; have := h.1; omega⟩
        obtain ⟨q, rfl⟩ : ∃ q, r' = q + 1 := ⟨r' - 1, by omega⟩
        rw [chatelaineref24_Frame.l1, if_neg (by omega)]
        rfl
      · by_cases hp : prts (outL ls 0 m).length = m
        · have hWB : ∀ l ∈ blks g k (outL ls 0 m) (prts (outL ls 0 m).length), IsB l := by
            intro l hl2
            unfold blks at hl2
            obtain ⟨j, _, rfl⟩ := List.mem_map.mp hl2
            refine blkL_B (partL_B ?_ j)
            have : ∀ n, n ≤ m → IsB (outL ls 0 n) := fun n hn => by
              induction n with
              | zero => intro x hx; cases hx
              | succ n ih =>
                rw [outL, Nat.zero_add]
                exact (ih (by omega)).append (((getD_B hB (j := n) (by omega)).1.take _).drop _)
            exact this m (Nat.le_refl _)
          have e2 := frame_l1 ls _ hB hWB m hm hl ((blks_len _ _ _ _).trans hp) (outL ls 0 m) m 0 r' (by omega) (by omega)
          have hgt : decide ((m : Int) > 0) = true := decide_eq_true (by omega)
          have hwant : ∀ j, j < m → (blks g k (outL ls 0 m) (prts (outL ls 0 m).length)).getD j [] = blkL g k (j : Int) (m : Int) (partL (outL ls 0 m) j) := fun j hj => by
            rw [blks_at _ _ _ _ _ (by omega), hp]
          have e2 : (_ ∧ chatelaineref24_Frame.l1 r' ls (m : Int) (outL ls 0 m) (blks g k (outL ls 0 m) (prts (outL ls 0 m).length)) 0 = _) ∨ (_ ∧ chatelaineref24_Frame.l1 r' ls (m : Int) (outL ls 0 m) (blks g k (outL ls 0 m) (prts (outL ls 0 m).length)) 0 = _) := e2
          rcases e2 with ⟨c, e2⟩ | ⟨c, e2⟩
          · rw [e2]
            refine ⟨some (outL ls 0 m), ?_, m, ⟨by omega, by omega, fun j hj => ?_⟩, rfl⟩
            · rw [hgt]
              show some (outL ls 0 m, (m : Int), true) = some (outL ls 0 m, (prts (outL ls 0 m).length : Int), true)
              rw [hp]
            · rw [Nat.zero_add, ← c j (by omega) hj, hwant j hj]
              have := part_BkN (l := outL ls 0 m) (by omega) hg g2 hk k2 (j := j) (by omega)
              rw [hp] at this
              exact blk_gd this
          · rw [e2]
            refine ⟨none, rfl, ?_⟩
            intro n h
            obtain rfl := first n h
            refine c fun j _ hj => ?_
            rw [hwant j hj, rd_part hB (Nat.le_refl _) hg hk h hj]
            exact (rd_blk hB (Nat.le_refl _) hg hk h hj).1.symm
        · refine ⟨none, ?_, ?_⟩
          · obtain ⟨q, rfl⟩ : ∃ q, r' = q + 1 := ⟨r' - 1, by omega⟩
            rw [chatelaineref24_Frame.l1, if_pos (by omega), if_neg (by rw [blks_len]; omega)]
            rfl
          · intro n h
            obtain rfl := first n h
            exact hp (rd_full hB (Nat.le_refl _) hg hk h).2
/-- There is one answer. -/
theorem RdIs.one {now : List (List Int)} {a b : Nat} {g k : Int} {r r' : Option (List Int)} (h : RdIs now a b g k r) (h' : RdIs now a b g k r') : r = r' := by
  cases r with
  | none => cases r' with
    | none => rfl
    | some o => obtain ⟨n, hn, _⟩ := h'; exact absurd hn (h n)
  | some o => cases r' with
    | none => obtain ⟨n, hn, _⟩ := h; exact absurd hn (h' n)
    | some o' =>
      obtain ⟨n, hn, rfl⟩ := h
      obtain ⟨n', hn', rfl⟩ := h'
      rw [hn.uniq hn']
/-- From a place on. -/
theorem RdIs.drop {now : List (List Int)} {g k : Int} {i : Nat} (hi : i ≤ now.length) {r : Option (List Int)} : RdIs (now.drop i) 0 (now.length - i) g k r ↔ RdIs now i now.length g k r := by
  have hd : ∀ j, (now.drop i).getD j [] = now.getD (i + j) [] := fun j => by
    rw [List.getD_eq_getElem?_getD, List.getElem?_drop, ← List.getD_eq_getElem?_getD]
  have hok : ∀ n, RdOk (now.drop i) 0 (now.length - i) g k n ↔ RdOk now i now.length g k n := fun n => by
    unfold RdOk
    constructor
    · rintro ⟨h1, h2, h3⟩
      exact ⟨h1, by omega, fun j hj => by have := h3 j hj; rwa [Nat.zero_add, hd] at this⟩
    · rintro ⟨h1, h2, h3⟩
      exact ⟨h1, by omega, fun j hj => by rw [Nat.zero_add, hd]; exact h3 j hj⟩
  have ho : ∀ n, outL (now.drop i) 0 n = outL now i n := fun n => by
    induction n with
    | zero => rfl
    | succ n ih => rw [outL, outL, ih, Nat.zero_add, hd]
  cases r with
  | none => exact ⟨fun h n hn => h n ((hok n).mpr hn), fun h n hn => h n ((hok n).mp hn)⟩
  | some o =>
    constructor
    · rintro ⟨n, h1, h2⟩; exact ⟨n, (hok n).mp h1, by rw [h2, ho]⟩
    · rintro ⟨n, h1, h2⟩; exact ⟨n, (hok n).mpr h1, by rw [h2, ho]⟩
end

end Go.Proofs.Ytkiofhmpeokipaa.PTA
