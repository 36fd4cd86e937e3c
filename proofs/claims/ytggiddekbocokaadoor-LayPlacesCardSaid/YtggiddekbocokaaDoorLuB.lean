import Derived.Test.YtggiddekbocokaaDoorLuA
namespace Go.Proofs.YtggiddekbocokaaDoor.PLP
open Go.RowKit Go.Proofs.YtggiddekbocokaaDoorW.PrintWords Go.Proofs.YtggiddekbocokaaDoorW.PrintLast Go.Proofs.YtggiddekbocokaaDoorW.PrintMore
attribute [local go_sem] max2_int min2_int max_two min_two max_three min_three max_four min_four
set_option linter.unusedVariables false
set_option linter.unusedSimpArgs false
-- U2: what lay.Hints, lay.Unhint, SamePolys compute (printed forms), by U1's words
theorem u_bnd {α β : Type} {o : Option α} {x : α} {f : α → Option β} {r : Option β} (h : o = some x) (k : f x = r) : o.bind f = r := by rw [h]; exact k
theorem u_ifp {α : Type} {c : Prop} [Decidable c] {a b r : α} (h : c) (k : a = r) : (if c then a else b) = r := by rw [if_pos h]; exact k
theorem u_ifn {α : Type} {c : Prop} [Decidable c] {a b r : α} (h : ¬ c) (k : b = r) : (if c then a else b) = r := by rw [if_neg h]; exact k
theorem u_w64 {n : Int} (h0 : -9223372036854775808 ≤ n) (h1 : n ≤ 9223372036854775807) : wrap64 n = n := by unfold wrap64; omega
theorem u_rd (l : List Int) (i : Nat) (h : i < l.length) : rd l (i : Int) = l[i] := by
  unfold rd
  rw [Int.toNat_natCast, List.getD_eq_getElem?_getD, List.getElem?_eq_getElem h]
  rfl
theorem u_rdL (l : List (List Int)) (i : Nat) (h : i < l.length) : rd_L3 l (i : Int) = l[i] := by
  unfold rd_L3
  rw [Int.toNat_natCast, List.getD_eq_getElem?_getD, List.getElem?_eq_getElem h]
  rfl
abbrev FL (n : Int) : List S67 := [⟨n, ⟨#[108, 97, 121]⟩⟩]
theorem cont_l0 (l : List Int) (hl : l.length < 1000) : ∀ (m i k : Nat), i + m = l.length → m < k → ∃ r, slices_IndexFunc_byte_byte_at_lay_Unhint_1.l0 k l (l.length : Int) (i : Int) = some r ∧ decide (r ≥ 0) = (l.drop i).any (fun x => x != 0)
  | 0, i, k + 1, hi, hk => ⟨-1, by rw [slices_IndexFunc_byte_byte_at_lay_Unhint_1.l0, if_neg (by omega)], by rw [List.drop_of_length_le (by omega)]; rfl⟩
  | m + 1, i, k + 1, hi, hk => by
    have hil : i < l.length := by omega
    have e : l.drop i = l[i] :: l.drop (i + 1) := (List.getElem_cons_drop hil).symm
    rw [slices_IndexFunc_byte_byte_at_lay_Unhint_1.l0, if_pos (by omega), if_pos (by omega), if_pos (by omega), u_rd l i hil, lay_Unhint_1.f, Option.bind_some, e, List.any_cons]
    by_cases c : (l[i] != 0) = true
    · rw [if_pos c]
      exact ⟨_, rfl, by rw [c, Bool.true_or, decide_eq_true (by omega)]⟩
    · rw [if_neg c, u_w64 (by omega) (by omega), show (i : Int) + 1 = ((i + 1 : Nat) : Int) by omega, Bool.eq_false_iff.mpr c, Bool.false_or]
      exact cont_l0 l hl m (i + 1) k (by omega) (by omega)
theorem cont_is (l : List Int) (k : Nat) (hl : l.length < 1000) (hk : 1000 < k) : slices_ContainsFunc_byte_byte_at_lay_Unhint_1.f k l = some (l.any (fun x => x != 0)) := by
  obtain ⟨r, h1, h2⟩ := cont_l0 l hl l.length 0 k (by omega) (by omega)
  rw [Int.natCast_zero] at h1
  rw [List.drop_zero] at h2
  unfold slices_ContainsFunc_byte_byte_at_lay_Unhint_1.f slices_IndexFunc_byte_byte_at_lay_Unhint_1.f
  rw [h1, ← h2]
  rfl
theorem un_l1 (b : List Int) (hB : ∀ x ∈ b, 0 ≤ x ∧ x < 256) (hl : b.length < 1000) (x8 : List (List Int)) (h8 : x8.length < 100) (xs : List Int) (L j c0 c1 c2 c3 c4 c5 c6 c7 c8 : Int) (R : List (List Int) × List S67) (C first e : Nat) (he : e ≤ b.length) :
    ∀ (m a k : Nat) (f : List Int) (pv : Option Int), a + m = e → first ≤ a → f.length = 256 → C + m < k → pv = (if first < a then some (b.getD (a - 1) 0) else none) →
    (∀ f' k', C ≤ k' → uhl pv ((b.drop a).take m) f = some f' → lay_Unhint.l0 k' b (x8 ++ [f']) (e : Int) xs L (wrap64 (j + 1)) c0 c1 c2 c3 c4 c5 c6 c7 c8 = some R) →
    (uhl pv ((b.drop a).take m) f = none → R = ([], FL 4)) →
    lay_Unhint.l1 k b x8 (a : Int) (e : Int) f (first : Int) xs L j c0 c1 c2 c3 c4 c5 c6 c7 c8 = some R
  | 0, a, k + 1, f, pv, hae, hfa, hf, hk, hpv, h1, h2 => by
    rw [lay_Unhint.l1, if_neg (by omega), if_pos (by omega), show (a : Int) = (e : Int) by omega]
    exact h1 f k (by omega) (by rw [List.take_zero]; rfl)
  | m + 1, a, k + 1, f, pv, hae, hfa, hf, hk, hpv, h1, h2 => by
    have hab : a < b.length := by omega
    have e1 : (b.drop a).take (m + 1) = b[a] :: (b.drop (a + 1)).take m := by rw [← List.getElem_cons_drop hab, List.take_succ_cons]
    have hx := hB b[a] (List.getElem_mem hab)
    have hrec := un_l1 b hB hl x8 h8 xs L j c0 c1 c2 c3 c4 c5 c6 c7 c8 R C first e he m (a + 1) k (setB f b[a]) (some b[a]) (by omega) (by omega) (List.length_set.trans hf) (by omega) (by rw [if_pos (by omega), Nat.add_sub_cancel, List.getD_eq_getElem?_getD, List.getElem?_eq_getElem hab]; rfl)
    rw [e1] at h1 h2
    simp only [uhl] at h1 h2
    by_cases c : first < a
    · rw [if_pos c] at hpv
      have ha1 : a - 1 < b.length := by omega
      have hg : b.getD (a - 1) 0 = b[a - 1] := by rw [List.getD_eq_getElem?_getD, List.getElem?_eq_getElem ha1]; rfl
      rw [hg] at hpv
      subst hpv
      rw [lay_Unhint.l1, if_pos (by omega), if_pos (by omega), if_pos (by omega), if_pos (by omega), u_w64 (by omega) (by omega), show (a : Int) - 1 = ((a - 1 : Nat) : Int) by omega, if_pos (by omega), if_pos (by omega), u_rd b a hab, u_rd b (a - 1) ha1]
      by_cases c2 : b[a] ≤ b[a - 1]
      · rw [if_pos c2, lay_fault.f, Option.bind_some]
        have := h2 (if_pos ⟨_, rfl, c2⟩)
        rw [this]
      · rw [if_neg (by rintro ⟨p, hp, hq⟩; cases hp; exact c2 hq)] at h1 h2
        rw [if_neg c2, if_pos hx.1, if_pos (by omega), u_w64 (by omega) (by omega), show (a : Int) + 1 = ((a + 1 : Nat) : Int) by omega]
        exact hrec h1 h2
    · rw [if_neg c] at hpv
      subst hpv
      rw [if_neg (by rintro ⟨p, hp, hq⟩; cases hp)] at h1 h2
      rw [lay_Unhint.l1, if_pos (by omega), if_neg (by omega), if_pos (by omega), if_pos (by omega), u_rd b a hab, if_pos hx.1, if_pos (by omega), u_w64 (by omega) (by omega), show (a : Int) + 1 = ((a + 1 : Nat) : Int) by omega]
      exact hrec h1 h2
/-- What is answered, of what was read. -/
def unf (om : Nat) (b : List Int) (x8 : List (List Int)) : Option (Nat × List (List Int)) → List (List Int) × List S67
  | none => ([], FL 4)
  | some t => if ((b.take om).drop t.1).any (fun x => x != 0) then ([], FL 4) else (x8 ++ t.2, [])
theorem unf_some (om : Nat) (b : List Int) (x8 : List (List Int)) (t : Nat × List (List Int)) : unf om b x8 (some t) = if ((b.take om).drop t.1).any (fun x => x != 0) then ([], FL 4) else (x8 ++ t.2, []) := rfl
theorem un_l0 (om : Nat) (b : List Int) (hB : ∀ x ∈ b, 0 ≤ x ∧ x < 256) (hl : b.length < 1000) (ho : om ≤ b.length) (xs : List Int) (hxs : xs.length ≤ 50) (hX : ∀ x ∈ xs, 0 ≤ x ∧ x < 256) (c0 c1 c2 c3 c4 c6 c7 c8 : Int) :
    ∀ (r : List Int) (j a k : Nat) (x8 : List (List Int)), xs.drop j = r → j ≤ xs.length → a ≤ om → x8.length ≤ j → 2000 * (r.length + 1) < k → lay_Unhint.l0 k b x8 (a : Int) xs (xs.length : Int) (j : Int) c0 c1 c2 c3 c4 (om : Int) c6 c7 c8 = some (unf om b x8 (uhs om b r a))
  | [], j, a, k + 1, x8, hr, hj, ha, h8, hk => by
    have : xs.length ≤ j := List.drop_eq_nil_iff.mp hr
    have hc := cont_is ((b.take om).drop a) k (by rw [List.length_drop, List.length_take]; omega) (by omega)
    rw [lay_Unhint.l0, if_neg (by omega), if_pos (by omega), if_pos (by omega), if_pos (by omega), Int.toNat_natCast, Int.toNat_natCast, hc, Option.bind_some]
    show _ = some (if ((b.take om).drop a).any (fun x => x != 0) = true then ([], FL 4) else (x8 ++ [], []))
    by_cases c : ((b.take om).drop a).any (fun x => x != 0) = true
    · rw [if_pos c, if_pos c]; rfl
    · rw [if_neg c, if_neg c, List.append_nil]
  | x :: r, j, a, k + 1, x8, hr, hj, ha, h8, hk => by
    have hjl : j < xs.length := by
      rcases Nat.lt_or_ge j xs.length with h | h
      · exact h
      · rw [List.drop_of_length_le h] at hr; cases hr
    have e1 : xs.drop j = xs[j] :: xs.drop (j + 1) := (List.getElem_cons_drop hjl).symm
    rw [e1] at hr
    injection hr with hx hr
    have hxB := hX xs[j] (List.getElem_mem hjl)
    rw [List.length_cons] at hk
    rw [lay_Unhint.l0, if_pos (by omega), if_pos (by omega), if_pos (by omega), if_pos (by omega), u_rd xs j hjl, hx]
    rw [hx] at hxB
    obtain ⟨n, rfl⟩ := Int.eq_ofNat_of_zero_le hxB.1
    rw [u_w64 (by omega) (by omega)]
    have eu : uhs om b (((n : Nat) : Int) :: r) a = if (om : Int) < (n : Int) ∨ (n : Int) < (a : Int) then none else (uhl none ((b.drop a).take (n - a)) zer).bind fun f => (uhs om b r n).map fun t => (t.1, f :: t.2) := by
      rw [uhs, Int.toNat_natCast]
    by_cases d1 : (n : Int) > (om : Int)
    · rw [if_pos d1, lay_fault.f, Option.bind_some, eu, if_pos (by omega)]; rfl
    · rw [if_neg d1]
      by_cases d2 : (n : Int) < (a : Int)
      · rw [if_pos d2, lay_fault.f, Option.bind_some, eu, if_pos (by omega)]; rfl
      · rw [if_neg d2, eu, if_neg (by omega)]
        refine un_l1 b hB hl x8 (by omega) xs _ _ c0 c1 c2 c3 c4 (om : Int) c6 c7 c8 _ (2000 * (r.length + 1) + 1) a n (by omega) (n - a) a k _ none (by omega) (by omega) List.length_replicate (by omega) (by rw [if_neg (by omega)]) (fun f' k' hk' hu => ?_) (fun hu => ?_)
        · have hz : uhl none ((b.drop a).take (n - a)) zer = some f' := hu
          rw [u_w64 (by omega) (by omega), show (j : Int) + 1 = ((j + 1 : Nat) : Int) by omega, un_l0 om b hB hl ho xs hxs hX c0 c1 c2 c3 c4 c6 c7 c8 r (j + 1) n k' (x8 ++ [f']) hr (by omega) (by omega) (by rw [List.length_append]; simp; omega) (by omega), hz, Option.bind_some]
          congr 1
          cases uhs om b r n with
          | none => rfl
          | some t =>
            rw [Option.map_some, unf_some, unf_some]
            simp only [List.append_assoc, List.cons_append, List.nil_append]
        · have hz : uhl none ((b.drop a).take (n - a)) zer = none := hu
          rw [hz]; rfl
/-- lay.Unhint. -/
theorem un_is (k : Nat) (s : Int) (K om : Nat) (c1 c2 c3 c4 c6 c7 c8 : Int) (hof : lay_Of.f s = some ((K : Int), c1, c2, c3, c4, (om : Int), c6, c7, c8, true)) (hK : K ≤ 50) (hom : om ≤ 200) (b : List Int) (hB : ∀ x ∈ b, 0 ≤ x ∧ x < 256) (hl : b.length = om + K) (hk : 110000 < k) :
    lay_Unhint.f k s b = some (match uh om b with | none => ([], FL 4) | some g => (g, [])) := by
  unfold lay_Unhint.f
  refine u_bnd hof (u_ifp rfl (u_ifp ?_ (u_ifp (Int.natCast_nonneg _) (u_ifp (Int.ofNat_le.mpr (by omega)) ?_))))
  · show (b.length : Int) = wrap64 ((om : Int) + (K : Int))
    rw [u_w64 (by omega) (by omega)]; omega
  · have hd : (b.drop om).length = K := by rw [List.length_drop]; omega
    have := un_l0 om b hB (by omega) (by omega) (b.drop om) (by omega) (fun x hx => hB x (List.mem_of_mem_drop hx)) (K : Int) c1 c2 c3 c4 c6 c7 c8 (b.drop om) 0 0 k [] List.drop_zero (by omega) (by omega) (by simp) (by rw [hd]; omega)
    rw [Int.natCast_zero] at this
    show lay_Unhint.l0 k b [] 0 (b.drop (om : Int).toNat) _ 0 _ _ _ _ _ (om : Int) _ _ _ = _
    rw [Int.toNat_natCast, this]
    congr 1
    unfold uh
    cases uhs om b (b.drop om) 0 with
    | none => rfl
    | some t =>
      rw [Option.bind_some, unf_some]
      by_cases c : ((b.take om).drop t.1).any (fun x => x != 0) = true
      · rw [if_pos c, if_pos c]
      · rw [if_neg c, if_neg c, List.nil_append]
/-! ### lay.Hints -/
theorem hi_l1 (f : List Int) (hf : f.length = 256) (x9 : List Int) (h9 : x9.length < 1000) (hs : List (List Int)) (L j c0 c1 c2 c3 c4 c5 c6 c7 c8 : Int) (R : List Int × List S67) (C : Nat) :
    ∀ (m i k : Nat) (x8 : List Int), i + m = 256 → C + m < k → x8.length + m < 100000 →
    (∀ k', C ≤ k' → lay_Hints.l0 k' (x8 ++ plc (f.drop i) i) (x9 ++ [mn ((x8 ++ plc (f.drop i) i).length : Int) 255]) hs L (wrap64 (j + 1)) c0 c1 c2 c3 c4 c5 c6 c7 c8 = some R) →
    lay_Hints.l1 k x8 x9 hs L j f 256 (i : Int) c0 c1 c2 c3 c4 c5 c6 c7 c8 = some R
  | 0, i, k + 1, x8, hi, hk, h8, hn => by
    have := hn k (by omega)
    rw [List.drop_of_length_le (by omega), plc, List.append_nil] at this
    rw [lay_Hints.l1, if_neg (by omega), if_pos (by omega)]
    exact this
  | m + 1, i, k + 1, x8, hi, hk, h8, hn => by
    have hil : i < f.length := by omega
    have e1 : f.drop i = f[i] :: f.drop (i + 1) := (List.getElem_cons_drop hil).symm
    rw [e1, plc] at hn
    rw [lay_Hints.l1, if_pos (by omega), if_pos (by omega), if_pos (by omega), u_rd f i hil, u_w64 (by omega) (by omega), show (i : Int) + 1 = ((i + 1 : Nat) : Int) by omega]
    by_cases c : f[i] = 1
    · rw [if_pos c] at hn
      rw [if_pos c, if_pos (by omega), show ((i : Int)) % 256 = (i : Int) by omega]
      refine hi_l1 f hf x9 h9 hs L j c0 c1 c2 c3 c4 c5 c6 c7 c8 R C m (i + 1) k (x8 ++ [(i : Int)]) (by omega) (by omega) (by rw [List.length_append]; simp; omega) (fun k' hk' => ?_)
      rw [List.append_assoc, List.singleton_append]
      exact hn k' hk'
    · rw [if_neg c] at hn
      rw [if_neg c]
      exact hi_l1 f hf x9 h9 hs L j c0 c1 c2 c3 c4 c5 c6 c7 c8 R C m (i + 1) k x8 (by omega) (by omega) (by omega) hn
/-- The ends, as they are laid. -/
def endm : List (List Int) → Nat → List Int
  | [], _ => []
  | f :: r, n => mn ((n + (plc f 0).length : Nat) : Int) 255 :: endm r (n + (plc f 0).length)
theorem endm_is : ∀ (h : List (List Int)) (n : Nat), n + (plcs h).length ≤ 255 → endm h n = ends h n
  | [], _, _ => rfl
  | f :: r, n, hn => by
    have e : plcs (f :: r) = plc f 0 ++ plcs r := rfl
    rw [e, List.length_append] at hn
    rw [endm, ends, endm_is r _ (by omega)]
    congr 1
    unfold mn
    rw [if_neg (by omega)]
theorem endm_len : ∀ (h : List (List Int)) (n : Nat), (endm h n).length = h.length
  | [], _ => rfl
  | f :: r, n => by rw [endm, List.length_cons, endm_len r, List.length_cons]
theorem plcs_len : ∀ (h : List (List Int)), (∀ f ∈ h, f.length = 256) → (plcs h).length ≤ 256 * h.length
  | [], _ => by simp [plcs]
  | f :: r, hp => by
    have e : plcs (f :: r) = plc f 0 ++ plcs r := rfl
    have h1 := plc_len f 0
    have h2 := hp f (by simp)
    have h3 := plcs_len r (fun g hg => hp g (by simp [hg]))
    rw [e, List.length_append, List.length_cons]
    omega
def hfin (om : Nat) (p e : List Int) : List Int × List S67 := if p.length > om then ([], FL 5) else (p ++ List.replicate (om - p.length) 0 ++ e, [])
set_option maxRecDepth 100000 in
theorem hi_l0 (om : Nat) (hom : om ≤ 1000) (hs : List (List Int)) (hL : hs.length ≤ 50) (c0 c1 c2 c3 c4 c6 c7 c8 : Int) :
    ∀ (r : List (List Int)) (j k : Nat) (x8 x9 : List Int), hs.drop j = r → j ≤ hs.length → (∀ f ∈ r, f.length = 256) → 2000 * (r.length + 1) < k → x8.length + 256 * r.length < 20000 → x9.length = j →
    lay_Hints.l0 k x8 x9 hs (hs.length : Int) (j : Int) c0 c1 c2 c3 c4 (om : Int) c6 c7 c8 = some (hfin om (x8 ++ plcs r) (x9 ++ endm r x8.length))
  | [], j, k + 1, x8, x9, hr, hj, hp, hk, h8, h9 => by
    have : hs.length ≤ j := List.drop_eq_nil_iff.mp hr
    rw [List.length_nil] at h8
    unfold hfin
    rw [lay_Hints.l0, if_neg (by omega), show x8 ++ plcs [] = x8 from List.append_nil _, show x9 ++ endm [] x8.length = x9 from List.append_nil _]
    by_cases c : x8.length > om
    · rw [if_pos (by omega), if_pos c, lay_fault.f, Option.bind_some]
    · rw [if_neg (by omega), if_neg c, u_w64 (by omega) (by omega), if_pos (by omega), if_pos (by omega), show ((om : Int) - (x8.length : Int)).toNat = om - x8.length by omega]
      have hfl : [x8, List.replicate (om - x8.length) 0, x9].flatten = x8 ++ List.replicate (om - x8.length) 0 ++ x9 := by simp
      have hc : slices_Concat_byte_byte.f [x8, List.replicate (om - x8.length) 0, x9] = some (x8 ++ List.replicate (om - x8.length) 0 ++ x9) := by
        unfold slices_Concat_byte_byte.f
        rw [hfl, if_pos (by simp), if_pos (by rw [List.length_append, List.length_append, List.length_replicate]; omega)]
      rw [hc, Option.bind_some]
  | f :: r, j, k + 1, x8, x9, hr, hj, hp, hk, h8, h9 => by
    have hjl : j < hs.length := by
      rcases Nat.lt_or_ge j hs.length with h | h
      · exact h
      · rw [List.drop_of_length_le h] at hr; cases hr
    have e1 : hs.drop j = hs[j] :: hs.drop (j + 1) := (List.getElem_cons_drop hjl).symm
    rw [e1] at hr
    injection hr with hx hr
    have hf := hp f (by simp)
    have hpl := plc_len f 0
    rw [List.length_cons] at hk h8
    rw [lay_Hints.l0, if_pos (by omega), if_pos (by omega), if_pos (by omega), u_rdL hs j hjl, hx, show (f.length : Int) = 256 by omega]
    have := hi_l1 f hf x9 (by omega) hs (hs.length : Int) (j : Int) c0 c1 c2 c3 c4 (om : Int) c6 c7 c8 (hfin om (x8 ++ plcs (f :: r)) (x9 ++ endm (f :: r) x8.length)) (2000 * (r.length + 1) + 1) 256 0 k x8 (by omega) (by omega) (by omega) (fun k' hk' => ?_)
    · rw [Int.natCast_zero] at this
      exact this
    · rw [List.drop_zero, u_w64 (by omega) (by omega), show (j : Int) + 1 = ((j + 1 : Nat) : Int) by omega, hi_l0 om hom hs hL c0 c1 c2 c3 c4 c6 c7 c8 r (j + 1) k' _ _ hr (by omega) (fun g hg => hp g (by simp [hg])) (by omega) (by rw [List.length_append]; omega) (by rw [List.length_append]; simp; omega)]
      have e : plcs (f :: r) = plc f 0 ++ plcs r := rfl
      rw [e, List.append_assoc, List.append_assoc, endm, List.length_append, List.singleton_append]
theorem bad01 (f : List Int) : lay_bad 2 f = false ↔ P01 f := by
  unfold lay_bad P01
  rw [Bool.or_eq_false_iff, List.any_eq_false]
  constructor
  · rintro ⟨h1, h2⟩
    refine ⟨by simpa using h1, fun x hx => ?_⟩
    have := h2 x hx
    simp only [lay_odd, Bool.or_eq_true, decide_eq_true_eq] at this
    omega
  · rintro ⟨h1, h2⟩
    refine ⟨by simp [h1], fun x hx => ?_⟩
    have := h2 x hx
    simp only [lay_odd, Bool.or_eq_true, decide_eq_true_eq]
    omega
/-- lay.Hints. -/
theorem hi_is (k : Nat) (s : Int) (K om : Nat) (c1 c2 c3 c4 c6 c7 c8 : Int) (hof : lay_Of.f s = some ((K : Int), c1, c2, c3, c4, (om : Int), c6, c7, c8, true)) (hK : K ≤ 50) (hom : om ≤ 200) (h : List (List Int)) (hl : h.length = K) (hp : ∀ f ∈ h, P01 f) (hk : 110000 < k) :
    lay_Hints.f k s h = some (if (plcs h).length > om then ([], FL 5) else (hb om h, [])) := by
  have hany : h.any (lay_bad 2) = false := by
    rw [List.any_eq_false]
    intro f hf
    rw [(bad01 f).mpr (hp f hf)]
    decide
  have hw : lay_whole.f h (K : Int) 2 = some true := by
    unfold lay_whole.f
    rw [if_pos (by omega), hany, decide_eq_true (by omega)]
    rfl
  unfold lay_Hints.f
  refine u_bnd hof (u_ifp rfl (u_bnd hw (u_ifp rfl ?_)))
  have := hi_l0 om (by omega) h (by omega) (K : Int) c1 c2 c3 c4 c6 c7 c8 h 0 k [] [] List.drop_zero (by omega) (fun f hf => (hp f hf).1) (by omega) (by simp; omega) rfl
  rw [Int.natCast_zero, List.nil_append, List.nil_append] at this
  refine this.trans ?_
  unfold hfin
  by_cases c : (plcs h).length > om
  · rw [if_pos c, if_pos c]
  · rw [if_neg c, if_neg c, show endm h ([] : List Int).length = endm h 0 from rfl, endm_is h 0 (by omega)]
    rfl
/-! ### Two lists of polys -/
theorem si_l0 (a b : List Int) (hl : a.length = b.length) (hb : a.length < 1000000) : ∀ (m i k : Nat), i + m = a.length → m < k → chatelainelaw0_SameInts.l0 k a b (i : Int) = some (decide (a.drop i = b.drop i))
  | 0, i, k + 1, hi, hk => by
    rw [chatelainelaw0_SameInts.l0, if_neg (by omega), List.drop_of_length_le (by omega), List.drop_of_length_le (by omega)]
    simp
  | m + 1, i, k + 1, hi, hk => by
    have e1 : a.drop i = a[i] :: a.drop (i + 1) := (List.getElem_cons_drop (by omega)).symm
    have e2 : b.drop i = b[i] :: b.drop (i + 1) := (List.getElem_cons_drop (by omega)).symm
    rw [chatelainelaw0_SameInts.l0, if_pos (by omega), if_pos (by omega), if_pos (by omega), u_rd a i (by omega), u_rd b i (by omega), e1, e2]
    by_cases h : a[i] = b[i]
    · rw [if_pos h, u_w64 (by omega) (by omega), show (i : Int) + 1 = ((i + 1 : Nat) : Int) by omega, si_l0 a b hl hb m (i + 1) k (by omega) (by omega)]
      simp only [List.cons.injEq, h, true_and]
    · rw [if_neg h]
      simp only [List.cons.injEq, h, false_and, decide_false]
theorem si_is (k : Nat) (a b : List Int) (hb : a.length < 1000000) (hk : a.length < k) : chatelainelaw0_SameInts.f k a b = some (decide (a = b)) := by
  unfold chatelainelaw0_SameInts.f
  by_cases h : (a.length : Int) = (b.length : Int)
  · rw [if_pos h]
    have := si_l0 a b (by omega) (by omega) a.length 0 k (by omega) (by omega)
    rw [List.drop_zero, List.drop_zero] at this
    exact this
  · rw [if_neg h]
    have : a ≠ b := fun e => h (by rw [e])
    simp [this]
theorem sp_l0 (a b : List (List Int)) (hl : a.length = b.length) (hb : a.length < 1000000) (hA : ∀ f ∈ a, f.length < 1000) : ∀ (m i k : Nat), i + m = a.length → m + 1000 < k → chatelainelaw0_SamePolys.l0 k a b (i : Int) = some (decide (a.drop i = b.drop i))
  | 0, i, k + 1, hi, hk => by
    rw [chatelainelaw0_SamePolys.l0, if_neg (by omega), List.drop_of_length_le (by omega), List.drop_of_length_le (by omega)]
    simp
  | m + 1, i, k + 1, hi, hk => by
    have e1 : a.drop i = a[i] :: a.drop (i + 1) := (List.getElem_cons_drop (by omega)).symm
    have e2 : b.drop i = b[i] :: b.drop (i + 1) := (List.getElem_cons_drop (by omega)).symm
    have hai := hA a[i] (List.getElem_mem (by omega))
    rw [chatelainelaw0_SamePolys.l0, if_pos (by omega), if_pos (by omega), if_pos (by omega), u_rdL a i (by omega), u_rdL b i (by omega), si_is k _ _ (by omega) (by omega), Option.bind_some, e1, e2]
    by_cases h : a[i] = b[i]
    · rw [if_pos (by simp [h]), u_w64 (by omega) (by omega), show (i : Int) + 1 = ((i + 1 : Nat) : Int) by omega, sp_l0 a b hl hb hA m (i + 1) k (by omega) (by omega)]
      simp only [List.cons.injEq, h, true_and]
    · rw [if_neg (by simp [h])]
      simp only [List.cons.injEq, h, false_and, decide_false]
/-- SamePolys. -/
theorem sp_is (k : Nat) (a b : List (List Int)) (hb : a.length < 1000) (hA : ∀ f ∈ a, f.length < 1000) (hk : 3000 < k) : chatelainelaw0_SamePolys.f k a b = some (decide (a = b)) := by
  unfold chatelainelaw0_SamePolys.f
  by_cases h : (a.length : Int) = (b.length : Int)
  · rw [if_pos h]
    have := sp_l0 a b (by omega) (by omega) hA a.length 0 k (by omega) (by omega)
    rw [List.drop_zero, List.drop_zero] at this
    exact this
  · rw [if_neg h]
    have : a ≠ b := fun e => h (by rw [e])
    simp [this]

end Go.Proofs.YtggiddekbocokaaDoor.PLP
