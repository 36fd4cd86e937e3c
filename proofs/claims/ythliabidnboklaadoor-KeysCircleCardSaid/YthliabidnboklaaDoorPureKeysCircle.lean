/- A version that is disabled and enabled again, or doomed, called back and enabled again, is what it was; the others stay as they were. No condition. -/
import Derived.Test.YthliabidnboklaaDoorPKeyx0
import Derived.Test.YthliabidnboklaaDoorPKeyx1
import Derived.Test.YthliabidnboklaaDoorPKeyx10
import Derived.Test.YthliabidnboklaaDoorPKeyx11
import Derived.Test.YthliabidnboklaaDoorPKeyx12
import Derived.Test.YthliabidnboklaaDoorPKeyx13
import Derived.Test.YthliabidnboklaaDoorPKeyx14
import Derived.Test.YthliabidnboklaaDoorPKeyx2
import Derived.Test.YthliabidnboklaaDoorPKeyx3
import Derived.Test.YthliabidnboklaaDoorPKeyx4
import Derived.Test.YthliabidnboklaaDoorPKeyx5
import Derived.Test.YthliabidnboklaaDoorPKeyx6
import Derived.Test.YthliabidnboklaaDoorPKeyx7
import Derived.Test.YthliabidnboklaaDoorPKeyx8
import Derived.Test.YthliabidnboklaaDoorPKeyx9
namespace Go.Proofs.YthliabidnboklaaDoor.Pure
open Go.RowKit Go.Proofs.YthliabidnboklaaDoor.PKey Go.Proofs.YthliabidnboklaaDoorW.PrintWords Go.Proofs.YthliabidnboklaaDoorW.PrintLast Go.Proofs.YthliabidnboklaaDoorW.PrintMore

theorem bnd {α β : Type} {o : Option α} {x : α} {f : α → Option β} {r : Option β} (h : o = some x) (k : f x = r) : o.bind f = r := by rw [h]; exact k
theorem ifp {α : Type} {c : Prop} [Decidable c] {a b r : α} (h : c) (k : a = r) : (if c then a else b) = r := by rw [if_pos h]; exact k
theorem ifn {α : Type} {c : Prop} [Decidable c] {a b r : α} (h : ¬ c) (k : b = r) : (if c then a else b) = r := by rw [if_neg h]; exact k
theorem w64 {n : Int} (h0 : -9223372036854775808 ≤ n) (h1 : n ≤ 9223372036854775807) : wrap64 n = n := by unfold wrap64; omega
theorem wrap_u64d (n : Int) : IntKind.u64.wrap n = n % 18446744073709551616 := by simp [IntKind.wrap, IntKind.bits, IntKind.signed]
theorem klow (a n : Int) (hn : 0 < n) (hn' : n ≤ 2000) : ∃ r, chatelainelaw0_Low.f a n = some r ∧ 0 ≤ r ∧ r < n := by
  have e : IntKind.u64.wrap n = n := by rw [wrap_u64d]; omega
  have h0 : 0 ≤ IntKind.u64.wrap a := by rw [wrap_u64d]; omega
  have h1 := Int.emod_nonneg (IntKind.u64.wrap a) (show n ≠ 0 by omega)
  have h2 := Int.emod_lt_of_pos (IntKind.u64.wrap a) hn
  refine ⟨IntKind.u64.wrap a % n, ?_, h1, h2⟩
  unfold chatelainelaw0_Low.f
  rw [e, if_neg (by omega), Int.tmod_eq_emod_of_nonneg h0, w64 (by omega) (by omega)]
theorem rd_el (l : List S62) (i : Nat) (h : i < l.length) : rd_T62 l (i : Int) = l[i] := by
  unfold rd_T62
  rw [Int.toNat_natCast, List.getD_eq_getElem?_getD, List.getElem?_eq_getElem h]
  rfl
theorem in_yes {a b c : Int} (h : b ≤ a) (h' : a ≤ c) : keys_in.f a b c = some true := by
  unfold keys_in.f
  rw [if_pos h, decide_eq_true h']
theorem in_any (a b c : Int) : ∃ t, keys_in.f a b c = some t ∧ (t = true → b ≤ a ∧ a ≤ c) := by
  unfold keys_in.f
  by_cases h : a ≥ b
  · rw [if_pos h]
    exact ⟨_, rfl, fun e => ⟨h, of_decide_eq_true e⟩⟩
  · rw [if_neg h]
    exact ⟨false, rfl, fun e => by cases e⟩
/-- What a version that may be is: its number, and what its state says of when and of the seed. -/
def Vs (v : S62) (n : Int) : Prop := v.f0 = n ∧ ((v.f1 = 3 ∧ 1 ≤ v.f2 ∧ v.f2 ≤ 1099511627776 ∧ v.f3.length = 64) ∨ (v.f1 = 4 ∧ v.f2 = 0 ∧ v.f3.length = 0) ∨ (v.f1 = 1 ∧ v.f2 = 0 ∧ v.f3.length = 64) ∨ (v.f1 = 2 ∧ v.f2 = 0 ∧ v.f3.length = 64))
theorem vmay_yes (v : S62) (n : Int) (h : Vs v n) : keys_may.f v.f0 v.f1 v.f2 v.f3 n = some true := by
  obtain ⟨hn, h⟩ := h
  unfold keys_may.f
  rcases h with ⟨h1, h2, h3, h4⟩ | ⟨h1, h2, h3⟩ | ⟨h1, h2, h3⟩ | ⟨h1, h2, h3⟩
  · rw [if_pos h1, in_yes h2 h3]
    simp [hn, h4]
  · simp [h1, hn, h2, h3]
  · simp [h1, hn, h2, h3]
  · simp [h1, hn, h2, h3]
theorem vmay_any (v : S62) (n : Int) : ∃ t, keys_may.f v.f0 v.f1 v.f2 v.f3 n = some t ∧ (t = true → Vs v n) := by
  unfold keys_may.f Vs
  obtain ⟨t, ht, hb⟩ := in_any v.f2 1 1099511627776
  by_cases h1 : v.f1 = 3
  · rw [if_pos h1, ht]
    simp only [Option.bind_some]
    by_cases h2 : v.f0 = n
    · rw [if_pos h2]
      by_cases h3 : t = true
      · rw [if_pos h3]
        exact ⟨_, rfl, fun e => ⟨h2, .inl ⟨h1, (hb h3).1, (hb h3).2, by have := beq_iff_eq.mp e; omega⟩⟩⟩
      · rw [if_neg h3]
        exact ⟨false, rfl, fun e => by cases e⟩
    · rw [if_neg h2]
      exact ⟨false, rfl, fun e => by cases e⟩
  rw [if_neg h1]
  by_cases h4 : v.f1 = 4
  · rw [if_pos h4]
    by_cases h2 : v.f0 = n
    · rw [if_pos h2]
      by_cases h3 : v.f2 = 0
      · rw [if_pos h3]
        exact ⟨_, rfl, fun e => ⟨h2, .inr (.inl ⟨h4, h3, by have := beq_iff_eq.mp e; omega⟩)⟩⟩
      · rw [if_neg h3]
        exact ⟨false, rfl, fun e => by cases e⟩
    · rw [if_neg h2]
      exact ⟨false, rfl, fun e => by cases e⟩
  rw [if_neg h4]
  by_cases h5 : v.f1 = 1
  · rw [if_pos h5]
    by_cases h2 : v.f0 = n
    · rw [if_pos h2]
      by_cases h3 : v.f2 = 0
      · rw [if_pos h3]
        exact ⟨_, rfl, fun e => ⟨h2, .inr (.inr (.inl ⟨h5, h3, by have := beq_iff_eq.mp e; omega⟩))⟩⟩
      · rw [if_neg h3]
        exact ⟨false, rfl, fun e => by cases e⟩
    · rw [if_neg h2]
      exact ⟨false, rfl, fun e => by cases e⟩
  rw [if_neg h5]
  by_cases h6 : v.f1 = 2
  · rw [if_pos h6]
    by_cases h2 : v.f0 = n
    · rw [if_pos h2]
      by_cases h3 : v.f2 = 0
      · rw [if_pos h3]
        exact ⟨_, rfl, fun e => ⟨h2, .inr (.inr (.inr ⟨h6, h3, by have := beq_iff_eq.mp e; omega⟩))⟩⟩
      · rw [if_neg h3]
        exact ⟨false, rfl, fun e => by cases e⟩
    · rw [if_neg h2]
      exact ⟨false, rfl, fun e => by cases e⟩
  rw [if_neg h6]
  exact ⟨false, rfl, fun e => by cases e⟩
/-- What a key that may be is. -/
structure Ks (a0 a1 a2 : Int) (l : List S62) : Prop where
  h0 : 1 ≤ a0 ∧ a0 ≤ 6
  h1 : 1 ≤ a1 ∧ a1 ≤ 8
  h2 : 1 ≤ a2 ∧ a2 ≤ 3
  pos : 1 ≤ l.length
  most : l.length ≤ 5
  each : ∀ (i : Nat) (h : i < l.length), Vs l[i] ((i : Int) + 1)
theorem kmay_l0 (l : List S62) (hl : l.length ≤ 5) : ∀ (m i k : Nat), i + m = l.length → m < k → ∃ t, keys_May.l0 k l (l.length : Int) (i : Int) = some t ∧ (t = true ↔ ∀ (j : Nat) (h : j < l.length), i ≤ j → Vs l[j] ((j : Int) + 1))
  | 0, i, k + 1, hi, hk => by
    refine ⟨true, ?_, ⟨fun _ j h hij => by omega, fun _ => rfl⟩⟩
    unfold keys_May.l0
    rw [if_neg (by omega)]
  | m + 1, i, k + 1, hi, hk => by
    have hlt : i < l.length := by omega
    obtain ⟨t, ht, hb⟩ := vmay_any l[i] ((i : Int) + 1)
    have w : wrap64 ((i : Int) + 1) = ((i + 1 : Nat) : Int) := by rw [w64 (by omega) (by omega)]; omega
    have w' : wrap64 ((i : Int) + 1) = (i : Int) + 1 := by rw [w]; omega
    unfold keys_May.l0
    rw [if_pos (by omega), if_pos (by omega), if_pos (by omega), rd_el l i hlt, w', ht]
    simp only [Option.bind_some]
    cases t with
    | true =>
      obtain ⟨t', ht', hb'⟩ := kmay_l0 l hl m (i + 1) k (by omega) (by omega)
      refine ⟨t', ?_, ?_⟩
      · rw [if_pos rfl, show (i : Int) + 1 = ((i + 1 : Nat) : Int) by omega]
        exact ht'
      · rw [hb']
        constructor
        · intro h j hj hij
          rcases Nat.eq_or_lt_of_le hij with e | e
          · subst e
            exact hb rfl
          · exact h j hj e
        · intro h j hj hij
          exact h j hj (by omega)
    | false =>
      refine ⟨false, by rw [if_neg (by decide)], ⟨fun e => (by cases e), fun h => ?_⟩⟩
      have := vmay_yes l[i] _ (h i hlt (Nat.le_refl _))
      rw [ht] at this
      injection this
theorem kmay_any (k : Nat) (a0 a1 a2 : Int) (l : List S62) (hk : 10 ≤ k) : ∃ t, keys_May.f k a0 a1 a2 l = some t ∧ (t = true ↔ Ks a0 a1 a2 l) := by
  obtain ⟨k, rfl⟩ : ∃ m, k = m + 8 := ⟨k - 8, by omega⟩
  have jt : ∀ q : Nat, keys_May.j0 (q + 1) true a0 a1 a2 l = some false := fun q => by rw [keys_May.j0, if_pos rfl]
  unfold keys_May.f
  obtain ⟨t0, e0, b0⟩ := in_any a0 1 6
  obtain ⟨t1, e1, b1⟩ := in_any a1 1 8
  obtain ⟨t2, e2, b2⟩ := in_any a2 1 3
  obtain ⟨t3, e3, b3⟩ := in_any (l.length : Int) 1 5
  have n0 : t0 = false → ¬ Ks a0 a1 a2 l := fun e h => by rw [in_yes h.h0.1 h.h0.2] at e0; injection e0 with e0; rw [← e0] at e; cases e
  have n1 : t1 = false → ¬ Ks a0 a1 a2 l := fun e h => by rw [in_yes h.h1.1 h.h1.2] at e1; injection e1 with e1; rw [← e1] at e; cases e
  have n2 : t2 = false → ¬ Ks a0 a1 a2 l := fun e h => by rw [in_yes h.h2.1 h.h2.2] at e2; injection e2 with e2; rw [← e2] at e; cases e
  have n3 : t3 = false → ¬ Ks a0 a1 a2 l := fun e h => by rw [in_yes (by have := h.pos; omega) (by have := h.most; omega)] at e3; injection e3 with e3; rw [← e3] at e; cases e
  have no : ∀ {p : Prop}, ¬ p → (false = true ↔ p) := fun h => ⟨fun e => (by cases e), fun q => absurd q h⟩
  rw [e0]
  simp only [Option.bind_some]
  cases t0 with
  | false => exact ⟨false, by rw [if_neg (by decide)]; exact jt _, no (n0 rfl)⟩
  | true =>
    rw [if_pos rfl, e1]
    simp only [Option.bind_some]
    cases t1 with
    | false => exact ⟨false, by rw [if_neg (by decide)]; exact jt _, no (n1 rfl)⟩
    | true =>
      rw [if_pos rfl, e2]
      simp only [Option.bind_some]
      cases t2 with
      | false => exact ⟨false, by rw [if_neg (by decide)]; exact jt _, no (n2 rfl)⟩
      | true =>
        rw [if_pos rfl, e3]
        simp only [Option.bind_some]
        cases t3 with
        | false => exact ⟨false, jt _, no (n3 rfl)⟩
        | true =>
          have hl := b3 rfl
          obtain ⟨t, ht, hb⟩ := kmay_l0 l (by omega) l.length 0 (k + 7) (by omega) (by omega)
          refine ⟨t, ?_, ?_⟩
          · rw [keys_May.j0, if_neg (by decide)]
            exact ht
          · rw [hb]
            exact ⟨fun h => ⟨b0 rfl, b1 rfl, b2 rfl, by omega, by omega, fun i hi => h i hi (Nat.zero_le _)⟩, fun h j hj _ => h.each j hj⟩
theorem kmay_yes (k : Nat) {a0 a1 a2 : Int} {l : List S62} (h : Ks a0 a1 a2 l) (hk : 10 ≤ k) : keys_May.f k a0 a1 a2 l = some true := by
  obtain ⟨t, e, b⟩ := kmay_any k a0 a1 a2 l hk
  rw [e, b.mpr h]
theorem Vs.short {v : S62} {n : Int} (h : Vs v n) : v.f3.length ≤ 64 := by
  obtain ⟨_, h⟩ := h
  rcases h with h | h | h | h <;> omega
theorem clone_b (s : List Int) (h : s.length ≤ 64) : slices_Clone_byte_byte.f s = some s := by
  unfold slices_Clone_byte_byte.f
  simp only [Option.bind_some, List.length_nil, List.nil_append]
  rw [if_pos (by omega)]
theorem own_l0 (l : List S62) (a0 a1 a2 : Int) (hl : l.length ≤ 5) (hs : ∀ (i : Nat) (h : i < l.length), l[i].f3.length ≤ 64) : ∀ (m i k : Nat), i + m = l.length → m < k → keys_own.l0 k (l.length : Int) (i : Int) a0 a1 a2 l = some (a0, a1, a2, l)
  | 0, i, k + 1, hi, hk => by
    unfold keys_own.l0
    rw [if_neg (by omega)]
  | m + 1, i, k + 1, hi, hk => by
    have hlt : i < l.length := by omega
    unfold keys_own.l0
    rw [if_pos (by omega), if_pos (by omega), if_pos (by omega), rd_el l i hlt, clone_b _ (hs i hlt)]
    simp only [Option.bind_some]
    have e : l.set (i : Int).toNat (⟨l[i].f0, l[i].f1, l[i].f2, l[i].f3⟩ : S62) = l := by
      rw [Int.toNat_natCast]
      exact List.set_getElem_self hlt
    rw [e, show wrap64 ((i : Int) + 1) = ((i + 1 : Nat) : Int) by rw [w64 (by omega) (by omega)]; omega]
    exact own_l0 l a0 a1 a2 hl hs m (i + 1) k (by omega) (by omega)
theorem own_eq (k : Nat) {a0 a1 a2 : Int} {l : List S62} (h : Ks a0 a1 a2 l) (hk : 10 ≤ k) : keys_own.f k a0 a1 a2 l = some (a0, a1, a2, l) := by
  have hm := h.most
  unfold keys_own.f api_Version.f
  simp only [Option.bind_some, List.length_nil, List.nil_append]
  rw [if_pos (by omega)]
  simp only [Option.bind_some]
  exact own_l0 l a0 a1 a2 hm (fun i hi => (h.each i hi).short) l.length 0 k (by omega) (by omega)
theorem find_eq (k : Nat) {a0 a1 a2 : Int} {l : List S62} (h : Ks a0 a1 a2 l) (i : Nat) (hi : i < l.length) (hk : 10 ≤ k) : keys_Find.f k a0 a1 a2 l ((i : Int) + 1) = some (l[i].f0, l[i].f1, l[i].f2, l[i].f3, true) := by
  have hm := h.most
  have w : wrap64 ((i : Int) + 1 - 1) = (i : Int) := by rw [w64 (by omega) (by omega)]; omega
  unfold keys_Find.f
  refine bnd (kmay_yes k h hk) ?_
  rw [if_pos rfl]
  refine bnd (in_yes (by omega) (by omega)) ?_
  rw [if_pos rfl]
  refine bnd (own_eq k h hk) ?_
  dsimp only
  rw [w, if_pos (by omega), if_pos (by omega), rd_el l i hi]
theorem Ks.set {a0 a1 a2 : Int} {l : List S62} (h : Ks a0 a1 a2 l) (i : Nat) (v : S62) (hv : Vs v ((i : Int) + 1)) : Ks a0 a1 a2 (l.set i v) :=
  ⟨h.h0, h.h1, h.h2, by rw [List.length_set]; exact h.pos, by rw [List.length_set]; exact h.most, fun j hj => by
    rw [List.length_set] at hj
    rw [List.getElem_set]
    by_cases c : i = j
    · rw [if_pos c, ← c]; exact hv
    · rw [if_neg c]; exact h.each j hj⟩
theorem next_ok (k : Nat) (op st st' : Int) (h : (op = 5 ∧ st = 2 ∧ st' = 1) ∨ (op = 6 ∧ st = 1 ∧ st' = 2) ∨ (op = 8 ∧ st = 3 ∧ st' = 2) ∨ (op = 7 ∧ st = 1 ∧ st' = 3)) (hk : 2 ≤ k) : keys_next.f k op st = some (st', true) := by
  obtain ⟨k, rfl⟩ : ∃ m, k = m + 1 := ⟨k - 1, by omega⟩
  rcases h with ⟨rfl, rfl, rfl⟩ | ⟨rfl, rfl, rfl⟩ | ⟨rfl, rfl, rfl⟩ | ⟨rfl, rfl, rfl⟩ <;> simp [keys_next.f, keys_next.j0]
theorem set_two (l : List S62) (i : Nat) (hi : i < l.length) (st due : Int) (v : S62) :
    (l.set i (⟨v.f0, st, v.f2, v.f3⟩ : S62)).set i (⟨(rd_T62 (l.set i (⟨v.f0, st, v.f2, v.f3⟩ : S62)) (i : Int)).f0, (rd_T62 (l.set i (⟨v.f0, st, v.f2, v.f3⟩ : S62)) (i : Int)).f1, due, (rd_T62 (l.set i (⟨v.f0, st, v.f2, v.f3⟩ : S62)) (i : Int)).f3⟩ : S62) = l.set i ⟨v.f0, st, due, v.f3⟩ := by
  rw [rd_el _ i (by rw [List.length_set]; exact hi), List.getElem_set_self, List.set_set]
theorem set_ok (k : Nat) {a0 a1 a2 : Int} {l : List S62} (h : Ks a0 a1 a2 l) (i : Nat) (hi : i < l.length) (op st u c : Int) (ho : (op = 5 ∧ l[i].f1 = 2 ∧ st = 1) ∨ (op = 6 ∧ l[i].f1 = 1 ∧ st = 2) ∨ (op = 8 ∧ l[i].f1 = 3 ∧ st = 2)) (hk : 20 ≤ k) :
    keys_Set.f k a0 a1 a2 l op ((i : Int) + 1) u c = some (a0, a1, a2, l.set i ⟨l[i].f0, st, 0, l[i].f3⟩, []) := by
  have hm := h.most
  obtain ⟨k, rfl⟩ : ∃ m, k = m + 1 := ⟨k - 1, by omega⟩
  have w : wrap64 ((i : Int) + 1 - 1) = (i : Int) := by rw [w64 (by omega) (by omega)]; omega
  have hn : keys_next.f k op l[i].f1 = some (st, true) := next_ok k op _ st (by rcases ho with h | h | h <;> simp [h]) (by omega)
  have h5 : ¬ op < 5 := by omega
  have h8 : ¬ op > 8 := by omega
  have h7 : ¬ op = 7 := by omega
  unfold keys_Set.f
  refine bnd (kmay_yes (k + 1) h (by omega)) ?_
  rw [if_pos rfl, if_neg h5, decide_eq_false h8]
  rw [keys_Set.j0, if_neg (by decide)]
  refine bnd (find_eq k h i hi (by omega)) ?_
  dsimp only
  rw [if_pos rfl]
  refine bnd hn ?_
  dsimp only
  rw [if_pos rfl, if_neg h7]
  refine bnd (own_eq k h (by omega)) ?_
  dsimp only
  rw [w, if_pos (by omega), if_pos (by omega)]
  simp only [Option.bind_some, Int.toNat_natCast]
  rw [rd_el l i hi, set_two l i hi st 0 l[i]]
theorem set_doom (k : Nat) {a0 a1 a2 : Int} {l : List S62} (h : Ks a0 a1 a2 l) (i : Nat) (hi : i < l.length) (u c : Int) (ho : l[i].f1 = 1) (huc : c < u) (hu : 1 ≤ u) (hu' : u ≤ 1099511627776) (hk : 20 ≤ k) :
    keys_Set.f k a0 a1 a2 l 7 ((i : Int) + 1) u c = some (a0, a1, a2, l.set i ⟨l[i].f0, 3, u, l[i].f3⟩, []) := by
  have hm := h.most
  obtain ⟨k, rfl⟩ : ∃ m, k = m + 2 := ⟨k - 2, by omega⟩
  have w : wrap64 ((i : Int) + 1 - 1) = (i : Int) := by rw [w64 (by omega) (by omega)]; omega
  have hn : keys_next.f (k + 1) 7 l[i].f1 = some (3, true) := next_ok (k + 1) 7 _ 3 (by simp [ho]) (by omega)
  unfold keys_Set.f
  refine bnd (kmay_yes (k + 2) h (by omega)) ?_
  rw [if_pos rfl, if_neg (by decide), decide_eq_false (by decide)]
  rw [keys_Set.j0, if_neg (by decide)]
  refine bnd (find_eq (k + 1) h i hi (by omega)) ?_
  dsimp only
  rw [if_pos rfl]
  refine bnd hn ?_
  dsimp only
  rw [if_pos rfl, if_pos rfl, if_neg (by omega)]
  refine bnd (in_yes hu hu') ?_
  rw [keys_Set.j1, if_neg (by decide)]
  refine bnd (own_eq k h (by omega)) ?_
  dsimp only
  rw [w, if_pos (by omega), if_pos (by omega)]
  simp only [Option.bind_some, Int.toNat_natCast]
  rw [rd_el l i hi, set_two l i hi 3 u l[i]]
theorem set_bad (k : Nat) {a0 a1 a2 : Int} {l : List S62} (h : Ks a0 a1 a2 l) (i : Nat) (hi : i < l.length) (op u c : Int) (ho : (op = 6 ∧ l[i].f1 ≠ 1) ∨ (op = 8 ∧ l[i].f1 ≠ 3)) (hk : 20 ≤ k) :
    ∃ s, keys_Set.f k a0 a1 a2 l op ((i : Int) + 1) u c = some (0, 0, 0, [], [⟨11, s⟩]) := by
  have hm := h.most
  obtain ⟨k, rfl⟩ : ∃ m, k = m + 1 := ⟨k - 1, by omega⟩
  have hn : ∃ st, keys_next.f k op l[i].f1 = some (st, false) := by
    rcases ho with ⟨rfl, h⟩ | ⟨rfl, h⟩
    · exact ⟨0, by simp [keys_next.f, h]⟩
    · exact ⟨2, by simp [keys_next.f, h]⟩
  obtain ⟨st, hn⟩ := hn
  have h5 : ¬ op < 5 := by omega
  have h8 : ¬ op > 8 := by omega
  refine ⟨⟨#[107, 101, 121, 115]⟩, ?_⟩
  unfold keys_Set.f
  refine bnd (kmay_yes (k + 1) h (by omega)) ?_
  rw [if_pos rfl, if_neg h5, decide_eq_false h8]
  rw [keys_Set.j0, if_neg (by decide)]
  refine bnd (find_eq k h i hi (by omega)) ?_
  dsimp only
  rw [if_pos rfl]
  refine bnd hn ?_
  dsimp only
  rw [if_neg (by decide)]
  rfl
theorem same_b (s : List Int) (hs : s.length ≤ 64) : ∀ (m i k : Nat), i + m = s.length → m < k → chatelainelaw0_SameBytes.l0 k s s (i : Int) = some true
  | 0, i, k + 1, hi, hk => by
    unfold chatelainelaw0_SameBytes.l0
    rw [if_neg (by omega)]
  | m + 1, i, k + 1, hi, hk => by
    unfold chatelainelaw0_SameBytes.l0
    rw [if_pos (by omega), if_pos (by omega), if_pos (by omega), if_pos rfl, show wrap64 ((i : Int) + 1) = ((i + 1 : Nat) : Int) by rw [w64 (by omega) (by omega)]; omega]
    exact same_b s hs m (i + 1) k (by omega) (by omega)
theorem same_v (k : Nat) (v : S62) (h : v.f3.length ≤ 64) (hk : 70 ≤ k) : chatelainelaw0_SameVersion.f k v.f0 v.f1 v.f2 v.f3 v.f0 v.f1 v.f2 v.f3 = some true := by
  unfold chatelainelaw0_SameVersion.f chatelainelaw0_SameBytes.f
  rw [if_pos rfl, if_pos rfl, if_pos rfl, if_pos rfl]
  exact bnd (same_b v.f3 h v.f3.length 0 k (by omega) (by omega)) rfl
theorem same_l (a0 a1 a2 : Int) (l : List S62) (hl : l.length ≤ 5) (hs : ∀ (i : Nat) (h : i < l.length), l[i].f3.length ≤ 64) : ∀ (m i k : Nat), i + m = l.length → m + 70 < k → chatelainelaw0_SameKey.l0 k (i : Int) a0 a1 a2 l a0 a1 a2 l = some true
  | 0, i, k + 1, hi, hk => by
    unfold chatelainelaw0_SameKey.l0
    rw [if_neg (by omega)]
  | m + 1, i, k + 1, hi, hk => by
    have hlt : i < l.length := by omega
    unfold chatelainelaw0_SameKey.l0
    rw [if_pos (by omega), if_pos (by omega), if_pos (by omega), rd_el l i hlt]
    refine bnd (same_v k l[i] (hs i hlt) (by omega)) ?_
    rw [if_pos rfl, show wrap64 ((i : Int) + 1) = ((i + 1 : Nat) : Int) by rw [w64 (by omega) (by omega)]; omega]
    exact same_l a0 a1 a2 l hl hs m (i + 1) k (by omega) (by omega)
theorem same_k (k : Nat) (a0 a1 a2 : Int) (l : List S62) (hl : l.length ≤ 5) (hs : ∀ (i : Nat) (h : i < l.length), l[i].f3.length ≤ 64) (hk : 90 ≤ k) : chatelainelaw0_SameKey.f k a0 a1 a2 l a0 a1 a2 l = some true := by
  obtain ⟨k, rfl⟩ : ∃ m, k = m + 1 := ⟨k - 1, by omega⟩
  unfold chatelainelaw0_SameKey.f
  rw [if_pos rfl, if_pos rfl, if_pos rfl]
  rw [chatelainelaw0_SameKey.j0, if_neg (by simp)]
  exact same_l a0 a1 a2 l hl hs l.length 0 k (by omega) (by omega)
theorem seed_l0 (a : Int) : ∀ (m i k : Nat) (s : List Int), s.length = 64 → i + m = 64 → m < k → ∃ s', chatelainelaw17_seed.l0 k a s (i : Int) = some s' ∧ s'.length = 64
  | 0, i, k + 1, s, hs, hi, hk => by
    refine ⟨s, ?_, hs⟩
    unfold chatelainelaw17_seed.l0
    rw [if_neg (by omega)]
  | m + 1, i, k + 1, s, hs, hi, hk => by
    unfold chatelainelaw17_seed.l0
    rw [if_pos (by omega), if_pos (by omega), show wrap64 ((i : Int) + 1) = ((i + 1 : Nat) : Int) by rw [w64 (by omega) (by omega)]; omega]
    exact seed_l0 a m (i + 1) k _ (by rw [List.length_set]; exact hs) (by omega) (by omega)
theorem seed_eq (k : Nat) (a : Int) (hk : 70 ≤ k) : ∃ s, chatelainelaw17_seed.f k a = some s ∧ s.length = 64 := by
  unfold chatelainelaw17_seed.f
  rw [if_pos (by decide)]
  exact seed_l0 a 64 0 k _ (by simp) rfl (by omega)
theorem kawake (k : Nat) (hk : 100 ≤ k) : chatelainelaw17_awake.f k = some true := by
  obtain ⟨s, es, hs⟩ := seed_eq k 1 (by omega)
  have hK : Ks 1 1 1 [(⟨1, 1, 0, s⟩ : S62)] := ⟨by decide, by decide, by decide, by simp, by simp, fun i hi => by
    have : i = 0 := by simp at hi; omega
    subst this
    exact ⟨rfl, .inr (.inr (.inl ⟨rfl, rfl, hs⟩))⟩⟩
  have hN : ¬ Ks 0 0 0 [] := fun h => by have := h.pos; simp at this
  have hnew : keys_New.f k 1 1 1 s = some (1, 1, 1, [⟨1, 1, 0, s⟩], []) := by
    unfold keys_New.f keys_fresh.f
    rw [clone_b s (by omega)]
    simp only [Option.bind_some]
    rw [kmay_yes k hK (by omega)]
    simp
  obtain ⟨q, hset⟩ := set_bad k hK 0 (by simp) 8 0 0 (.inr ⟨rfl, by simp⟩) (by omega)
  have hcur : keys_Current.f k 1 1 1 [(⟨1, 1, 0, s⟩ : S62)] = some (1, 1, 0, s, true) := by
    obtain ⟨k, rfl⟩ : ∃ m, k = m + 1 := ⟨k - 1, by omega⟩
    unfold keys_Current.f keys_Current.l0
    refine ifp (by simp) (bnd (find_eq k hK 0 (by simp) (by omega)) ?_)
    rfl
  obtain ⟨t, et, bt⟩ := kmay_any k 0 0 0 [] (by omega)
  have ht : t = false := by
    cases t with
    | false => rfl
    | true => exact absurd (bt.mp rfl) hN
  unfold chatelainelaw17_awake.f
  refine bnd es (bnd hnew (bnd hset (bnd hcur ?_)))
  refine ifp rfl (ifp (by simp) (bnd (x := (11 : Int)) (by simp [chatelainelaw0_Num.f]) (ifp rfl (ifp rfl (ifp rfl (bnd (kmay_yes k hK (by omega)) (ifp rfl (bnd et ?_))))))))
  rw [ht]
  rfl
theorem great_any (a0 a1 a2 : Int) (l : List S62) : ∃ k t, chatelainelaw0_GreatKey.f k a0 a1 a2 l = some t ∧ ∀ k', k ≤ k' → chatelainelaw0_GreatKey.f k' a0 a1 a2 l = some t := by
  suffices z : ∀ (m i : Nat), i + m = 9 → ∃ t, ∀ k, 2 * m + 2 ≤ k → chatelainelaw0_GreatKey.l0 k (i : Int) a0 a1 a2 l = some t by
    obtain ⟨t, ht⟩ := z 9 0 rfl
    exact ⟨20, t, ht 20 (by omega), fun k' hk' => ht k' (by omega)⟩
  intro m
  induction m with
  | zero =>
    intro i hi
    refine ⟨decide ((l.length : Int) > 8), fun k hk => ?_⟩
    obtain ⟨k, rfl⟩ : ∃ q, k = q + 2 := ⟨k - 2, by omega⟩
    unfold chatelainelaw0_GreatKey.l0
    by_cases c : (i : Int) < (l.length : Int)
    · rw [if_pos c, decide_eq_false (by omega)]
      rw [chatelainelaw0_GreatKey.j1, if_neg (by decide)]
    · rw [if_neg c]
      rw [chatelainelaw0_GreatKey.j1, if_neg (by decide)]
  | succ m ih =>
    intro i hi
    by_cases c : (i : Int) < (l.length : Int)
    · by_cases c8 : (l.length : Int) ≤ 8
      · by_cases cs : ((rd_T62 l (i : Int)).f3.length : Int) > 100
        · refine ⟨true, fun k hk => ?_⟩
          obtain ⟨k, rfl⟩ : ∃ q, k = q + 2 := ⟨k - 2, by omega⟩
          unfold chatelainelaw0_GreatKey.l0
          rw [if_pos c, decide_eq_true c8]
          rw [chatelainelaw0_GreatKey.j1, if_pos rfl, if_pos (by omega), if_pos c, if_pos cs]
        · obtain ⟨t, ht⟩ := ih (i + 1) (by omega)
          refine ⟨t, fun k hk => ?_⟩
          obtain ⟨k, rfl⟩ : ∃ q, k = q + 2 := ⟨k - 2, by omega⟩
          unfold chatelainelaw0_GreatKey.l0
          rw [if_pos c, decide_eq_true c8]
          rw [chatelainelaw0_GreatKey.j1, if_pos rfl, if_pos (by omega), if_pos c, if_neg cs, show wrap64 ((i : Int) + 1) = ((i + 1 : Nat) : Int) by rw [w64 (by omega) (by omega)]; omega]
          exact ht k (by omega)
      · refine ⟨decide ((l.length : Int) > 8), fun k hk => ?_⟩
        obtain ⟨k, rfl⟩ : ∃ q, k = q + 2 := ⟨k - 2, by omega⟩
        unfold chatelainelaw0_GreatKey.l0
        rw [if_pos c, decide_eq_false c8]
        rw [chatelainelaw0_GreatKey.j1, if_neg (by decide)]
    · refine ⟨decide ((l.length : Int) > 8), fun k hk => ?_⟩
      obtain ⟨k, rfl⟩ : ∃ q, k = q + 2 := ⟨k - 2, by omega⟩
      unfold chatelainelaw0_GreatKey.l0
      rw [if_neg c]
      rw [chatelainelaw0_GreatKey.j1, if_neg (by decide)]
theorem circle (k : Nat) {a0 a1 a2 : Int} {l : List S62} (h : Ks a0 a1 a2 l) (b1 b2 b3 : Int) (hk : 120 ≤ k) : chatelainelaw17_KeysCircle.j0 (k + 1) b1 b2 b3 false a0 a1 a2 l = some true := by
  have hp := h.pos
  have hm := h.most
  have hs : ∀ (i : Nat) (h' : i < l.length), l[i].f3.length ≤ 64 := fun i h' => (h.each i h').short
  obtain ⟨ver, ev, v0, v1⟩ := klow b1 (l.length : Int) (by omega) (by omega)
  obtain ⟨i, rfl⟩ := Int.eq_ofNat_of_zero_le v0
  have hi : i < l.length := by omega
  obtain ⟨un, eu, u0, u1⟩ := klow b2 1000 (by decide) (by decide)
  have wu : wrap64 (2 + un) = 2 + un := w64 (by omega) (by omega)
  obtain ⟨cl, ec, c0, c1⟩ := klow b3 (2 + un) (by omega) (by omega)
  have wi : wrap64 (1 + (i : Int)) = (i : Int) + 1 := by rw [w64 (by omega) (by omega)]; omega
  have hV := h.each i hi
  rw [chatelainelaw17_KeysCircle.j0, if_neg (by decide)]
  refine bnd ev (bnd eu ?_)
  rw [wu, wi]
  refine bnd ec (bnd (find_eq k h i hi (by omega)) ?_)
  dsimp only
  rw [if_pos rfl]
  by_cases c : l[i].f1 = 1
  · have v2 : l[i].f2 = 0 ∧ l[i].f3.length = 64 := by
      obtain ⟨_, hV⟩ := hV
      rcases hV with h' | h' | h' | h'
      · omega
      · omega
      · exact ⟨h'.2.1, h'.2.2⟩
      · omega
    have hA : Ks a0 a1 a2 (l.set i ⟨l[i].f0, 2, 0, l[i].f3⟩) := h.set i _ ⟨hV.1, .inr (.inr (.inr ⟨rfl, rfl, v2.2⟩))⟩
    have hC : Ks a0 a1 a2 (l.set i ⟨l[i].f0, 3, 2 + un, l[i].f3⟩) := h.set i _ ⟨hV.1, .inl ⟨rfl, by show 1 ≤ 2 + un; omega, by show 2 + un ≤ 1099511627776; omega, v2.2⟩⟩
    have lA : i < (l.set i (⟨l[i].f0, 2, 0, l[i].f3⟩ : S62)).length := by rw [List.length_set]; exact hi
    have lC : i < (l.set i (⟨l[i].f0, 3, 2 + un, l[i].f3⟩ : S62)).length := by rw [List.length_set]; exact hi
    have gA : (l.set i (⟨l[i].f0, 2, 0, l[i].f3⟩ : S62))[i] = ⟨l[i].f0, 2, 0, l[i].f3⟩ := List.getElem_set_self _
    have gC : (l.set i (⟨l[i].f0, 3, 2 + un, l[i].f3⟩ : S62))[i] = ⟨l[i].f0, 3, 2 + un, l[i].f3⟩ := List.getElem_set_self _
    have back : l.set i (⟨l[i].f0, 1, 0, l[i].f3⟩ : S62) = l := by
      have e : (⟨l[i].f0, 1, 0, l[i].f3⟩ : S62) = l[i] := by
        rw [← c, ← v2.1]
      rw [e]
      exact List.set_getElem_self hi
    have sA := set_ok k h i hi 6 2 0 0 (.inr (.inl ⟨rfl, c, rfl⟩)) (by omega)
    have sB := set_ok k hA i lA 5 1 0 0 (.inl ⟨rfl, by rw [gA], rfl⟩) (by omega)
    rw [gA, List.set_set, back] at sB
    have sC := set_doom k h i hi (2 + un) cl c (by omega) (by omega) (by omega) (by omega)
    have sD := set_ok k hC i lC 8 2 0 0 (.inr (.inr ⟨rfl, by rw [gC], rfl⟩)) (by omega)
    rw [gC, List.set_set] at sD
    have fC := find_eq k hC i lC (by omega)
    rw [gC] at fC
    refine bnd sA ?_
    dsimp only
    rw [if_pos c]
    refine bnd sB (bnd sC ?_)
    dsimp only
    refine bnd sD ?_
    dsimp only
    refine bnd sB (bnd fC ?_)
    dsimp only
    refine ifp rfl (ifp rfl (ifp rfl (ifp rfl (ifp rfl (ifp rfl (ifp rfl (ifp rfl ?_)))))))
    refine bnd (same_k k a0 a1 a2 l hm hs (by omega)) ?_
    rw [if_pos rfl]
    refine bnd (same_k k a0 a1 a2 l hm hs (by omega)) ?_
    rw [if_pos rfl]
    refine bnd (same_k k a0 a1 a2 _ hA.most (fun j hj => (hA.each j hj).short) (by omega)) ?_
    rw [if_pos rfl]
    exact bnd (kawake k (by omega)) rfl
  · obtain ⟨s, sA⟩ := set_bad k h i hi 6 0 0 (.inl ⟨rfl, c⟩) (by omega)
    refine bnd sA ?_
    dsimp only
    rw [if_neg c]
    refine bnd (x := (11 : Int)) (by simp [chatelainelaw0_Num.f]) ?_
    rw [if_pos rfl]
    refine bnd (same_k k 0 0 0 [] (by simp) (fun i h => by simp at h) (by omega)) ?_
    rw [if_pos rfl]
    exact bnd (kawake k (by omega)) rfl
theorem KeysCircle : chatelainelaw17_KeysCircle.Pure := by
  intro a0 a1 a2 l b1 b2 b3 _ _ _ _ _ _ _
  obtain ⟨kg, t, _, hg⟩ := great_any a0 a1 a2 l
  refine ⟨kg + 200, ?_⟩
  unfold chatelainelaw17_KeysCircle.f
  refine bnd (hg (kg + 200) (by omega)) ?_
  have jt : chatelainelaw17_KeysCircle.j0 (kg + 200) b1 b2 b3 true a0 a1 a2 l = some true := by
    rw [chatelainelaw17_KeysCircle.j0, if_pos rfl]
    exact bnd (kawake _ (by omega)) rfl
  cases t with
  | true => rw [if_pos rfl]; exact jt
  | false =>
    rw [if_neg (by decide)]
    obtain ⟨m, em, bm⟩ := kmay_any (kg + 200) a0 a1 a2 l (by omega)
    refine bnd em ?_
    cases m with
    | false => rw [if_neg (by decide)]; exact jt
    | true =>
      have hK := bm.mp rfl
      rw [if_pos rfl, show ((l.length : Int) == 0) = false by have := hK.pos; rw [beq_eq_false_iff_ne]; omega]
      exact circle (kg + 199) hK b1 b2 b3 (by omega)

end Go.Proofs.YthliabidnboklaaDoor.Pure
