import Derived.Test.YtggiddekbocokaaDoorPLPx0
import Derived.Test.YtggiddekbocokaaDoorPLPx4
import Derived.Test.YtggiddekbocokaaDoorPLPx16
import Derived.Test.YtggiddekbocokaaDoorPLPx18
namespace Go.Proofs.YtggiddekbocokaaDoor.PLP
open Go.RowKit Go.Proofs.YtggiddekbocokaaDoorW.PrintWords Go.Proofs.YtggiddekbocokaaDoorW.PrintLast Go.Proofs.YtggiddekbocokaaDoorW.PrintMore
attribute [local go_sem] max2_int min2_int max_two min_two max_three min_three max_four min_four
set_option linter.unusedVariables false
set_option linter.unusedSimpArgs false
-- U1: hints, plainly (no program): places, ends, their bytes; what reads them
/-- The places of a poly's ones; i: the first number's. -/
def plc : List Int → Nat → List Int
  | [], _ => []
  | x :: r, i => if x = 1 then (i : Int) :: plc r (i + 1) else plc r (i + 1)
def setB (f : List Int) (x : Int) : List Int := f.set x.toNat 1
def zer : List Int := List.replicate 256 0
/-- A poly of zeros and ones. -/
def P01 (f : List Int) : Prop := f.length = 256 ∧ ∀ x ∈ f, x = 0 ∨ x = 1
/-- Bytes that rise. -/
def Ris (l : List Int) : Prop := l.Pairwise (· < ·) ∧ ∀ x ∈ l, 0 ≤ x ∧ x < 256
theorem plc_mem : ∀ (f : List Int) (i : Nat) (x : Int), x ∈ plc f i ↔ ∃ j : Nat, x = ((i + j : Nat) : Int) ∧ f[j]? = some 1
  | [], i, x => by simp [plc]
  | y :: r, i, x => by
    have ih := plc_mem r (i + 1) x
    have step : (∃ j : Nat, x = ((i + j : Nat) : Int) ∧ (y :: r)[j]? = some 1) ↔ (x = (i : Int) ∧ y = 1) ∨ ∃ j : Nat, x = ((i + 1 + j : Nat) : Int) ∧ r[j]? = some 1 := by
      constructor
      · rintro ⟨j, h1, h2⟩
        cases j with
        | zero => exact .inl ⟨by simpa using h1, by simpa using h2⟩
        | succ j => exact .inr ⟨j, by rw [h1]; congr 1; omega, by simpa using h2⟩
      · rintro (⟨h1, h2⟩ | ⟨j, h1, h2⟩)
        · exact ⟨0, by simpa using h1, by simp [h2]⟩
        · exact ⟨j + 1, by rw [h1]; congr 1; omega, by simpa using h2⟩
    rw [step, ← ih, plc]
    by_cases c : y = 1
    · rw [if_pos c, List.mem_cons]
      simp [c]
    · rw [if_neg c]
      simp [c]
theorem plc_rng : ∀ (f : List Int) (i : Nat), (plc f i).Pairwise (· < ·) ∧ ∀ x ∈ plc f i, (i : Int) ≤ x ∧ x < ((i + f.length : Nat) : Int)
  | [], i => ⟨by simp [plc], fun x hx => by simp [plc] at hx⟩
  | y :: r, i => by
    obtain ⟨h1, h2⟩ := plc_rng r (i + 1)
    have h2' : ∀ x ∈ plc r (i + 1), (i : Int) < x ∧ x < ((i + (y :: r).length : Nat) : Int) := fun x hx => by
      have := h2 x hx
      rw [List.length_cons]
      omega
    rw [plc]
    by_cases c : y = 1
    · rw [if_pos c]
      refine ⟨List.pairwise_cons.mpr ⟨fun x hx => (h2' x hx).1, h1⟩, fun x hx => ?_⟩
      rcases List.mem_cons.mp hx with e | e
      · subst e
        rw [List.length_cons]
        omega
      · have := h2' x e
        omega
    · rw [if_neg c]
      exact ⟨h1, fun x hx => by have := h2' x hx; omega⟩
theorem plc_ris (f : List Int) (h : f.length ≤ 256) : Ris (plc f 0) := by
  obtain ⟨h1, h2⟩ := plc_rng f 0
  exact ⟨h1, fun x hx => by have := h2 x hx; omega⟩
theorem plc_len : ∀ (f : List Int) (i : Nat), (plc f i).length ≤ f.length
  | [], i => by simp [plc]
  | y :: r, i => by
    have := plc_len r (i + 1)
    rw [plc]
    by_cases c : y = 1
    · rw [if_pos c, List.length_cons, List.length_cons]; omega
    · rw [if_neg c, List.length_cons]; omega
theorem ris_ext : ∀ (a b : List Int), a.Pairwise (· < ·) → b.Pairwise (· < ·) → (∀ x, x ∈ a ↔ x ∈ b) → a = b
  | [], [], _, _, _ => rfl
  | [], y :: s, _, _, h => absurd ((h y).mpr (by simp)) (by simp)
  | x :: r, [], _, _, h => absurd ((h x).mp (by simp)) (by simp)
  | x :: r, y :: s, ha, hb, h => by
    obtain ⟨a1, a2⟩ := List.pairwise_cons.mp ha
    obtain ⟨b1, b2⟩ := List.pairwise_cons.mp hb
    have e : x = y := by
      rcases List.mem_cons.mp ((h x).mp (by simp)) with e | e
      · exact e
      · rcases List.mem_cons.mp ((h y).mpr (by simp)) with e2 | e2
        · exact e2.symm
        · have := b1 x e
          have := a1 y e2
          omega
    subst e
    rw [ris_ext r s a2 b2 (fun z => ?_)]
    have := h z
    rw [List.mem_cons, List.mem_cons] at this
    constructor
    · intro hz
      rcases this.mp (.inr hz) with e | e
      · have := a1 z hz; omega
      · exact e
    · intro hz
      rcases this.mpr (.inr hz) with e | e
      · have := b1 z hz; omega
      · exact e
theorem fold_len : ∀ (bs f : List Int), (bs.foldl setB f).length = f.length
  | [], f => rfl
  | x :: r, f => by rw [List.foldl_cons, fold_len r]; exact List.length_set
theorem fold_get : ∀ (bs f : List Int), (∀ x ∈ bs, 0 ≤ x) → ∀ j : Nat, (bs.foldl setB f)[j]? = some 1 ↔ ((j : Int) ∈ bs ∧ j < f.length) ∨ f[j]? = some 1
  | [], f, _, j => by simp
  | x :: r, f, h, j => by
    rw [List.foldl_cons, fold_get r _ (fun y hy => h y (by simp [hy])) j]
    have hx := h x (by simp)
    unfold setB
    rw [List.length_set, List.getElem?_set, List.mem_cons]
    by_cases e : x.toNat = j
    · have e' : (j : Int) = x := by omega
      rw [if_pos e]
      by_cases c : x.toNat < f.length
      · rw [if_pos c]
        constructor
        · intro _; exact .inl ⟨.inl e', by omega⟩
        · intro _; exact .inr rfl
      · rw [if_neg c]
        have : f[j]? = none := List.getElem?_eq_none (by omega)
        rw [this]
        constructor
        · rintro (⟨_, h2⟩ | h2)
          · omega
          · simp at h2
        · rintro (⟨_, h2⟩ | h2)
          · omega
          · simp at h2
    · rw [if_neg e]
      have e' : ¬ (j : Int) = x := by omega
      constructor
      · rintro (⟨h1, h2⟩ | h2)
        · exact .inl ⟨.inr h1, h2⟩
        · exact .inr h2
      · rintro (⟨h1, h2⟩ | h2)
        · rcases h1 with h1 | h1
          · exact absurd h1 e'
          · exact .inl ⟨h1, h2⟩
        · exact .inr h2
theorem fold_01 : ∀ (bs f : List Int), (∀ x ∈ f, x = 0 ∨ x = 1) → ∀ x ∈ bs.foldl setB f, x = 0 ∨ x = 1
  | [], f, h => h
  | y :: r, f, h => by
    rw [List.foldl_cons]
    refine fold_01 r _ (fun x hx => ?_)
    rcases List.mem_or_eq_of_mem_set hx with e | e
    · exact h x e
    · exact .inr e
theorem zer_01 : P01 zer := ⟨List.length_replicate, fun x hx => .inl (List.eq_of_mem_replicate hx)⟩
theorem zer_get (j : Nat) : ¬ zer[j]? = some 1 := by
  unfold zer
  intro h
  rw [List.getElem?_replicate] at h
  split at h <;> simp at h
theorem row_01 (bs : List Int) : P01 (bs.foldl setB zer) := ⟨(fold_len bs zer).trans zer_01.1, fold_01 bs zer zer_01.2⟩
theorem plc_row (bs : List Int) (h : Ris bs) : plc (bs.foldl setB zer) 0 = bs := by
  refine ris_ext _ _ (plc_rng _ 0).1 h.1 (fun x => ?_)
  rw [plc_mem]
  constructor
  · rintro ⟨j, rfl, h2⟩
    rcases (fold_get bs zer (fun y hy => (h.2 y hy).1) j).mp h2 with h3 | h3
    · rw [Nat.zero_add]; exact h3.1
    · exact absurd h3 (zer_get j)
  · intro hx
    have := h.2 x hx
    obtain ⟨j, rfl⟩ := Int.eq_ofNat_of_zero_le this.1
    refine ⟨j, by rw [Nat.zero_add], (fold_get bs zer (fun y hy => (h.2 y hy).1) j).mpr (.inl ⟨hx, ?_⟩)⟩
    rw [zer_01.1]
    omega
theorem row_plc (f : List Int) (h : P01 f) : (plc f 0).foldl setB zer = f := by
  have hr := row_01 (plc f 0)
  refine List.ext_getElem (hr.1.trans h.1.symm) (fun j h1 h2 => ?_)
  have g1 := fold_get (plc f 0) zer (fun y hy => ((plc_ris f (by rw [h.1]; omega)).2 y hy).1) j
  rw [List.getElem?_eq_getElem h1] at g1
  have g2 : (((j : Int) ∈ plc f 0 ∧ j < zer.length) ∨ zer[j]? = some 1) ↔ f[j]? = some 1 := by
    rw [plc_mem]
    constructor
    · rintro (⟨⟨i, h3, h4⟩, _⟩ | h3)
      · have : i = j := by omega
        rw [← this]; exact h4
      · exact absurd h3 (zer_get j)
    · intro h3
      exact .inl ⟨⟨j, by rw [Nat.zero_add], h3⟩, by rw [zer_01.1, ← h.1]; exact h2⟩
  rw [g2, List.getElem?_eq_getElem h2] at g1
  rcases hr.2 _ (List.getElem_mem h1) with e1 | e1 <;> rcases h.2 _ (List.getElem_mem h2) with e2 | e2
  · rw [e1, e2]
  · rw [e1, e2] at g1; simp at g1
  · rw [e1, e2] at g1; simp at g1
  · rw [e1, e2]
/-- One poly's bytes are read: each one is above the one before. -/
def uhl : Option Int → List Int → List Int → Option (List Int)
  | _, [], f => some f
  | pv, x :: r, f => if ∃ p, pv = some p ∧ x ≤ p then none else uhl (some x) r (setB f x)
theorem uhl_iff : ∀ (seg : List Int) (pv : Option Int) (f f' : List Int), uhl pv seg f = some f' ↔ (pv.toList ++ seg).Pairwise (· < ·) ∧ f' = seg.foldl setB f
  | [], pv, f, f' => by
    cases pv <;> simp [uhl, eq_comm]
  | x :: r, pv, f, f' => by
    have ih := uhl_iff r (some x) (setB f x) f'
    rw [uhl, List.foldl_cons]
    cases pv with
    | none =>
      rw [if_neg (by rintro ⟨p, h, _⟩; cases h), ih]
      rfl
    | some p =>
      by_cases c : x ≤ p
      · rw [if_pos ⟨p, rfl, c⟩]
        constructor
        · intro h; cases h
        · rintro ⟨h, _⟩
          have h : (p :: x :: r).Pairwise (· < ·) := h
          have := (List.pairwise_cons.mp h).1 x (by simp)
          omega
      · rw [if_neg (by rintro ⟨q, h, h2⟩; cases h; exact c h2), ih]
        show (x :: r).Pairwise (· < ·) ∧ _ ↔ (p :: x :: r).Pairwise (· < ·) ∧ _
        rw [List.pairwise_cons (a := p)]
        constructor
        · rintro ⟨h1, h2⟩
          refine ⟨⟨fun y hy => ?_, h1⟩, h2⟩
          rcases List.mem_cons.mp hy with e | e
          · omega
          · have := (List.pairwise_cons.mp h1).1 y e
            omega
        · rintro ⟨h1, h2⟩
          exact ⟨h1.2, h2⟩
/-- All polys; xs: the ends; a: where the next one's bytes begin. -/
def uhs (om : Nat) (b : List Int) : List Int → Nat → Option (Nat × List (List Int))
  | [], a => some (a, [])
  | x :: r, a => if (om : Int) < x ∨ x < (a : Int) then none else (uhl none ((b.drop a).take (x.toNat - a)) zer).bind fun f => (uhs om b r x.toNat).map fun t => (t.1, f :: t.2)
/-- What bytes are read as. -/
def uh (om : Nat) (b : List Int) : Option (List (List Int)) := (uhs om b (b.drop om) 0).bind fun t => if ((b.take om).drop t.1).any (fun x => x != 0) then none else some t.2
/-- How many places there are up to each poly's end. -/
def ends : List (List Int) → Nat → List Int
  | [], _ => []
  | f :: r, n => ((n + (plc f 0).length : Nat) : Int) :: ends r (n + (plc f 0).length)
def plcs (h : List (List Int)) : List Int := h.flatMap fun f => plc f 0
/-- Hints' bytes. -/
def hb (om : Nat) (h : List (List Int)) : List Int := plcs h ++ List.replicate (om - (plcs h).length) 0 ++ ends h 0
theorem ends_len : ∀ (h : List (List Int)) (n : Nat), (ends h n).length = h.length
  | [], _ => rfl
  | f :: r, n => by rw [ends, List.length_cons, ends_len r, List.length_cons]
theorem ends_le : ∀ (h : List (List Int)) (n : Nat), ∀ x ∈ ends h n, 0 ≤ x ∧ x ≤ ((n + (plcs h).length : Nat) : Int)
  | [], _, x, hx => by simp [ends] at hx
  | f :: r, n, x, hx => by
    have e : plcs (f :: r) = plc f 0 ++ plcs r := rfl
    rw [e, List.length_append]
    rw [ends] at hx
    rcases List.mem_cons.mp hx with h | h
    · omega
    · have := ends_le r _ x h
      omega
theorem hb_len (om : Nat) (h : List (List Int)) (hn : (plcs h).length ≤ om) : (hb om h).length = om + h.length := by
  unfold hb
  rw [List.length_append, List.length_append, List.length_replicate, ends_len]
  omega
theorem plcs_B (h : List (List Int)) (hp : ∀ f ∈ h, f.length ≤ 256) : ∀ x ∈ plcs h, 0 ≤ x ∧ x < 256 := by
  intro x hx
  obtain ⟨f, hf, hx⟩ := List.mem_flatMap.mp hx
  exact (plc_ris f (hp f hf)).2 x hx
theorem hb_B (om : Nat) (h : List (List Int)) (hp : ∀ f ∈ h, f.length ≤ 256) (hn : (plcs h).length < 256) : ∀ x ∈ hb om h, 0 ≤ x ∧ x < 256 := by
  intro x hx
  unfold hb at hx
  rcases List.mem_append.mp hx with h1 | h1
  · rcases List.mem_append.mp h1 with h2 | h2
    · exact plcs_B h hp x h2
    · rw [List.eq_of_mem_replicate h2]; decide
  · have := ends_le h 0 x h1
    omega
theorem uhs_of (om : Nat) (b : List Int) : ∀ (h : List (List Int)) (a : Nat), (∀ f ∈ h, P01 f) → (b.drop a).take (plcs h).length = plcs h → a + (plcs h).length ≤ om → uhs om b (ends h a) a = some (a + (plcs h).length, h)
  | [], a, _, _, _ => rfl
  | f :: r, a, hp, hs, hm => by
    have e : plcs (f :: r) = plc f 0 ++ plcs r := rfl
    rw [e, List.length_append] at hs hm
    have s1 : (b.drop a).take (plc f 0).length = plc f 0 := by
      have := congrArg (List.take (plc f 0).length) hs
      rw [List.take_take, Nat.min_eq_left (by omega), List.take_append_of_le_length (by omega), List.take_length] at this
      exact this
    have s2 : (b.drop (a + (plc f 0).length)).take (plcs r).length = plcs r := by
      have := congrArg (List.drop (plc f 0).length) hs
      rw [List.drop_take, List.drop_drop, List.drop_append_of_le_length (by omega), List.drop_length, List.nil_append, show (plc f 0).length + (plcs r).length - (plc f 0).length = (plcs r).length by omega] at this
      exact this
    have hf := hp f (by simp)
    have hu : uhl none (plc f 0) zer = some f := (uhl_iff _ _ _ _).mpr ⟨(plc_rng f 0).1, (row_plc f hf).symm⟩
    rw [ends, uhs, if_neg (by omega), Int.toNat_natCast, show a + (plc f 0).length - a = (plc f 0).length by omega, s1, hu, Option.bind_some, uhs_of om b r _ (fun g hg => hp g (by simp [hg])) s2 (by omega), e, List.length_append]
    simp only [Option.map_some, Option.some.injEq, Prod.mk.injEq, and_true]
    omega
/-- What was laid is read again. -/
theorem uh_hb (om : Nat) (h : List (List Int)) (hp : ∀ f ∈ h, P01 f) (hn : (plcs h).length ≤ om) : uh om (hb om h) = some h := by
  have hl : (plcs h ++ List.replicate (om - (plcs h).length) 0).length = om := by rw [List.length_append, List.length_replicate]; omega
  have h1 : (hb om h).drop om = ends h 0 := by
    unfold hb
    rw [List.drop_append_of_le_length (by omega), List.drop_of_length_le (by omega), List.nil_append]
  have h2 : (hb om h).take om = plcs h ++ List.replicate (om - (plcs h).length) 0 := by
    unfold hb
    rw [List.take_append_of_le_length (by omega), List.take_of_length_le (by omega)]
  have h3 : ((hb om h).drop 0).take (plcs h).length = plcs h := by
    unfold hb
    rw [List.drop_zero, List.append_assoc, List.take_append_of_le_length (by omega), List.take_length]
  unfold uh
  rw [h1, uhs_of om (hb om h) h 0 hp h3 (by omega), Option.bind_some, h2, Nat.zero_add, List.drop_append_of_le_length (by omega), List.drop_length, List.nil_append]
  have : (List.replicate (om - (plcs h).length) (0 : Int)).any (fun x => x != 0) = false := by
    rw [List.any_eq_false]
    intro x hx
    rw [List.eq_of_mem_replicate hx]
    decide
  rw [this]
  rfl
theorem uhs_inv (om : Nat) (b : List Int) (hB : ∀ x ∈ b, 0 ≤ x ∧ x < 256) (hl : om ≤ b.length) : ∀ (xs : List Int) (a e : Nat) (g : List (List Int)), a ≤ om → uhs om b xs a = some (e, g) →
    (∀ f ∈ g, P01 f) ∧ g.length = xs.length ∧ e = a + (plcs g).length ∧ e ≤ om ∧ plcs g = (b.drop a).take (plcs g).length ∧ ends g a = xs
  | [], a, e, g, ha, h => by
    cases h
    exact ⟨fun f hf => by simp at hf, rfl, rfl, ha, rfl, rfl⟩
  | x :: r, a, e, g, ha, h => by
    rw [uhs] at h
    by_cases c : (om : Int) < x ∨ x < (a : Int)
    · rw [if_pos c] at h; cases h
    · rw [if_neg c] at h
      obtain ⟨f, hf, h⟩ := Option.bind_eq_some_iff.mp h
      obtain ⟨⟨e2, g2⟩, h2, h⟩ := Option.map_eq_some_iff.mp h
      cases h
      obtain ⟨n, rfl⟩ := Int.eq_ofNat_of_zero_le (show 0 ≤ x by omega)
      rw [Int.toNat_natCast] at hf h2
      obtain ⟨i1, i2, i3, i4, i5, i6⟩ := uhs_inv om b hB hl r n e2 g2 (by omega) h2
      obtain ⟨f1, f2⟩ := (uhl_iff _ _ _ _).mp hf
      have hsl : ((b.drop a).take (n - a)).length = n - a := by rw [List.length_take, List.length_drop]; omega
      have hR : Ris ((b.drop a).take (n - a)) := ⟨f1, fun x hx => hB x (List.mem_of_mem_drop (List.mem_of_mem_take hx))⟩
      have hpf : plc f 0 = (b.drop a).take (n - a) := by rw [f2]; exact plc_row _ hR
      have hpl : (plc f 0).length = n - a := by rw [hpf]; exact hsl
      have hcons : plcs (f :: g2) = plc f 0 ++ plcs g2 := rfl
      refine ⟨fun z hz => ?_, by rw [List.length_cons, List.length_cons, i2], ?_, i4, ?_, ?_⟩
      · rcases List.mem_cons.mp hz with q | q
        · rw [q, f2]; exact row_01 _
        · exact i1 z q
      · rw [hcons, List.length_append]; omega
      · rw [hcons, List.length_append, hpl, List.take_add, ← hpf, List.drop_drop, show a + (n - a) = n by omega]
        congr 1
      · rw [ends, hpl, show a + (n - a) = n by omega, i6]
/-- What is read has just these bytes. -/
theorem hb_uh (om K : Nat) (b : List Int) (hB : ∀ x ∈ b, 0 ≤ x ∧ x < 256) (hl : b.length = om + K) (g : List (List Int)) (h : uh om b = some g) : (∀ f ∈ g, P01 f) ∧ g.length = K ∧ (plcs g).length ≤ om ∧ hb om g = b := by
  unfold uh at h
  obtain ⟨⟨e, g2⟩, h1, h⟩ := Option.bind_eq_some_iff.mp h
  by_cases c : ((b.take om).drop e).any (fun x => x != 0) = true
  · rw [if_pos c] at h; cases h
  · rw [if_neg c] at h
    cases h
    obtain ⟨i1, i2, i3, i4, i5, i6⟩ := uhs_inv om b hB (by omega) _ 0 e g2 (by omega) h1
    rw [Nat.zero_add] at i3
    show (∀ f ∈ g2, P01 f) ∧ g2.length = K ∧ (plcs g2).length ≤ om ∧ hb om g2 = b
    refine ⟨i1, by rw [i2, List.length_drop]; omega, by omega, ?_⟩
    have hz : (b.take om).drop e = List.replicate (om - e) 0 := by
      refine List.eq_replicate_iff.mpr ⟨by rw [List.length_drop, List.length_take]; omega, fun x hx => ?_⟩
      have := List.any_eq_false.mp (Bool.eq_false_iff.mpr c) x hx
      simpa using this
    unfold hb
    rw [i6, ← i3, ← hz, i5, ← i3, List.drop_zero]
    have h4 : b.take e = (b.take om).take e := by rw [List.take_take, Nat.min_eq_left i4]
    rw [h4, List.take_append_drop, List.take_append_drop]

end Go.Proofs.YtggiddekbocokaaDoor.PLP
