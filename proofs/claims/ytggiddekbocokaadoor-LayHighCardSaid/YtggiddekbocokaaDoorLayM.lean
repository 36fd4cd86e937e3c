-- lay.High, plainly
import Derived.Test.YtggiddekbocokaaDoorPLHx1
import Derived.Test.YtggiddekbocokaaDoorPLHx13
import Derived.Test.YtggiddekbocokaaDoorPLHx14
import Derived.Test.YtggiddekbocokaaDoorPLHx15
import Derived.Test.YtggiddekbocokaaDoorPLHx2
import Derived.Test.YtggiddekbocokaaDoorPLHx6
import Derived.Test.YtggiddekbocokaaDoorPackH
namespace Go.Proofs.YtggiddekbocokaaDoor.LayM
open Go.RowKit Go.Proofs.YtggiddekbocokaaDoor.PLH Go.Proofs.YtggiddekbocokaaDoor.PackH Go.Proofs.YtggiddekbocokaaDoorW.PrintWords Go.Proofs.YtggiddekbocokaaDoorW.PrintLast Go.Proofs.YtggiddekbocokaaDoorW.PrintMore

theorem awake_yes : chatelainelaw11_awake.f 100000 = some true := by decide +kernel
/-- A poly's bytes. -/
def pk (d : Nat) (f : List Int) : List Int := digs ((d * f.length + 7) / 8) (val d f)
theorem same_l0 (a b : List Int) (hl : a.length = b.length) (hb : a.length < 140737488355328) : ∀ (m i k : Nat), i + m = a.length → m < k → chatelainelaw0_SameBytes.l0 k a b (i : Int) = some (decide (a.drop i = b.drop i))
  | 0, i, k + 1, hi, hk => by
    rw [chatelainelaw0_SameBytes.l0, if_neg (by omega), List.drop_of_length_le (by omega), List.drop_of_length_le (by omega)]
    simp
  | m + 1, i, k + 1, hi, hk => by
    have e1 : a.drop i = a[i] :: a.drop (i + 1) := (List.getElem_cons_drop (by omega)).symm
    have e2 : b.drop i = b[i] :: b.drop (i + 1) := (List.getElem_cons_drop (by omega)).symm
    rw [chatelainelaw0_SameBytes.l0, if_pos (by omega), if_pos (by omega), if_pos (by omega), rdI a i (by omega), rdI b i (by omega), e1, e2]
    by_cases h : a[i] = b[i]
    · rw [if_pos h, w64 (by omega) (by omega), show (i : Int) + 1 = ((i + 1 : Nat) : Int) by omega, same_l0 a b hl hb m (i + 1) k (by omega) (by omega)]
      simp only [List.cons.injEq, h, true_and]
    · rw [if_neg h]
      simp only [List.cons.injEq, h, false_and, decide_false]
theorem same (k : Nat) (a b : List Int) (hb : a.length < k) (hk : k < 140737488355328) : chatelainelaw0_SameBytes.f k a b = some (decide (a = b)) := by
  unfold chatelainelaw0_SameBytes.f
  by_cases h : (a.length : Int) = (b.length : Int)
  · rw [if_pos h]
    have := same_l0 a b (by omega) (by omega) a.length 0 k (by omega) (by omega)
    rw [List.drop_zero, List.drop_zero] at this
    exact this
  · rw [if_neg h]
    have : a ≠ b := fun e => h (by rw [e])
    simp [this]
theorem same_yes (k : Nat) (a b : List Int) (hb : a.length < k) (hk : k < 140737488355328) (h : a = b) : chatelainelaw0_SameBytes.f k a b = some true := by rw [same k a b hb hk]; simp [h]
theorem low_ok (a : Int) (n : Nat) (h0 : 0 < n) (h1 : n < 4294967296) : ∃ r : Nat, r < n ∧ chatelainelaw0_Low.f a (n : Int) = some (r : Int) := by
  have hw : ∀ x : Int, IntKind.u64.wrap x = x % 18446744073709551616 := fun x => by simp [IntKind.wrap, IntKind.bits, IntKind.signed]
  have hn : IntKind.u64.wrap (n : Int) = (n : Int) := by rw [hw]; omega
  have hu := hw a
  have hu0 : 0 ≤ IntKind.u64.wrap a := by rw [hu]; omega
  have hr0 : 0 ≤ IntKind.u64.wrap a % (n : Int) := Int.emod_nonneg _ (by omega)
  have hr1 : IntKind.u64.wrap a % (n : Int) < (n : Int) := Int.emod_lt_of_pos _ (by omega)
  refine ⟨(IntKind.u64.wrap a % (n : Int)).toNat, by omega, ?_⟩
  unfold chatelainelaw0_Low.f
  rw [hn, if_neg (by omega), Int.tmod_eq_emod_of_nonneg hu0, w64 (by omega) (by omega), Int.toNat_of_nonneg hr0]
/-- The bounds that are met: how many polys, below what, in how many bits. -/
structure Par where
  s : Nat
  K : Nat
  G : Int
  m : Nat
  d : Nat
  hK : 1 ≤ K ∧ K ≤ 8
  hm : 1 ≤ m ∧ m ≤ 2 ^ d ∧ m < 100
  hd : 1 ≤ d ∧ d ≤ 6
  hG : wrap64 (Int.tdiv 8380416 (wrap64 (2 * G))) = (m : Int)
  hG0 : ¬ wrap64 (2 * G) = 0
  hG1 : ¬ G < 1
  hof : ∃ a1 a2 a3 a4 a5 a6 a8, lay_Of.f (s : Int) = some ((K : Int), a1, a2, a3, a4, a5, a6, G, a8, true)
  hlong : ∀ k, lay_long.f (k + 3) 0 (wrap64 ((m : Int) - 1)) = some (d : Int)
/-- A poly that may be laid. -/
def okp (p : Par) (f : List Int) : Prop := f.length = 256 ∧ ∀ x ∈ f, 0 ≤ x ∧ x < (p.m : Int)
theorem okp_fit (p : Par) (f : List Int) (h : okp p f) : fit p.d f := fun x hx => by
  have h1 := h.2 x hx
  have h2 := p.hm.2.1
  have h3 : (p.m : Int) ≤ ((2 ^ p.d : Nat) : Int) := by exact_mod_cast h2
  exact ⟨h1.1, by omega⟩
theorem pk_len (p : Par) (f : List Int) (h : okp p f) : (pk p.d f).length = 32 * p.d := by
  unfold pk
  rw [digs_len, h.1]
  omega
theorem rdL (l : List (List Int)) (i : Nat) (h : i < l.length) : rd_L3 l (i : Int) = l[i] := by
  unfold rd_L3
  rw [Int.toNat_natCast, List.getD_eq_getElem?_getD, List.getElem?_eq_getElem h]
  rfl
theorem high_l0 (p : Par) (w : List (List Int)) (hw : ∀ f ∈ w, okp p f) (hl : w.length ≤ 8) : ∀ (m i k : Nat) (out : List Int), i + m = w.length → 2000 + m < k → out.length + 200 * m < 100000 →
    lay_High.l0 k (p.m : Int) out w (w.length : Int) (i : Int) = some (out ++ (w.drop i).flatMap (pk p.d), [])
  | 0, i, k + 1, out, hi, _, _ => by
    rw [lay_High.l0, if_neg (by omega), List.drop_of_length_le (by omega)]
    simp
  | m + 1, i, k + 1, out, hi, hk, ho => by
    have hil : i < w.length := by omega
    have hf := hw w[i] (List.getElem_mem hil)
    have e : w.drop i = w[i] :: w.drop (i + 1) := (List.getElem_cons_drop hil).symm
    have hp := pack_ok k p.d p.hd.1 (by have := p.hd.2; omega) w[i] (okp_fit p _ hf) (by rw [hf.1]; omega) (by rw [hf.1]; omega)
    have hn := pk_len p _ hf
    obtain ⟨k', rfl⟩ : ∃ k', k = k' + 3 := ⟨k - 3, by omega⟩
    have hd6 := p.hd.2
    rw [lay_High.l0, if_pos (by omega), if_pos (by omega), if_pos (by omega), p.hlong k', Option.bind_some, rdL w i hil, hp, Option.bind_some, ← pk,
      if_pos (by rw [hn]; omega), w64 (by omega) (by omega), show (i : Int) + 1 = ((i + 1 : Nat) : Int) by omega,
      high_l0 p w hw hl m (i + 1) (k' + 3) _ (by omega) (by omega) (by rw [List.length_append, hn]; omega), e, List.flatMap_cons, List.append_assoc]
theorem whole_is (l : List (List Int)) (a b : Int) (hl : l.length < 1000) : lay_whole.f l a b = some (decide ((l.length : Int) = a) && !l.any (lay_bad b)) := by
  unfold lay_whole.f
  rw [if_pos (by omega)]
theorem bad_no (p : Par) (f : List Int) (h : okp p f) : lay_bad (p.m : Int) f = false := by
  unfold lay_bad
  rw [h.1]
  simp only [ne_eq, not_true_eq_false, decide_false, Bool.false_or, List.any_eq_false]
  intro x hx
  have := h.2 x hx
  simp only [lay_odd, Bool.or_eq_true, decide_eq_true_eq]
  omega
theorem high_yes (p : Par) (k : Nat) (w : List (List Int)) (hw : ∀ f ∈ w, okp p f) (hl : w.length = p.K) (hk : 3000 < k) : lay_High.f k (p.s : Int) w = some (w.flatMap (pk p.d), []) := by
  obtain ⟨a1, a2, a3, a4, a5, a6, a8, hof⟩ := p.hof
  have hK := p.hK
  unfold lay_High.f
  refine bnd hof (ifp rfl (ifn p.hG0 ?_))
  simp only [p.hG]
  refine bnd (whole_is w _ _ (by omega)) (ifp ?_ ?_)
  · rw [hl]
    have : w.any (lay_bad (p.m : Int)) = false := by
      rw [List.any_eq_false]
      intro f hf
      rw [bad_no p f (hw f hf)]
      simp
    rw [this]; simp
  · have := high_l0 p w hw (by omega) w.length 0 k [] (by omega) (by omega) (by simp; omega)
    rw [List.drop_zero, List.nil_append] at this
    exact this
theorem high_no (p : Par) (k : Nat) (w : List (List Int)) (hl : w.length < 1000) (h : w.length ≠ p.K ∨ ∃ f ∈ w, lay_bad (p.m : Int) f = true) : ∃ b, lay_High.f k (p.s : Int) w = some (b, [⟨3, ⟨#[108, 97, 121]⟩⟩]) := by
  obtain ⟨a1, a2, a3, a4, a5, a6, a8, hof⟩ := p.hof
  refine ⟨[], ?_⟩
  unfold lay_High.f
  refine bnd hof (ifp rfl (ifn p.hG0 ?_))
  simp only [p.hG]
  refine bnd (whole_is w _ _ hl) (ifn ?_ rfl)
  rcases h with h | ⟨f, hf, hb⟩
  · have : decide ((w.length : Int) = (p.K : Int)) = false := decide_eq_false (by omega)
    rw [this]; simp
  · have : w.any (lay_bad (p.m : Int)) = true := List.any_eq_true.mpr ⟨f, hf, hb⟩
    rw [this]; simp
end Go.Proofs.YtggiddekbocokaaDoor.LayM
