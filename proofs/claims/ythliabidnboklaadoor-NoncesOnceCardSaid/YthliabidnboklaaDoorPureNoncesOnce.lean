/- Whatever numbers come, none is taken twice; each one that is not too old and was not taken is; the window may be throughout. No condition. -/
import Derived.Test.YthliabidnboklaaDoorPNonx6
import Derived.Test.YthliabidnboklaaDoorNonceBase
namespace Go.Proofs.YthliabidnboklaaDoor.Pure
open Go.RowKit Go.Proofs.YthliabidnboklaaDoor.PNon Go.Proofs.YthliabidnboklaaDoor.NonB Go.Proofs.YthliabidnboklaaDoorW.PrintWords Go.Proofs.YthliabidnboklaaDoorW.PrintLast Go.Proofs.YthliabidnboklaaDoorW.PrintMore

theorem once_l1 (x0 : List Int) (h u i n : Int) (took : List Int) (ht : took.length ≤ 1000) : ∀ (m j q : Nat) (was : Bool), j + m = took.length →
    ∃ was' : Bool, (was' = true ↔ was = true ∨ n ∈ took.drop j) ∧ chatelainelaw18_NoncesOnce.l1 (q + 1 + m) x0 h u took i n was (j : Int) = chatelainelaw18_NoncesOnce.l1 (q + 1) x0 h u took i n was' (took.length : Int) := by
  intro m
  induction m with
  | zero =>
    intro j q was hj
    obtain rfl : j = took.length := by omega
    refine ⟨was, ?_, rfl⟩
    rw [List.drop_length]
    exact ⟨.inl, fun z => z.resolve_right (by intro q; cases q)⟩
  | succ m ih =>
    intro j q was hj
    have hlt : j < took.length := by omega
    have hd : took.drop j = took[j] :: took.drop (j + 1) := List.drop_eq_getElem_cons hlt
    have ej : wrap64 ((j : Int) + 1) = ((j + 1 : Nat) : Int) := by rw [w64 (n := (j : Int) + 1) (by omega) (by omega)]; omega
    have er : rd took (j : Int) = took[j] := by unfold rd; rw [Int.toNat_natCast, List.getD_eq_getElem?_getD, List.getElem?_eq_getElem hlt]; rfl
    have step : ∃ w2 : Bool, (w2 = true ↔ was = true ∨ took[j] = n) ∧ chatelainelaw18_NoncesOnce.l1 (q + 1 + (m + 1)) x0 h u took i n was (j : Int) = chatelainelaw18_NoncesOnce.l1 (q + 1 + m) x0 h u took i n w2 ((j + 1 : Nat) : Int) := by
      cases was with
      | true =>
        refine ⟨true, ⟨fun _ => .inl rfl, fun _ => rfl⟩, ?_⟩
        refine (chatelainelaw18_NoncesOnce.l1.eq_2 _ _ _ _ _ _ _ _ _).trans (ifp (by omega) (ifp rfl ?_))
        rw [ej]; rfl
      | false =>
        refine ⟨took[j] == n, by rw [beq_iff_eq]; exact ⟨.inr, fun z => z.resolve_left (by decide)⟩, ?_⟩
        refine (chatelainelaw18_NoncesOnce.l1.eq_2 _ _ _ _ _ _ _ _ _).trans (ifp (by omega) (ifn (by decide) (ifp (Int.natCast_nonneg _) ?_)))
        rw [ej, er]; rfl
    obtain ⟨w2, hw2, e2⟩ := step
    obtain ⟨w', hw', e'⟩ := ih (j + 1) q w2 (by omega)
    refine ⟨w', ?_, e2.trans e'⟩
    rw [hw', hw2, hd, List.mem_cons]
    constructor
    · rintro ((z | z) | z)
      · exact .inl z
      · exact .inr (.inl z.symm)
      · exact .inr (.inr z)
    · rintro (z | z | z)
      · exact .inl (.inl z)
      · exact .inl (.inr z.symm)
      · exact .inr z
theorem once_end (x0 : List Int) (h u i n : Int) (took : List Int) (q : Nat) (was : Bool) (h0 : 0 ≤ h) (h1 : h ≤ 1099511627776) :
    chatelainelaw18_NoncesOnce.l1 (q + 1) x0 h u took i n was (took.length : Int) = chatelainelaw18_NoncesOnce.j2 q x0 h u took i n (decide (1 ≤ n ∧ n ≤ 1099511627776 ∧ was = false ∧ h - n < 64)) := by
  refine (chatelainelaw18_NoncesOnce.l1.eq_2 _ _ _ _ _ _ _ _ _).trans (ifn (by omega) ?_)
  by_cases c1 : n ≥ 1
  · refine ifp c1 ?_
    by_cases c2 : n ≤ 1099511627776
    · refine ifp c2 ?_
      cases was with
      | true =>
        refine ifp rfl ?_
        rw [decide_eq_false fun z => by have := z.2.2.1; cases this]
      | false =>
        refine ifn (by decide) ?_
        rw [w64 (n := h - 64) (by omega) (by omega)]
        refine congrArg _ ?_
        rw [Bool.eq_iff_iff, decide_eq_true_iff, decide_eq_true_iff]
        exact ⟨fun z => ⟨c1, c2, rfl, by omega⟩, fun z => by have := z.2.2.2; omega⟩
    · refine ifn c2 ?_
      rw [decide_eq_false fun z => c2 z.2.1]
  · refine ifn c1 ?_
    rw [decide_eq_false fun z => c1 z.1]
def OnceI (h : Int) (u : Nat) (took : List Int) : Prop := u < B64 ∧ MayP h u ∧ (∀ p, Tk h u p ↔ p ∈ took ∧ h - p < 64) ∧ ∀ p ∈ took, p ≤ h
theorem once_use (h : Int) (u : Nat) (took : List Int) (n : Int) (hi : OnceI h u took) (hf : FreshP h u n) : OnceI (useH h n) (useU h u n) (took ++ [n]) := by
  obtain ⟨i1, i2, i3, i4⟩ := hi
  have r := hf.2
  have hle : h ≤ useH h n ∧ n ≤ useH h n := by unfold useH; split <;> omega
  refine ⟨useU_lt h u n i1 r.2.2.1, may_use h u n hf, fun p => ?_, fun p hp => ?_⟩
  · rw [tk_use h u n p r.2.2.1, i3 p, List.mem_append, List.mem_singleton]
    constructor
    · rintro ⟨⟨a, b⟩, c | c⟩
      · exact ⟨.inl c.1, b⟩
      · exact ⟨.inr c, b⟩
    · rintro ⟨a | a, b⟩
      · have := i4 p a
        exact ⟨⟨by omega, b⟩, .inl ⟨a, by omega⟩⟩
      · exact ⟨⟨by omega, b⟩, .inr a⟩
  · rcases List.mem_append.1 hp with a | a
    · have := i4 p a; omega
    · rw [List.mem_singleton.1 a]; exact hle.2
theorem once_l0 (x0 : List Int) (hx : x0.length ≤ 80) (hwf : ∀ x ∈ x0, (Lit.int .i64 x).wf = true) : ∀ (m i k : Nat) (h : Int) (u : Nat) (took : List Int), i + m = x0.length → took.length ≤ i → OnceI h u took → 100 * m + 100 < k →
    chatelainelaw18_NoncesOnce.l0 k x0 h (u : Int) took (i : Int) = some true := by
  intro m
  induction m with
  | zero =>
    intro i k h u took hi ht hI hk
    obtain ⟨k, rfl⟩ : ∃ q, k = q + 1 + 1 := ⟨k - 2, by omega⟩
    exact (chatelainelaw18_NoncesOnce.l0.eq_2 _ _ _ _ _ _).trans (ifn (by omega) (bnd (nawake k) rfl))
  | succ m ih =>
    intro i k h u took hi ht hI hk
    obtain ⟨i1, i2, i3, i4⟩ := hI
    obtain ⟨k, rfl⟩ : ∃ q, k = q + 1 + 1 + 1 + 1 + took.length + 1 := ⟨k - (took.length + 5), by omega⟩
    have hlt : i < x0.length := by omega
    have er : rd x0 (i : Int) = x0[i] := by unfold rd; rw [Int.toNat_natCast, List.getD_eq_getElem?_getD, List.getElem?_eq_getElem hlt]; rfl
    have hn := wf_i64 (hwf x0[i] (List.getElem_mem hlt))
    have ei : wrap64 ((i : Int) + 1) = ((i + 1 : Nat) : Int) := by rw [w64 (n := (i : Int) + 1) (by omega) (by omega)]; omega
    generalize x0[i] = n at er hn
    refine (chatelainelaw18_NoncesOnce.l0.eq_2 _ _ _ _ _ _).trans (ifp (by omega) (ifp (Int.natCast_nonneg _) ?_))
    rw [er]
    obtain ⟨was, hw, e1⟩ := once_l1 x0 h (u : Int) (i : Int) n took (by omega) took.length 0 (k + 1 + 1 + 1) false (by omega)
    refine e1.trans ((once_end x0 h (u : Int) (i : Int) n took (k + 1 + 1 + 1) was i2.1 i2.2.1).trans ?_)
    have hw2 : was = false ↔ n ∉ took := by
      rw [List.drop_zero] at hw
      constructor
      · intro z q
        have := hw.2 (.inr q)
        rw [z] at this; cases this
      · intro z
        cases was with
        | false => rfl
        | true => exact absurd ((hw.1 rfl).resolve_left (by decide)) z
    have hwant : (1 ≤ n ∧ n ≤ 1099511627776 ∧ was = false ∧ h - n < 64) ↔ FreshP h u n := by
      constructor
      · rintro ⟨a, b, c, d⟩
        exact ⟨i2, a, b, d, fun z => (hw2.1 c) ((i3 n).1 z).1⟩
      · rintro ⟨_, a, b, c, d⟩
        exact ⟨a, b, hw2.2 fun z => d ((i3 n).2 ⟨z, c⟩), c⟩
    by_cases hf : FreshP h u n
    · rw [decide_eq_true (hwant.2 hf)]
      have hmx : useH h n = mx h n := by
        unfold useH mx
        by_cases c : n > h
        · exact (if_pos c).trans (if_pos (show h < n from c)).symm
        · exact (if_neg c).trans (if_neg (show ¬ h < n from c)).symm
      refine (chatelainelaw18_NoncesOnce.j2.eq_2 _ _ _ _ _ _ _ _).trans (bnd (use_yes (k + 1) h u i1 n hf) (ifp rfl (ifn (by decide) (bnd (fresh_yes (k + 1) h u i1 n hf) (ifn (by decide) ?_)))))
      refine (chatelainelaw18_NoncesOnce.j3.eq_2 _ _ _ _ _ _ _ _ _ _ _).trans (ifn (by decide) (ifp rfl (ifp hmx (bnd (may_yes k _ _ (useU_lt h u n i1 hf.2.2.2.1) (may_use h u n hf)) (ifp rfl (ifp (by omega) ?_))))))
      rw [ei]
      exact ih (i + 1) (k + 1) _ _ _ (by omega) (by rw [List.length_append, List.length_singleton]; omega) (once_use h u took n ⟨i1, i2, i3, i4⟩ hf) (by omega)
    · rw [decide_eq_false fun z => hf (hwant.1 z)]
      refine (chatelainelaw18_NoncesOnce.j2.eq_2 _ _ _ _ _ _ _ _).trans (bnd (use_no (k + 1) h u i1 n hn i2 hf) (ifn (by decide) (ifn (by decide) (bnd (fresh_no (k + 1) h u i1 n hn hf) (ifn (by decide) (bnd (x := 8) rfl ?_))))))
      refine (chatelainelaw18_NoncesOnce.j3.eq_2 _ _ _ _ _ _ _ _ _ _ _).trans (ifn (by decide) (ifn (by decide) ?_))
      rw [ei]
      exact ih (i + 1) (k + 1) _ _ _ (by omega) (by omega) ⟨i1, i2, i3, i4⟩ (by omega)
theorem NoncesOnce : chatelainelaw18_NoncesOnce.Pure := by
  intro x _ _ hwf
  refine ⟨10000, ?_⟩
  unfold chatelainelaw18_NoncesOnce.f
  by_cases c : (x.length : Int) > 80
  · exact ifp c (bnd (nawake 9999) rfl)
  · refine ifn c ?_
    have t0 : ∀ p, ¬ Tk 0 0 p := fun p z => by have := z.2.2; rw [Nat.zero_testBit] at this; cases this
    exact once_l0 x (by omega) hwf x.length 0 10000 0 0 [] (by omega) (Nat.zero_le _) ⟨by decide, ⟨by omega, by omega, fun i _ _ => Nat.zero_testBit i, .inl rfl⟩, fun p => ⟨fun z => absurd z (t0 p), fun z => by cases z.1⟩, fun p hp => by cases hp⟩ (by omega)
end Go.Proofs.YthliabidnboklaaDoor.Pure
