/- Two fresh numbers, in whatever order, make the same window, if neither is too old behind the other. No condition. -/
import Derived.Test.YthliabidnboklaaDoorPNonx7
import Derived.Test.YthliabidnboklaaDoorNonceBase
namespace Go.Proofs.YthliabidnboklaaDoor.Pure
open Go.RowKit Go.Proofs.YthliabidnboklaaDoor.PNon Go.Proofs.YthliabidnboklaaDoor.NonB Go.Proofs.YthliabidnboklaaDoorW.PrintWords Go.Proofs.YthliabidnboklaaDoorW.PrintLast Go.Proofs.YthliabidnboklaaDoorW.PrintMore

theorem turn_fresh (h : Int) (u : Nat) (a b : Int) (fa : FreshP h u a) (fb : FreshP h u b) (hab : a ≠ b) (h1 : a - b < 64) : FreshP (useH h a) (useU h u a) b := by
  refine ⟨may_use h u a fa, fb.2.1, fb.2.2.1, ?_, fun z => ?_⟩
  · have := fb.2.2.2.1
    unfold useH; split <;> omega
  · rcases ((tk_use h u a b fa.2.2.2.1).1 z).2 with q | q
    · exact fb.2.2.2.2 q
    · exact hab q.symm
theorem turn_same (h : Int) (u : Nat) (hu : u < B64) (a b : Int) (fa : FreshP h u a) (fb : FreshP h u b) (hab : a ≠ b) (h1 : a - b < 64) (h2 : b - a < 64) :
    useH (useH h a) b = useH (useH h b) a ∧ useU (useH h a) (useU h u a) b = useU (useH h b) (useU h u b) a := by
  have ea : useH (useH h a) b = useH (useH h b) a := by unfold useH; (repeat' split) <;> first | rfl | omega
  refine ⟨ea, ?_⟩
  have f1 := turn_fresh h u a b fa fb hab h1
  have f2 := turn_fresh h u b a fb fa hab.symm h2
  refine win_ext (useH (useH h a) b) _ _ (useU_lt _ _ _ (useU_lt _ _ _ hu fa.2.2.2.1) f1.2.2.2.1) (useU_lt _ _ _ (useU_lt _ _ _ hu fb.2.2.2.1) f2.2.2.2.1) fun p hp hp2 => ?_
  rw [tk_use _ _ _ p f1.2.2.2.1, tk_use _ _ _ p fa.2.2.2.1]
  rw [ea, tk_use _ _ _ p f2.2.2.2.1, tk_use _ _ _ p fb.2.2.2.1]
  rw [ea] at hp hp2
  have q1 : ∀ x y : Int, p ≤ useH (useH h x) y → useH (useH h x) y - p < 64 → (p ≤ useH h x ∧ useH h x - p < 64) ∨ p > useH h x := by
    intro x y z1 z2
    unfold useH at z2 ⊢
    split at z2 <;> split at z2 <;> omega
  have t1 : Tk h u p → p ≤ h := fun z => z.1
  constructor
  · rintro ⟨_, ⟨_, z | z⟩ | z⟩
    · refine ⟨⟨hp, hp2⟩, .inl ⟨⟨?_, ?_⟩, .inl z⟩⟩
      · have := z.1; unfold useH; split <;> omega
      · unfold useH at hp2 ⊢; split at hp2 <;> split at hp2 <;> (try split) <;> omega
    · exact ⟨⟨hp, hp2⟩, .inr z⟩
    · refine ⟨⟨hp, hp2⟩, .inl ⟨⟨?_, ?_⟩, .inr z⟩⟩
      · subst z; unfold useH; split <;> omega
      · unfold useH at hp2 ⊢; split at hp2 <;> split at hp2 <;> (try split) <;> omega
  · rintro ⟨_, ⟨_, z | z⟩ | z⟩
    · refine ⟨⟨hp, hp2⟩, .inl ⟨⟨?_, ?_⟩, .inl z⟩⟩
      · have := z.1; unfold useH; split <;> omega
      · rw [← ea] at hp2; unfold useH at hp2 ⊢; split at hp2 <;> split at hp2 <;> (try split) <;> omega
    · exact ⟨⟨hp, hp2⟩, .inr z⟩
    · refine ⟨⟨hp, hp2⟩, .inl ⟨⟨?_, ?_⟩, .inr z⟩⟩
      · subst z; unfold useH; split <;> omega
      · rw [← ea] at hp2; unfold useH at hp2 ⊢; split at hp2 <;> split at hp2 <;> (try split) <;> omega
theorem NoncesTurn : chatelainelaw18_NoncesTurn.Pure := by
  intro h u0 a b _ hu0 ha0 hb0
  have ha := wf_i64 ha0
  have hb := wf_i64 hb0
  have hu1 := wf_u64 hu0
  obtain ⟨u, rfl⟩ := Int.eq_ofNat_of_zero_le hu1.1
  have hu : u < B64 := by have := hu1.2; show u < 18446744073709551616; omega
  refine ⟨100, ?_⟩
  have hj : ∀ c : Bool, (c = false → FreshP h u a ∧ FreshP h u b ∧ a ≠ b ∧ a - b < 64 ∧ b - a < 64) → chatelainelaw18_NoncesTurn.j0 100 h (u : Int) a b c = some true := by
    intro c hc
    refine (chatelainelaw18_NoncesTurn.j0.eq_2 _ _ _ _ _ _).trans ?_
    cases c with
    | true => exact ifp rfl (bnd (nawake 98) rfl)
    | false =>
      obtain ⟨fa, fb, hab, h1, h2⟩ := hc rfl
      obtain ⟨e1, e2⟩ := turn_same h u hu a b fa fb hab h1 h2
      refine ifn (by decide) (bnd (use_yes 98 h u hu a fa) (bnd (use_yes 98 h u hu b fb) (bnd (use_yes 98 _ _ (useU_lt _ _ _ hu fa.2.2.2.1) b (turn_fresh h u a b fa fb hab h1)) (bnd (use_yes 98 _ _ (useU_lt _ _ _ hu fb.2.2.2.1) a (turn_fresh h u b a fb fa hab.symm h2)) (ifp rfl (ifp rfl (ifp rfl (ifp rfl (ifp e1 (ifp ?_ (bnd (nawake 98) rfl)))))))))))
      exact congrArg (fun z : Nat => (z : Int)) e2
  unfold chatelainelaw18_NoncesTurn.f
  refine bnd (fresh_eq 99 h u hu a ha) ?_
  by_cases fa : FreshP h u a
  · rw [decide_eq_true fa]
    have ra := fa.2
    refine ifp rfl (bnd (fresh_eq 99 h u hu b hb) ?_)
    by_cases fb : FreshP h u b
    · rw [decide_eq_true fb]
      have rb := fb.2
      refine ifp rfl ?_
      by_cases e : a = b
      · exact ifp e (hj true fun z => by cases z)
      · refine ifn e ?_
        rw [w64 (n := a - b) (by omega) (by omega), w64 (n := b - a) (by omega) (by omega)]
        by_cases c1 : a - b ≥ 64
        · exact ifp c1 (hj true fun z => by cases z)
        · refine ifn c1 (hj _ fun z => ?_)
          have := of_decide_eq_false z
          exact ⟨fa, fb, e, by omega, by omega⟩
    · rw [decide_eq_false fb]
      exact ifn (by decide) (hj true fun z => by cases z)
  · rw [decide_eq_false fa]
    exact ifn (by decide) (hj true fun z => by cases z)
end Go.Proofs.YthliabidnboklaaDoor.Pure
