import Derived.Test.YthliabidnboklaaDoorPTenx0
import Derived.Test.YthliabidnboklaaDoorPTenx13
import Derived.Test.YthliabidnboklaaDoorPTenx14
import Derived.Test.YthliabidnboklaaDoorPTenx15
import Derived.Test.YthliabidnboklaaDoorPTenx2
import Derived.Test.YthliabidnboklaaDoorTenBase
namespace Go.Proofs.YthliabidnboklaaDoor.Pure
open Go.RowKit Go.Proofs.YthliabidnboklaaDoor.PTen Go.Proofs.YthliabidnboklaaDoor.TenB Go.Proofs.YthliabidnboklaaDoorW.PrintWords Go.Proofs.YthliabidnboklaaDoorW.PrintLast Go.Proofs.YthliabidnboklaaDoorW.PrintMore

theorem great_ex (l : List S78) (hl : l.length ≤ 12) : ∀ d k i : Nat, i + d = l.length → 2 * d + 2 ≤ k → ∃ b, chatelainelaw16_great.l0 k l (i : Int) = some b
  | 0, k + 2, i, he, hk => ⟨_, (chatelainelaw16_great.l0.eq_2 _ _ _).trans (ifn (by omega) ((chatelainelaw16_great.j1.eq_2 _ _ _ _).trans (ifn (by decide) rfl)))⟩
  | d + 1, k + 2, i, he, hk => by
    by_cases c : (((rd_T78 l (i : Int)).f2).size : Int) > 400
    · exact ⟨true, (chatelainelaw16_great.l0.eq_2 _ _ _).trans (ifp (by omega) ((chatelainelaw16_great.j1.eq_2 _ _ _ _).trans (ifp (decide_eq_true (by omega)) (ifp (by omega) (ifp (by omega) (ifp c rfl))))))⟩
    · obtain ⟨b, hb⟩ := great_ex l hl d k (i + 1) (by omega) (by omega)
      refine ⟨b, (chatelainelaw16_great.l0.eq_2 _ _ _).trans (ifp (by omega) ((chatelainelaw16_great.j1.eq_2 _ _ _ _).trans (ifp (decide_eq_true (by omega)) (ifp (by omega) (ifp (by omega) (ifn c ?_))))))⟩
      rw [w64 (by omega) (by omega)]; exact hb
theorem great_f (l : List S78) (k : Nat) (hk : 40 ≤ k) : ∃ b, chatelainelaw16_great.f k l = some b ∧ (b = false → l.length ≤ 12) := by
  by_cases c : l.length ≤ 12
  · obtain ⟨b, hb⟩ := great_ex l c l.length k 0 (by omega) (by omega)
    exact ⟨b, hb, fun _ => c⟩
  · obtain ⟨q, rfl⟩ : ∃ q, k = q + 2 := ⟨k - 2, by omega⟩
    refine ⟨true, ?_, fun h => by cases h⟩
    refine (chatelainelaw16_great.l0.eq_2 _ _ _).trans (ifp (by omega) ((chatelainelaw16_great.j1.eq_2 _ _ _ _).trans (ifn (by rw [decide_eq_false (by omega)]; decide) ?_)))
    rw [decide_eq_true (by omega)]
theorem addR_len (l : List S78) (p : Int) (nm : ByteArray) : (addR l p nm).1.length ≤ l.length + 1 := by
  unfold addR snoc
  repeat' split
  all_goals simp
theorem TenantsTell : chatelainelaw16_TenantsTell.Pure := by
  intro l a1 a2 a3 a4 h0 h1 h2 h3 h4
  refine ⟨300, ?_⟩
  obtain ⟨b, hb, hl⟩ := great_f l 300 (by omega)
  have done : chatelainelaw16_TenantsTell.j0 300 l a1 a2 a3 a4 true = some true := (chatelainelaw16_TenantsTell.j0.eq_2 _ _ _ _ _ _ _).trans (ifp rfl (bnd (tenant_awake 299 (by omega)) rfl))
  cases b with
  | true => exact bnd hb (ifp rfl done)
  | false =>
    have hl := hl rfl
    refine bnd hb (ifn (by decide) ?_)
    by_cases c : (a2.size : Int) > 400
    · rw [decide_eq_true c]; exact done
    · rw [decide_eq_false c]
      have hadd := addR_len l a1 a2
      have hp := path_len l a3
      have fin : ∀ x19, x19 = true → chatelainelaw16_TenantsTell.j1 299 l (([] : List S78) ++ l) (addR l a1 a2).1 (path l a3) x19 = some true := by
        rintro _ rfl
        exact (chatelainelaw16_TenantsTell.j1.eq_2 _ _ _ _ _ _).trans (bnd (overT (addR l a1 a2).1.length 298 0 _ (by omega) (by omega) (by omega) : chatelainelaw0_OverTenants.f 298 (addR l a1 a2).1 = some ()) (bnd (overI (path l a3).length 298 0 _ (by omega) (by omega) (by omega) : chatelainelaw0_OverInts.f 298 (path l a3) = some ()) (ifp rfl (bnd (same_f l 298 (by omega) (by omega)) (ifp rfl (bnd (tenant_awake 298 (by omega)) rfl))))))
      refine (chatelainelaw16_TenantsTell.j0.eq_2 _ _ _ _ _ _ _).trans (ifn (by decide) (ifp (by simp; omega) (bnd rfl (bnd (add_f l a1 a2 299 (by omega)) (bnd (radd_f l a1 a2 299 (by omega)) (bnd (path_f l a3 299 (by omega)) (bnd (same_f (addR l a1 a2).1 299 (by omega) (by omega)) ?_)))))))
      refine ifp rfl (ifp rfl (bnd (num_f _) (ifp rfl (bnd (rpath_f l a3 299 (by omega)) (bnd (samei_f (path l a3) 299 (by omega) (by omega)) (ifp rfl (bnd (above_f l a3 a4 299 (by omega)) (bnd (rabove_f l a3 a4 299 (by omega)) (ifp (beq_self_eq_true _) (bnd (may_f l 299 (by omega)) (bnd (rmay_f l 299 (by omega)) (fin _ (beq_self_eq_true _)))))))))))))
end Go.Proofs.YthliabidnboklaaDoor.Pure
