/- A sum of products of polys is the document's; of lists that are not as many, or of what is no poly, there is none. No condition. -/
import Derived.Test.YtiphpcehmjcejaaPPDotx0
import Derived.Test.YtiphpcehmjcejaaPPDotx1
import Derived.Test.YtiphpcehmjcejaaPPDotx11
import Derived.Test.YtiphpcehmjcejaaPPDotx16
import Derived.Test.YtiphpcehmjcejaaPPDotx17
import Derived.Test.YtiphpcehmjcejaaPolyRef
import Derived.Test.YtiphpcehmjcejaaPolyMore
import Derived.Test.YtiphpcehmjcejaaPolyAwake
import Derived.Test.YtiphpcehmjcejaaPolyBase
import Derived.Test.YtiphpcehmjcejaaPolyRing
import Derived.Test.YtiphpcehmjcejaaPolyMath
import Derived.Test.YtiphpcehmjcejaaPolyAlg
namespace Go.Proofs.Ytiphpcehmjcejaa.Pure
open Go.RowKit Go.Proofs.Ytiphpcehmjcejaa.PPDot Go.Proofs.Ytiphpcehmjcejaa.PolyD Go.Proofs.Ytiphpcehmjcejaa.Pm Go.Proofs.YtiphpcehmjcejaaW.PrintWords Go.Proofs.YtiphpcehmjcejaaW.PrintLast Go.Proofs.YtiphpcehmjcejaaW.PrintMore

theorem dot_nil (x y : List (List Int)) (hl : x.length = y.length) (hx : x.length ≤ 100) : ∀ (m i k : Nat), i + m = x.length → m + 6000 ≤ k → poly_Dot.l0 k x y [] (x.length : Int) (i : Int) = some [] := by
  intro m
  induction m with
  | zero =>
    intro i k h hk
    obtain ⟨k, rfl⟩ : ∃ q, k = q + 1 := ⟨k - 1, by omega⟩
    rw [poly_Dot.l0, if_neg (by omega)]
  | succ m ih =>
    intro i k h hk
    obtain ⟨k, rfl⟩ : ∃ q, k = q + 1 := ⟨k - 1, by omega⟩
    obtain ⟨t, ht, _, _⟩ := both_times k (rd_L1 x (i : Int)) (rd_L1 y (i : Int)) (by omega)
    rw [poly_Dot.l0]
    refine ifp (by omega) (ifp (by omega) (ifp (by omega) (ifp (by omega) (bnd ht (bnd (padd_no k [] t (fun h => not_poly_nil h.1) (by omega)) ?_)))))
    rw [w64 (by omega) (by omega), show (i : Int) + 1 = ((i + 1 : Nat) : Int) by omega]
    exact ih (i + 1) k (by omega) (by omega)
theorem dots_l0 (x y : List (List Int)) (hl : x.length = y.length) (hx : x.length ≤ 100) : ∀ (m i k : Nat) (s : List Int), i + m = x.length → Poly s → m + 6000 ≤ k →
    ∃ r, poly_Dot.l0 k x y s (x.length : Int) (i : Int) = some r ∧ chatelaineref4_Dot.l0 k x y s (i : Int) = some r ∧ r.length ≤ 256 := by
  intro m
  induction m with
  | zero =>
    intro i k s h hs hk
    obtain ⟨k, rfl⟩ : ∃ q, k = q + 1 := ⟨k - 1, by omega⟩
    refine ⟨s, ?_, ?_, by have := hs.1; omega⟩
    · rw [poly_Dot.l0, if_neg (by omega)]
    · rw [chatelaineref4_Dot.l0, if_neg (by omega)]
  | succ m ih =>
    intro i k s h hs hk
    obtain ⟨k, rfl⟩ : ∃ q, k = q + 1 := ⟨k - 1, by omega⟩
    by_cases hp : Poly (rd_L1 x (i : Int)) ∧ Poly (rd_L1 y (i : Int))
    · have ht := times_eq k _ _ hp.1 hp.2 (by omega)
      have hr := rtimes_eq k _ _ hp.1 hp.2 (by omega)
      have hP : Poly (ofN (tim (at_ (rd_L1 x (i : Int))) (at_ (rd_L1 y (i : Int))))) := poly_ofN fun n _ => tim_bd _ _ n
      obtain ⟨r, e1, e2, e3⟩ := ih (i + 1) k _ (by omega) (poly_ofN (f := fun n => (at_ s n + at_ (ofN (tim (at_ (rd_L1 x (i : Int))) (at_ (rd_L1 y (i : Int))))) n) % 3329) fun _ _ => em _) (by omega)
      refine ⟨r, ?_, ?_, e3⟩
      · rw [poly_Dot.l0]
        refine ifp (by omega) (ifp (by omega) (ifp (by omega) (ifp (by omega) (bnd ht (bnd (padd_eq k s _ hs hP (by omega)) ?_)))))
        rw [w64 (by omega) (by omega), show (i : Int) + 1 = ((i + 1 : Nat) : Int) by omega]
        exact e1
      · rw [chatelaineref4_Dot.l0]
        refine ifp (by omega) (ifp (by omega) (ifp (by omega) (bnd hr (ifn ?_ (bnd (raddp_eq k s _ hs hP (by omega)) ?_)))))
        · intro c
          have := congrArg List.length (List.isEmpty_iff.mp c)
          rw [ofN_length] at this
          simp at this
        · rw [w64 (by omega) (by omega), show (i : Int) + 1 = ((i + 1 : Nat) : Int) by omega]
          exact e2
    · refine ⟨[], ?_, ?_, by simp⟩
      · rw [poly_Dot.l0]
        refine ifp (by omega) (ifp (by omega) (ifp (by omega) (ifp (by omega) (bnd (times_no k _ _ hp (by omega)) (bnd (padd_no k s [] (fun h => not_poly_nil h.2) (by omega)) ?_)))))
        rw [w64 (by omega) (by omega), show (i : Int) + 1 = ((i + 1 : Nat) : Int) by omega]
        exact dot_nil x y hl hx m (i + 1) k (by omega) (by omega)
      · rw [chatelaineref4_Dot.l0]
        exact ifp (by omega) (ifp (by omega) (ifp (by omega) (bnd (rtimes_no k _ _ hp (by omega)) (ifp rfl rfl))))
theorem both_dot (k : Nat) (x y : List (List Int)) (hx : x.length ≤ 100) (hk : 7000 ≤ k) : ∃ r, poly_Dot.f k x y = some r ∧ chatelaineref4_Dot.f k x y = some r ∧ r.length ≤ 256 := by
  obtain ⟨k, rfl⟩ : ∃ q, k = q + 1 := ⟨k - 1, by omega⟩
  have no : ∃ r : List Int, poly_Dot.j0 (k + 1) x y true = some r ∧ chatelaineref4_Dot.j0 (k + 1) x y true = some r ∧ r.length ≤ 256 :=
    ⟨[], by rw [poly_Dot.j0, if_pos rfl], by rw [chatelaineref4_Dot.j0, if_pos rfl], by simp⟩
  unfold poly_Dot.f chatelaineref4_Dot.f
  by_cases hl : (x.length : Int) = (y.length : Int)
  · rw [if_pos hl, if_pos hl]
    cases hz : ((x.length : Int) == 0) with
    | true => exact no
    | false =>
      obtain ⟨r, e1, e2, e3⟩ := dots_l0 x y (by omega) hx x.length 0 k _ (by omega) poly_zeros (by omega)
      refine ⟨r, ?_, ?_, e3⟩
      · rw [poly_Dot.j0, if_neg (by decide), if_pos (by decide)]; exact e1
      · rw [chatelaineref4_Dot.j0, if_neg (by decide), if_pos (by decide)]; exact e2
  · rw [if_neg hl, if_neg hl]; exact no
theorem dots_j3 (k : Nat) (x y : List (List Int)) (hx : x.length ≤ 100) (hk : 8000 ≤ k) : chatelainelaw4_PolyDots.j3 k x y = some true := by
  obtain ⟨k, rfl⟩ : ∃ q, k = q + 1 := ⟨k - 1, by omega⟩
  obtain ⟨r, e1, e2, e3⟩ := both_dot k x y hx (by omega)
  rw [chatelainelaw4_PolyDots.j3]
  exact bnd e1 (bnd e2 (bnd (same_yes k r r rfl (by omega) (by omega)) (ifp rfl (bnd (pawake_eq k (by omega)) rfl))))
theorem dots_l1 (x : List Int) (hx : x.length ≤ 300) (a : Int) (bad : Bool) (fs : List (List Int)) (hf : fs.length ≤ 100) (t : Int) (ht : chatelainelaw0_Low.f a 5 = some t) (t0 : 0 ≤ t) (t5 : t < 5) :
    ∀ (m i k : Nat) (gs : List (List Int)), (i : Int) + m = t → gs.length = i → (∀ (j : Nat) (h : j < gs.length), gs[j].length = 256) → m + 9000 ≤ k → chatelainelaw4_PolyDots.l1 k x a bad fs gs (i : Int) = some true := by
  intro m
  induction m with
  | zero =>
    intro i k gs h hg hp hk
    obtain ⟨k, rfl⟩ : ∃ q, k = q + 2 := ⟨k - 2, by omega⟩
    have j2f : chatelainelaw4_PolyDots.j2 (k + 1) fs gs false = some true := by
      rw [chatelainelaw4_PolyDots.j2, if_neg (by decide)]
      exact dots_j3 k fs gs hf (by omega)
    rw [chatelainelaw4_PolyDots.l1]
    refine bnd ht (ifn (by omega) ?_)
    cases bad with
    | false => rw [if_neg (by decide)]; exact j2f
    | true =>
      rw [if_pos rfl]
      by_cases c : (gs.length : Int) > 0
      · have h0 := hp 0 (by omega)
        have e : rd_L1 gs 0 = gs[0]'(by omega) := by
          unfold rd_L1
          rw [show (0 : Int).toNat = 0 from rfl, List.getD_eq_getElem?_getD, List.getElem?_eq_getElem (by omega)]
          rfl
        rw [decide_eq_true c, chatelainelaw4_PolyDots.j2, if_pos rfl, if_pos (by omega), e, if_pos (by omega)]
        exact dots_j3 k fs _ hf (by omega)
      · rw [decide_eq_false c]; exact j2f
  | succ m ih =>
    intro i k gs h hg hp hk
    obtain ⟨k, rfl⟩ : ∃ q, k = q + 1 := ⟨k - 1, by omega⟩
    rw [chatelainelaw4_PolyDots.l1]
    refine bnd ht (ifp (by omega) (bnd rfl (ifp (by simp only [List.length_cons, List.length_nil]; omega) ?_)))
    obtain ⟨g, eg, hG⟩ := plow_eq4 k ([wrap64 (7 * (i : Int))] ++ x) (by simp only [List.length_append, List.length_cons, List.length_nil]; omega) (by omega)
    refine bnd eg (ifp (by omega) ?_)
    rw [w64 (by omega) (by omega), show (i : Int) + 1 = ((i + 1 : Nat) : Int) by omega]
    refine ih (i + 1) k _ (by omega) (by rw [List.length_append, hg]; rfl) (fun j hj => ?_) (by omega)
    rw [List.length_append, List.length_cons, List.length_nil] at hj
    by_cases c : j < gs.length
    · rw [List.getElem_append_left c]; exact hp j c
    · have : j = gs.length := by omega
      subst this
      rw [List.getElem_append_right (by omega)]
      simp [hG.1]
theorem dots_l0' (x : List Int) (hx : x.length ≤ 300) (a b : Int) (bad : Bool) (t u : Int) (ht : chatelainelaw0_Low.f a 5 = some t) (t0 : 0 ≤ t) (t5 : t < 5) (hu : chatelainelaw0_Low.f b 5 = some u) (u0 : 0 ≤ u) (u5 : u < 5) :
    ∀ (m i k : Nat) (fs : List (List Int)), (i : Int) + m = t → fs.length = i → m + 9010 ≤ k → chatelainelaw4_PolyDots.l0 k x a b bad fs (i : Int) = some true := by
  intro m
  induction m with
  | zero =>
    intro i k fs h hg hk
    obtain ⟨k, rfl⟩ : ∃ q, k = q + 1 := ⟨k - 1, by omega⟩
    rw [chatelainelaw4_PolyDots.l0]
    refine bnd ht (ifn (by omega) ?_)
    obtain ⟨q, rfl⟩ := Int.eq_ofNat_of_zero_le u0
    exact dots_l1 x hx b bad fs (by omega) _ hu u0 u5 q 0 k [] (by omega) rfl (fun j hj => by simp at hj) (by omega)
  | succ m ih =>
    intro i k fs h hg hk
    obtain ⟨k, rfl⟩ : ∃ q, k = q + 1 := ⟨k - 1, by omega⟩
    rw [chatelainelaw4_PolyDots.l0]
    refine bnd ht (ifp (by omega) (bnd rfl (ifp (by simp only [List.length_cons, List.length_nil]; omega) ?_)))
    obtain ⟨g, eg, hG⟩ := plow_eq4 k ([(i : Int)] ++ x) (by simp only [List.length_append, List.length_cons, List.length_nil]; omega) (by omega)
    refine bnd eg (ifp (by omega) ?_)
    rw [w64 (by omega) (by omega), show (i : Int) + 1 = ((i + 1 : Nat) : Int) by omega]
    exact ih (i + 1) k _ (by omega) (by rw [List.length_append, hg]; rfl) (by omega)
theorem PolyDots : chatelainelaw4_PolyDots.Pure := by
  intro x a b bad _ _ _ _ _
  refine ⟨9100, ?_⟩
  unfold chatelainelaw4_PolyDots.f
  by_cases h : (x.length : Int) > 300
  · rw [if_pos h]
    exact bnd (pawake_eq _ (by omega)) rfl
  · rw [if_neg h]
    obtain ⟨e1, a0, a5⟩ := low_eq a 5 (by decide) (by decide)
    obtain ⟨e2, b0, b5⟩ := low_eq b 5 (by decide) (by decide)
    obtain ⟨q, hq⟩ := Int.eq_ofNat_of_zero_le a0
    exact dots_l0' x (by omega) a b bad _ _ e1 a0 a5 e2 b0 b5 q 0 9100 [] (by omega) rfl (by omega)

end Go.Proofs.Ytiphpcehmjcejaa.Pure
