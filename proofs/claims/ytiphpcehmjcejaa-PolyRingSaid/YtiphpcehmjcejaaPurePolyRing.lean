/- Products of polys do not mind the order, and go over sums; one that is carried over is the same times a unit; a sum of two products with one poly is the product of the sum. No condition. -/
import Derived.Test.YtiphpcehmjcejaaPPRingx10
import Derived.Test.YtiphpcehmjcejaaPPRingx11
import Derived.Test.YtiphpcehmjcejaaPPRingx12
import Derived.Test.YtiphpcehmjcejaaPPRingx4
import Derived.Test.YtiphpcehmjcejaaPPRingx9
import Derived.Test.YtiphpcehmjcejaaPolyMore
import Derived.Test.YtiphpcehmjcejaaPolyAwake
import Derived.Test.YtiphpcehmjcejaaPolyBase
import Derived.Test.YtiphpcehmjcejaaPolyRing
import Derived.Test.YtiphpcehmjcejaaPolyMath
import Derived.Test.YtiphpcehmjcejaaPolyAlg
namespace Go.Proofs.Ytiphpcehmjcejaa.Pure
open Go.RowKit Go.Proofs.Ytiphpcehmjcejaa.PPRing Go.Proofs.Ytiphpcehmjcejaa.PolyR Go.Proofs.Ytiphpcehmjcejaa.Pm Go.Proofs.YtiphpcehmjcejaaW.PrintWords Go.Proofs.YtiphpcehmjcejaaW.PrintLast Go.Proofs.YtiphpcehmjcejaaW.PrintMore

def Pr (x y : List Int) : List Int := ofN (tim (at_ x) (at_ y))
def Su (x y : List Int) : List Int := ofN fun n => (at_ x n + at_ y n) % 3329
theorem poly_pr (x y : List Int) : Poly (Pr x y) := poly_ofN fun n _ => tim_bd _ _ n
theorem poly_su (x y : List Int) : Poly (Su x y) := poly_ofN fun _ _ => em _
theorem pr0 (x y : List Int) (i : Nat) (hi : i < 128) : Cg (at_ (Pr x y) (2 * i)) (at_ x (2 * i) * at_ y (2 * i) + at_ x (2 * i + 1) * at_ y (2 * i + 1) * ze i) := by
  unfold Pr
  rw [at_ofN _ _ (by omega)]
  unfold tim
  rw [if_pos (by omega), show 2 * i / 2 = i by omega]
  exact Cg.trans (Cg.mod _) (Cg.add (Cg.refl _) (Cg.mul_right _ (Cg.mod _)))
theorem pr1 (x y : List Int) (i : Nat) (hi : i < 128) : Cg (at_ (Pr x y) (2 * i + 1)) (at_ x (2 * i) * at_ y (2 * i + 1) + at_ x (2 * i + 1) * at_ y (2 * i)) := by
  unfold Pr
  rw [at_ofN _ _ (by omega)]
  unfold tim
  rw [if_neg (by omega), show 2 * i + 1 - 1 = 2 * i by omega]
  exact Cg.mod _
theorem su_at (x y : List Int) (n : Nat) (hn : n < 256) : Cg (at_ (Su x y) n) (at_ x n + at_ y n) := by
  unfold Su
  rw [at_ofN _ n hn]
  exact Cg.mod _
theorem by_pairs {x y : List Int} (hx : Poly x) (hy : Poly y) (h0 : ∀ i, i < 128 → Cg (at_ x (2 * i)) (at_ y (2 * i))) (h1 : ∀ i, i < 128 → Cg (at_ x (2 * i + 1)) (at_ y (2 * i + 1))) : x = y :=
  poly_ext hx hy fun n hn => by
    by_cases c : n % 2 = 0
    · have := h0 (n / 2) (by omega)
      rw [show 2 * (n / 2) = n by omega] at this
      exact this
    · have := h1 (n / 2) (by omega)
      rw [show 2 * (n / 2) + 1 = n by omega] at this
      exact this
theorem pr_comm (x y : List Int) : Pr x y = Pr y x := by
  refine by_pairs (poly_pr x y) (poly_pr y x) (fun i hi => ?_) (fun i hi => ?_)
  · refine Cg.trans (pr0 x y i hi) (Cg.trans (Cg.of_eq ?_) (Cg.symm (pr0 y x i hi)))
    rw [Int.mul_comm (at_ x (2 * i)), Int.mul_comm (at_ x (2 * i + 1))]
  · refine Cg.trans (pr1 x y i hi) (Cg.trans (Cg.of_eq ?_) (Cg.symm (pr1 y x i hi)))
    rw [Int.mul_comm (at_ x (2 * i)), Int.mul_comm (at_ x (2 * i + 1)), Int.add_comm]
theorem pr_assoc (x y z : List Int) : Pr x (Pr y z) = Pr (Pr x y) z := by
  refine by_pairs (poly_pr _ _) (poly_pr _ _) (fun i hi => ?_) (fun i hi => ?_)
  · refine Cg.trans (Cg.trans (pr0 x (Pr y z) i hi) (Cg.add (Cg.mul_left _ (pr0 y z i hi)) (Cg.mul_right _ (Cg.mul_left _ (pr1 y z i hi))))) (Cg.trans (Cg.of_eq ?_) (Cg.symm (Cg.trans (pr0 (Pr x y) z i hi) (Cg.add (Cg.mul_right _ (pr0 x y i hi)) (Cg.mul_right _ (Cg.mul_right _ (pr1 x y i hi)))))))
    simp only [Int.mul_add, Int.add_mul]
    ac_rfl
  · refine Cg.trans (Cg.trans (pr1 x (Pr y z) i hi) (Cg.add (Cg.mul_left _ (pr1 y z i hi)) (Cg.mul_left _ (pr0 y z i hi)))) (Cg.trans (Cg.of_eq ?_) (Cg.symm (Cg.trans (pr1 (Pr x y) z i hi) (Cg.add (Cg.mul_right _ (pr0 x y i hi)) (Cg.mul_right _ (pr1 x y i hi))))))
    simp only [Int.mul_add, Int.add_mul]
    ac_rfl
theorem pr_su (x y z : List Int) : Pr x (Su y z) = Su (Pr x y) (Pr x z) := by
  refine by_pairs (poly_pr _ _) (poly_su _ _) (fun i hi => ?_) (fun i hi => ?_)
  · refine Cg.trans (Cg.trans (pr0 x (Su y z) i hi) (Cg.add (Cg.mul_left _ (su_at y z (2 * i) (by omega))) (Cg.mul_right _ (Cg.mul_left _ (su_at y z (2 * i + 1) (by omega)))))) (Cg.trans (Cg.of_eq ?_) (Cg.symm (Cg.trans (su_at (Pr x y) (Pr x z) (2 * i) (by omega)) (Cg.add (pr0 x y i hi) (pr0 x z i hi)))))
    simp only [Int.mul_add, Int.add_mul]
    ac_rfl
  · refine Cg.trans (Cg.trans (pr1 x (Su y z) i hi) (Cg.add (Cg.mul_left _ (su_at y z (2 * i + 1) (by omega))) (Cg.mul_left _ (su_at y z (2 * i) (by omega))))) (Cg.trans (Cg.of_eq ?_) (Cg.symm (Cg.trans (su_at (Pr x y) (Pr x z) (2 * i + 1) (by omega)) (Cg.add (pr1 x y i hi) (pr1 x z i hi)))))
    simp only [Int.mul_add]
    ac_rfl
theorem su_pr (x y z : List Int) : Pr (Su x y) z = Su (Pr x z) (Pr y z) := by
  rw [pr_comm (Su x y) z, pr_su, pr_comm z x, pr_comm z y]
theorem one_at (i b : Nat) (hi : i < 128) (hb : b < 2) : at_ (ofN (ntt (at_ (ofN (mono 0))))) (2 * i + b) = if b = 0 then 1 else 0 := by
  have e : ofN (ntt (at_ (ofN (mono 0)))) = ofN (ntt (mono 0)) := ntt_same fun n hn => at_ofN _ n hn
  rw [e, at_ofN _ _ (by omega), ntt_mono 0 i b (by decide) hi hb]
  by_cases c : b = 0
  · rw [if_pos (by omega), if_pos c]; rfl
  · rw [if_neg (by omega), if_neg c]
theorem pr_one (x : List Int) (hx : Poly x) : Pr x (ofN (ntt (at_ (ofN (mono 0))))) = x := by
  refine by_pairs (poly_pr _ _) hx (fun i hi => ?_) (fun i hi => ?_)
  · refine Cg.trans (pr0 x _ i hi) (Cg.of_eq ?_)
    have e0 := one_at i 0 hi (by decide)
    have e1 := one_at i 1 hi (by decide)
    rw [Nat.add_zero] at e0
    rw [e0, e1]
    simp
  · refine Cg.trans (pr1 x _ i hi) (Cg.of_eq ?_)
    have e0 := one_at i 0 hi (by decide)
    have e1 := one_at i 1 hi (by decide)
    rw [Nat.add_zero] at e0
    rw [e0, e1]
    simp
theorem su_zero (x : List Int) (hx : Poly x) : Su (List.replicate 256 0) x = x := by
  refine poly_ext (poly_su _ _) hx fun n hn => Cg.trans (su_at _ _ n hn) (Cg.of_eq ?_)
  rw [at_zeros n hn]
  omega
theorem dot_two (k : Nat) (x y z : List Int) (hx : Poly x) (hy : Poly y) (hz : Poly z) (hk : 1100 ≤ k) : poly_Dot.f k [x, y] [z, z] = some (Pr (Su x y) z) := by
  obtain ⟨k, rfl⟩ : ∃ q, k = q + 4 := ⟨k - 4, by omega⟩
  unfold poly_Dot.f
  refine ifp rfl ?_
  rw [poly_Dot.j0]
  refine ifn (by simp) (ifp (by decide) ?_)
  have l1 : (([x, y] : List (List Int)).length : Int) = 2 := rfl
  have l2 : (([z, z] : List (List Int)).length : Int) = 2 := rfl
  have w1 : wrap64 (0 + 1) = 1 := w64 (by decide) (by decide)
  have w2 : wrap64 (1 + 1) = 2 := w64 (by decide) (by decide)
  rw [poly_Dot.l0, l1, l2]
  refine ifp (by decide) (ifp (by decide) (ifp (by decide) (ifp (by decide) ?_)))
  refine bnd (times_eq (k + 2) x z hx hz (by omega)) (bnd (padd_eq (k + 2) _ _ poly_zeros (poly_pr x z) (by omega)) ?_)
  rw [w1, poly_Dot.l0, l1, l2]
  refine ifp (by decide) (ifp (by decide) (ifp (by decide) (ifp (by decide) ?_)))
  refine bnd (times_eq (k + 1) y z hy hz (by omega)) (bnd (padd_eq (k + 1) _ _ (poly_su _ (Pr x z)) (poly_pr y z) (by omega)) ?_)
  rw [w2, poly_Dot.l0]
  refine ifn (by decide) ?_
  congr 1
  show Su (Su (List.replicate 256 0) (Pr x z)) (Pr y z) = _
  rw [su_zero _ (poly_pr x z), su_pr]
theorem ring_j (k : Nat) (a b c : List Int) (ha : a.length ≤ 300) (hb : b.length ≤ 300) (hc : c.length ≤ 300) (hk : 8000 ≤ k) : chatelainelaw4_PolyRing.j0 (k + 1) a b c false = some true := by
  obtain ⟨f, ef, hf⟩ := plow_eq k a ha (by omega)
  obtain ⟨g, eg, hg⟩ := plow_eq k b hb (by omega)
  obtain ⟨h, eh, hh⟩ := plow_eq k c hc (by omega)
  have ts : ∀ x y : List Int, Poly x → Poly y → poly_Times.f k x y = some (Pr x y) := fun x y hx hy => times_eq k x y hx hy (by omega)
  have ad : ∀ x y : List Int, Poly x → Poly y → poly_Add.f k x y = some (Su x y) := fun x y hx hy => padd_eq k x y hx hy (by omega)
  have s : ∀ x y : List Int, x = y → Poly x → chatelainelaw0_SameInts.f k x y = some true := fun x y e hx => same_yes k x y e (by have := hx.1; omega) (by omega)
  have p := poly_pr
  have q := poly_su
  rw [chatelainelaw4_PolyRing.j0, if_neg (by decide)]
  refine bnd ef (bnd eg (bnd eh (bnd (unit_eq 0 (by decide)) (bnd (over_eq k _ (poly_mono 0) (by omega)) ?_))))
  have hone : Poly (ofN (ntt (at_ (ofN (mono 0))))) := poly_ntt _
  refine bnd (ts f g hf hg) (bnd (ts g f hg hf) (bnd (s _ _ (pr_comm f g) (p f g)) (ifp rfl ?_)))
  refine bnd (ts g h hg hh) (bnd (ts f _ hf (p g h)) (bnd (ts f g hf hg) (bnd (ts _ h (p f g) hh) (bnd (s _ _ (pr_assoc f g h) (p _ _)) (ifp rfl ?_)))))
  refine bnd (ad g h hg hh) (bnd (ts f _ hf (q g h)) (bnd (ts f g hf hg) (bnd (ts f h hf hh) (bnd (ad _ _ (p f g) (p f h)) (bnd (s _ _ (pr_su f g h) (p _ _)) (ifp rfl ?_))))))
  refine bnd (ts f _ hf hone) (bnd (s _ _ (pr_one f hf) (p _ _)) (ifp rfl ?_))
  refine bnd (dot_two k f g h hf hg hh (by omega)) (bnd (ad f g hf hg) (bnd (ts _ h (q f g) hh) (bnd (s _ _ rfl (p _ _)) (ifp rfl ?_))))
  exact bnd (pawake_eq k (by omega)) rfl
theorem PolyRing : chatelainelaw4_PolyRing.Pure := by
  intro a b c _ _ _ _ _ _ _ _ _
  refine ⟨8001, ?_⟩
  have jt : chatelainelaw4_PolyRing.j0 8001 a b c true = some true := by
    rw [chatelainelaw4_PolyRing.j0, if_pos rfl]
    exact bnd (pawake_eq _ (by omega)) rfl
  unfold chatelainelaw4_PolyRing.f
  by_cases h1 : (a.length : Int) > 300
  · rw [if_pos h1]; exact jt
  · rw [if_neg h1]
    by_cases h2 : (b.length : Int) > 300
    · rw [if_pos h2]; exact jt
    · rw [if_neg h2]
      by_cases h3 : (c.length : Int) > 300
      · rw [decide_eq_true h3]; exact jt
      · rw [decide_eq_false h3]
        exact ring_j 8000 a b c (by omega) (by omega) (by omega) (by omega)

end Go.Proofs.Ytiphpcehmjcejaa.Pure
