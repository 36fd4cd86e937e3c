import Derived.Test.YtiphpcehmjcejaaPPDotx10
import Derived.Test.YtiphpcehmjcejaaPPDotx4
import Derived.Test.YtiphpcehmjcejaaPPDotx7
import Derived.Test.YtiphpcehmjcejaaPPDotx8
import Derived.Test.YtiphpcehmjcejaaPPDotx9
import Derived.Test.YtiphpcehmjcejaaPolyBase
import Derived.Test.YtiphpcehmjcejaaPolyRing
import Derived.Test.YtiphpcehmjcejaaPolyMath
import Derived.Test.YtiphpcehmjcejaaPolyAlg
/- What Times, Add, Sub and the statements' own helpers come to. -/
namespace Go.Proofs.Ytiphpcehmjcejaa.PolyD
open Go.RowKit Go.Proofs.Ytiphpcehmjcejaa.PPDot Go.Proofs.Ytiphpcehmjcejaa.Pm Go.Proofs.YtiphpcehmjcejaaW.PrintWords Go.Proofs.YtiphpcehmjcejaaW.PrintLast Go.Proofs.YtiphpcehmjcejaaW.PrintMore

/-! ### Add, Sub -/
theorem each_add_l0 (x y : List Int) (hx : x.length = 256) (hy : y.length = 256) : ∀ (m j k : Nat) (out : List Int), j + m = 256 → out.length = 256 → (∀ n, n < 256 → n < j → at_ out n = (at_ x n + at_ y n) % 3329) → m < k →
    poly_each_at_ring_Add.l0 k x y out 256 (j : Int) = some (ofN fun n => (at_ x n + at_ y n) % 3329) := by
  intro m
  induction m with
  | zero =>
    intro j k out h hl ho hk
    obtain ⟨k, rfl⟩ : ∃ q, k = q + 1 := ⟨k - 1, by omega⟩
    simp only [poly_each_at_ring_Add.l0]
    rw [if_neg (by omega)]
    congr 1
    exact eq_ofN hl fun n hn => ho n hn (by omega)
  | succ m ih =>
    intro j k out h hl ho hk
    obtain ⟨k, rfl⟩ : ∃ q, k = q + 1 := ⟨k - 1, by omega⟩
    simp only [poly_each_at_ring_Add.l0]
    refine ifp (by omega) (ifp (by omega) (ifp (by omega) (ifp (by omega) ?_)))
    rw [rd_at, rd_at]
    refine bnd (add_eq _ _) (ifp (by omega) ?_)
    rw [w64 (n := (j : Int) + 1) (by omega) (by omega), show (j : Int) + 1 = ((j + 1 : Nat) : Int) by omega, Int.toNat_natCast]
    refine ih (j + 1) k _ (by omega) (by rw [List.length_set]; exact hl) (fun n hn hn2 => ?_) (by omega)
    rw [at_set out j n _ (by omega)]
    by_cases c : n = j
    · rw [if_pos c, c]
    · rw [if_neg c]; exact ho n hn (by omega)
theorem padd_eq (k : Nat) (x y : List Int) (hx : Poly x) (hy : Poly y) (hk : 1000 ≤ k) : poly_Add.f k x y = some (ofN fun n => (at_ x n + at_ y n) % 3329) := by
  obtain ⟨k, rfl⟩ : ∃ q, k = q + 1 := ⟨k - 1, by omega⟩
  unfold poly_Add.f poly_each_at_ring_Add.f
  refine bnd (bnd (may_yes _ x hx (by omega)) (ifp rfl (bnd (may_yes _ y hy (by omega)) ?_))) rfl
  simp only [poly_each_at_ring_Add.j0]
  refine ifn (by decide) (ifp (by decide) (bnd rfl ?_))
  rw [List.length_replicate]
  exact each_add_l0 x y hx.1 hy.1 256 0 k _ (by omega) (by rw [List.length_replicate]) (fun n _ h => by omega) (by omega)
/-! ### Times -/
theorem ze_rt (i : Nat) : (17 * rt i % 3329) * rt i % 3329 = ze i := by
  have h : (17 * rtN i % 3329) * rtN i % 3329 = zeN i := by
    unfold rtN zeN
    rw [Nat.mul_mod, Nat.mod_mod, Nat.mul_mod 17, Nat.mod_mod, ← Nat.mul_mod 17, ← Nat.mul_mod, show 2 * rv i + 1 = 1 + rv i + rv i by omega, Nat.pow_add, Nat.pow_add, Nat.pow_one]
  unfold rt ze
  rw [← h]
  simp only [Int.natCast_emod, Int.natCast_mul]; rfl
theorem times_l0 (x y : List Int) (hx : Poly x) (hy : Poly y) : ∀ (m j k : Nat) (out : List Int), j + m = 128 → out.length = 256 → (∀ n, n < 256 → n < 2 * j → at_ out n = tim (at_ x) (at_ y) n) → m + 80 < k →
    poly_Times.l0 k x y out (j : Int) = some (ofN (tim (at_ x) (at_ y))) := by
  have hx1 := hx.1
  have hy1 := hy.1
  intro m
  induction m with
  | zero =>
    intro j k out h hl ho hk
    obtain ⟨k, rfl⟩ : ∃ q, k = q + 1 := ⟨k - 1, by omega⟩
    simp only [poly_Times.l0]
    rw [if_neg (by omega)]
    congr 1
    exact eq_ofN hl fun n hn => ho n hn (by omega)
  | succ m ih =>
    intro j k out h hl ho hk
    obtain ⟨k, rfl⟩ : ∃ q, k = q + 1 := ⟨k - 1, by omega⟩
    simp only [poly_Times.l0]
    rw [w64 (n := 2 * (j : Int)) (by omega) (by omega), w64 (n := 2 * (j : Int) + 1) (by omega) (by omega), show 2 * (j : Int) + 1 = ((2 * j + 1 : Nat) : Int) by omega, show 2 * (j : Int) = ((2 * j : Nat) : Int) by omega]
    refine ifp (by omega) (bnd (root_rt k j (by omega)) ?_)
    refine ifp (by omega) (ifp (by omega) (ifp (by omega) (ifp (by omega) (ifp (by omega) (ifp (by omega) (ifp (by omega) (ifp (by omega) ?_)))))))
    rw [rd_at, rd_at, rd_at, rd_at]
    have ha := hx.2 (2 * j) (by omega)
    have hb := hx.2 (2 * j + 1) (by omega)
    have hc := hy.2 (2 * j) (by omega)
    have hd := hy.2 (2 * j + 1) (by omega)
    have hr := rt_bd j
    have hz := ze_bd j
    have m1 := mul_bd ha hc
    have m2 := mul_bd hb hd
    have m3 := mul_bd ha hd
    have m4 := mul_bd hb hc
    have m5 := mul_bd (a := 17) (by decide) hr
    have m6 := mul_bd (em (17 * rt j)) hr
    have m7 := mul_bd (em (at_ x (2 * j + 1) * at_ y (2 * j + 1))) hz
    rw [w64 (n := at_ x (2 * j) * at_ y (2 * j)) (by omega) (by omega), w64 (n := at_ x (2 * j + 1) * at_ y (2 * j + 1)) (by omega) (by omega), tmod_pos m2.1, w64 (n := 17 * rt j) (by omega) (by omega), tmod_pos m5.1, w64 (n := 17 * rt j % 3329 * rt j) (by omega) (by omega), tmod_pos m6.1, ze_rt,
      w64 (n := at_ x (2 * j + 1) * at_ y (2 * j + 1) % 3329 * ze j) (by omega) (by omega), w64 (n := at_ x (2 * j) * at_ y (2 * j) + at_ x (2 * j + 1) * at_ y (2 * j + 1) % 3329 * ze j) (by omega) (by omega), tmod_pos (a := at_ x (2 * j) * at_ y (2 * j) + at_ x (2 * j + 1) * at_ y (2 * j + 1) % 3329 * ze j) (by omega),
      w64 (n := at_ x (2 * j) * at_ y (2 * j + 1)) (by omega) (by omega), w64 (n := at_ x (2 * j + 1) * at_ y (2 * j)) (by omega) (by omega), w64 (n := at_ x (2 * j) * at_ y (2 * j + 1) + at_ x (2 * j + 1) * at_ y (2 * j)) (by omega) (by omega), tmod_pos (a := at_ x (2 * j) * at_ y (2 * j + 1) + at_ x (2 * j + 1) * at_ y (2 * j)) (by omega),
      w64 (n := (j : Int) + 1) (by omega) (by omega), show (j : Int) + 1 = ((j + 1 : Nat) : Int) by omega, Int.toNat_natCast, Int.toNat_natCast]
    refine ih (j + 1) k _ (by omega) (by rw [List.length_set, List.length_set]; exact hl) (fun n hn hn2 => ?_) (by omega)
    rw [at_set _ (2 * j + 1) n _ (by rw [List.length_set]; omega), at_set out (2 * j) n _ (by omega)]
    by_cases c : n = 2 * j + 1
    · rw [if_pos c, c]
      unfold tim
      rw [if_neg (by omega), show 2 * j + 1 - 1 = 2 * j by omega]
    · rw [if_neg c]
      by_cases c2 : n = 2 * j
      · rw [if_pos c2, c2]
        unfold tim
        rw [if_pos (by omega), show 2 * j / 2 = j by omega]
      · rw [if_neg c2]; exact ho n hn (by omega)
theorem times_eq (k : Nat) (x y : List Int) (hx : Poly x) (hy : Poly y) (hk : 1000 ≤ k) : poly_Times.f k x y = some (ofN (tim (at_ x) (at_ y))) := by
  obtain ⟨k, rfl⟩ : ∃ q, k = q + 1 := ⟨k - 1, by omega⟩
  unfold poly_Times.f
  refine bnd (may_yes _ x hx (by omega)) (ifp rfl (bnd (may_yes _ y hy (by omega)) ?_))
  simp only [poly_Times.j0]
  refine ifn (by decide) (ifp (by decide) ?_)
  exact times_l0 x y hx hy 128 0 k _ (by omega) (by rw [List.length_replicate]) (fun n _ h => by omega) (by omega)

/-! ### low, unit, awake -/
theorem low_l0 (x : List Int) (hx : x.length ≤ 400) : ∀ (m j k : Nat) (out : List Int), j + m = 256 → Poly out → m < k → ∃ g, chatelainelaw4_low.l0 k x out (j : Int) = some g ∧ Poly g := by
  intro m
  induction m with
  | zero =>
    intro j k out h ho hk
    obtain ⟨k, rfl⟩ : ∃ q, k = q + 1 := ⟨k - 1, by omega⟩
    refine ⟨out, ?_, ho⟩
    simp only [chatelainelaw4_low.l0]
    rw [if_neg (by omega)]
  | succ m ih =>
    intro j k out h ho hk
    obtain ⟨k, rfl⟩ : ∃ q, k = q + 1 := ⟨k - 1, by omega⟩
    by_cases hn : x.length = 0
    · refine ⟨out, ?_, ho⟩
      simp only [chatelainelaw4_low.l0]
      exact ifp (by omega) (ifn (by omega) rfl)
    · have ht : Int.tmod (j : Int) (x.length : Int) = ((j % x.length : Nat) : Int) := by
        rw [tmod_pos (by omega)]; simp
      have hlt : j % x.length < x.length := Nat.mod_lt _ (by omega)
      obtain ⟨e, b1, b2⟩ := low_eq (wrap64 (rd x ((j % x.length : Nat) : Int) + wrap64 ((j : Int) * j))) 3329 (by decide) (by decide)
      have ho1 := ho.1
      generalize IntKind.u64.wrap (wrap64 (rd x ((j % x.length : Nat) : Int) + wrap64 ((j : Int) * j))) % 3329 = v at e b1 b2
      obtain ⟨g, h1, h2⟩ := ih (j + 1) k (out.set j v) (by omega) ⟨by rw [List.length_set]; exact ho1, fun n hn => by
        rw [at_set out j n _ (by omega)]
        by_cases c : n = j
        · rw [if_pos c]; exact ⟨b1, b2⟩
        · rw [if_neg c]; exact ho.2 n hn⟩ (by omega)
      refine ⟨g, ?_, h2⟩
      simp only [chatelainelaw4_low.l0]
      refine ifp (by omega) (ifp (by omega) (ifn (by omega) ?_))
      rw [ht]
      refine ifp (by omega) (ifp (by omega) (bnd e (ifp (by omega) (ifp (by omega) ?_))))
      rw [w64 (n := (j : Int) + 1) (by omega) (by omega), show (j : Int) + 1 = ((j + 1 : Nat) : Int) by omega, Int.toNat_natCast]
      exact h1
theorem at_zeros (n : Nat) (h : n < 256) : at_ (List.replicate 256 (0 : Int)) n = 0 := by
  unfold at_
  rw [List.getD_eq_getElem?_getD, List.getElem?_replicate, if_pos h]; rfl
theorem poly_zeros : Poly (List.replicate 256 (0 : Int)) := ⟨List.length_replicate, fun n hn => by rw [at_zeros n hn]; decide⟩
theorem plow_eq4 (k : Nat) (x : List Int) (hx : x.length ≤ 400) (hk : 300 ≤ k) : ∃ g, chatelainelaw4_low.f k x = some g ∧ Poly g := by
  obtain ⟨g, h1, h2⟩ := low_l0 x hx 256 0 k _ (by omega) poly_zeros (by omega)
  refine ⟨g, ?_, h2⟩
  unfold chatelainelaw4_low.f
  exact ifp (by decide) h1
theorem plow_eq (k : Nat) (x : List Int) (hx : x.length ≤ 300) (hk : 300 ≤ k) : ∃ g, chatelainelaw4_low.f k x = some g ∧ Poly g := plow_eq4 k x (by omega) hk
theorem unit_eq (n : Nat) (h : n < 256) : chatelainelaw4_unit.f (n : Int) = some (ofN (mono n)) := by
  unfold chatelainelaw4_unit.f
  refine ifp (by decide) (bnd rfl (ifp (by omega) (ifp (by rw [List.length_replicate]; omega) ?_)))
  congr 1
  rw [Int.toNat_natCast]
  refine eq_ofN (by rw [List.length_set, List.length_replicate]) fun i hi => ?_
  rw [at_set _ n i _ (by rw [List.length_replicate]; exact h), at_zeros i hi]; rfl
theorem poly_mono (n : Nat) : Poly (ofN (mono n)) := poly_ofN fun i _ => by unfold mono; split <;> decide
theorem poly_ntt (f : Nat → Int) : Poly (ofN (ntt f)) := poly_ofN fun n _ => ntt_bd f n
end Go.Proofs.Ytiphpcehmjcejaa.PolyD
