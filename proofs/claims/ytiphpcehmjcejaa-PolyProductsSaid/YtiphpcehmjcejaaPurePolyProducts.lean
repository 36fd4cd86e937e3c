/- The product of two polys that are carried over, carried back, is the product by hand, where the 256-th power of the unknown is -1. No condition. -/
import Derived.Test.YtiphpcehmjcejaaPPolyx25
import Derived.Test.YtiphpcehmjcejaaPolyAwake
namespace Go.Proofs.Ytiphpcehmjcejaa.Pure
open Go.RowKit Go.Proofs.Ytiphpcehmjcejaa.PPoly Go.Proofs.Ytiphpcehmjcejaa.Pm Go.Proofs.Ytiphpcehmjcejaa.PolyB Go.Proofs.YtiphpcehmjcejaaW.PrintWords Go.Proofs.YtiphpcehmjcejaaW.PrintLast Go.Proofs.YtiphpcehmjcejaaW.PrintMore

theorem inv_congr {f g : Nat → Int} (h : ∀ n, n < 256 → Cg (f n) (g n)) (n : Nat) (hn : n < 256) : Cg (inv f n) (inv g n) := by
  have this : Sc 1 f g := fun q hq => Cg.trans (h q hq) (Cg.of_eq (Int.one_mul _).symm)
  unfold inv
  have h := bwd_sc ln128 (zb 1) (bwd_sc ln64 (zb 2) (bwd_sc ln32 (zb 4) (bwd_sc ln16 (zb 8) (bwd_sc ln8 (zb 16) (bwd_sc ln4 (zb 32) (bwd_sc ln2 (zb 64) this)))))) n hn
  rw [Int.one_mul] at h
  exact Cg.trans (Cg.mod _) (Cg.trans (Cg.mul_right 3303 h) (Cg.mod _).symm)
theorem tim_at (f g : List Int) (n : Nat) (hn : n < 256) : tim (at_ (ofN (ntt (at_ f)))) (at_ (ofN (ntt (at_ g)))) n = tim (ntt (at_ f)) (ntt (at_ g)) n := by
  unfold tim
  by_cases c : n % 2 = 0
  · rw [if_pos c, if_pos c, at_ofN _ n hn, at_ofN _ n hn, at_ofN _ (n + 1) (by omega), at_ofN _ (n + 1) (by omega)]
  · rw [if_neg c, if_neg c, at_ofN _ n hn, at_ofN _ n hn, at_ofN _ (n - 1) (by omega), at_ofN _ (n - 1) (by omega)]
theorem poly_set {g : List Int} (hg : Poly g) (a : Nat) (v : Int) (ha : a < 256) (hv : 0 ≤ v ∧ v < 3329) : Poly (g.set a v) :=
  ⟨by rw [List.length_set]; exact hg.1, fun n hn => by
    rw [at_set g a n v (by rw [hg.1]; exact ha)]
    by_cases c : n = a
    · rw [if_pos c]; exact hv
    · rw [if_neg c]; exact hg.2 n hn⟩
def kn (i n : Nat) : Nat := if i ≤ n then n - i else n + 256 - i
theorem prods_add (w v t : Int) : (w % 3329 + t % 3329) % 3329 = (w + v) % 3329 ↔ Cg t v := by
  constructor
  · intro h; unfold Cg; omega
  · intro h; unfold Cg at h; omega
/-- One row: a number of the second poly times the first one. -/
theorem prods_l2 (f g : List Int) (hf : Poly f) (hg : Poly g) (i : Nat) (hi : i < 256) (W : Nat → Int) (hnz : at_ g i ≠ 0) : ∀ (m j q : Nat) (x : List Int), j + m = 256 → x.length = 256 →
    (∀ n, n < 256 → at_ x n = (W n + if kn i n < j then at_ g i * T i (at_ f) n else 0) % 3329) →
    ∃ y, chatelainelaw4_PolyProducts.l2 (q + (2 * m + 2)) f g x (i : Int) (j : Int) = chatelainelaw4_PolyProducts.l1 q f g y ((i + 1 : Nat) : Int) ∧ y.length = 256 ∧ ∀ n, n < 256 → at_ y n = (W n + at_ g i * T i (at_ f) n) % 3329 := by
  have hf1 := hf.1
  have hg1 := hg.1
  have ei : wrap64 ((i : Int) + 1) = ((i + 1 : Nat) : Int) := by rw [w64 (n := (i : Int) + 1) (by omega) (by omega)]; omega
  intro m
  induction m with
  | zero =>
    intro j q x hj hx h
    obtain rfl : j = 256 := by omega
    refine ⟨x, ?_, hx, fun n hn => by rw [h n hn, if_pos (by unfold kn; split <;> omega)]⟩
    refine (chatelainelaw4_PolyProducts.l2.eq_2 _ _ _ _ _ _).trans (ifn (by decide) ?_)
    refine (chatelainelaw4_PolyProducts.j5.eq_2 _ _ _ _ _ _ _).trans (ifn (by decide) ?_)
    rw [ei]
  | succ m ih =>
    intro j q x hj hx h
    have ej : wrap64 ((j : Int) + 1) = ((j + 1 : Nat) : Int) := by rw [w64 (n := (j : Int) + 1) (by omega) (by omega)]; omega
    have es : wrap64 ((i : Int) + (j : Int)) = ((i + j : Nat) : Int) := by rw [w64 (n := (i : Int) + (j : Int)) (by omega) (by omega)]; omega
    have c1 : (j : Int) < 256 := by omega
    have c2 : (0 : Int) ≤ (i : Int) := Int.natCast_nonneg i
    have c3 : (i : Int) < (g.length : Int) := by omega
    have c4 : (0 : Int) ≤ (j : Int) := Int.natCast_nonneg j
    have c5 : (j : Int) < (f.length : Int) := by omega
    have hT : T i (at_ f) (if i + j < 256 then i + j else i + j - 256) = if i + j < 256 then at_ f j else - at_ f j := by
      unfold T
      by_cases c : i + j < 256
      · rw [if_pos c, if_pos c, if_pos (by omega), show i + j - i = j by omega]
      · rw [if_neg c, if_neg c, if_neg (by omega), show i + j - 256 + 256 - i = j by omega]
    have hkn : kn i (if i + j < 256 then i + j else i + j - 256) = j := by
      unfold kn
      by_cases c : i + j < 256
      · rw [if_pos c, if_pos (by omega)]; omega
      · rw [if_neg c, if_neg (by omega)]; omega
    have hnext : ∀ v : Int, v = (W (if i + j < 256 then i + j else i + j - 256) + at_ g i * T i (at_ f) (if i + j < 256 then i + j else i + j - 256)) % 3329 →
        ∃ y, chatelainelaw4_PolyProducts.l2 (q + (2 * m + 2)) f g (x.set (if i + j < 256 then i + j else i + j - 256) v) (i : Int) ((j + 1 : Nat) : Int) = chatelainelaw4_PolyProducts.l1 q f g y ((i + 1 : Nat) : Int) ∧ y.length = 256 ∧ ∀ n, n < 256 → at_ y n = (W n + at_ g i * T i (at_ f) n) % 3329 := by
      intro v hv
      have hn0 : (if i + j < 256 then i + j else i + j - 256) < 256 := by split <;> omega
      refine ih (j + 1) q _ (by omega) (by rw [List.length_set]; exact hx) fun n hn => ?_
      rw [at_set x _ n v (by rw [hx]; exact hn0)]
      by_cases e : n = (if i + j < 256 then i + j else i + j - 256)
      · rw [if_pos e, hv, ← e, if_pos (by rw [e, hkn]; omega)]
      · rw [if_neg e, h n hn]
        have : (kn i n < j + 1) ↔ (kn i n < j) := by unfold kn; split at e <;> split <;> omega
        by_cases d : kn i n < j
        · rw [if_pos d, if_pos (this.2 d)]
        · rw [if_neg d, if_neg (fun z => d (this.1 z))]
    have hxn : at_ x (if i + j < 256 then i + j else i + j - 256) = W (if i + j < 256 then i + j else i + j - 256) % 3329 := by
      have h1 := h (if i + j < 256 then i + j else i + j - 256) (by split <;> omega)
      rw [hkn, if_neg (Nat.lt_irrefl j), Int.add_zero] at h1
      exact h1
    rw [show q + (2 * (m + 1) + 2) = q + (2 * m + 2) + 1 + 1 by omega]
    have step : chatelainelaw4_PolyProducts.l2 (q + (2 * m + 2) + 1 + 1) f g x (i : Int) (j : Int) = chatelainelaw4_PolyProducts.j5 (q + (2 * m + 2) + 1) f g x (i : Int) (j : Int) true := by
      refine (chatelainelaw4_PolyProducts.l2.eq_2 _ _ _ _ _ _).trans (ifp c1 (ifp c2 (ifp c3 ?_)))
      rw [rd_at, show (at_ g i != 0) = true from bne_iff_ne.2 hnz]
    rw [step]
    have step2 : chatelainelaw4_PolyProducts.j5 (q + (2 * m + 2) + 1) f g x (i : Int) (j : Int) true = chatelainelaw4_PolyProducts.l2 (q + (2 * m + 2)) f g (x.set (if i + j < 256 then i + j else i + j - 256) ((W (if i + j < 256 then i + j else i + j - 256) + at_ g i * T i (at_ f) (if i + j < 256 then i + j else i + j - 256)) % 3329)) (i : Int) ((j + 1 : Nat) : Int) := by
      refine (chatelainelaw4_PolyProducts.j5.eq_2 _ _ _ _ _ _ _).trans (ifp rfl (ifp c4 (ifp c5 (ifp c2 (ifp c3 (bnd (mul_eq _ _) ?_))))))
      rw [es, ej, rd_at f j, rd_at g i, hT]
      by_cases c : i + j < 256
      · rw [if_pos c] at hxn ⊢
        rw [if_pos c]
        have c6 : ((i + j : Nat) : Int) < 256 := by omega
        have c7 : (0 : Int) ≤ ((i + j : Nat) : Int) := Int.natCast_nonneg _
        have c8 : ((i + j : Nat) : Int) < (x.length : Int) := by omega
        refine ifp c6 (ifp c7 (ifp c8 (bnd (add_eq _ _) ?_)))
        rw [rd_at x (i + j), Int.toNat_natCast, hxn, (prods_add (W (i + j)) (at_ g i * at_ f j) (at_ f j * at_ g i)).2 (Cg.of_eq (Int.mul_comm _ _))]
      · rw [if_neg c] at hxn ⊢
        rw [if_neg c]
        have es2 : wrap64 (((i + j : Nat) : Int) - 256) = ((i + j - 256 : Nat) : Int) := by rw [w64 (n := ((i + j : Nat) : Int) - 256) (by omega) (by omega)]; omega
        have c6 : ¬ ((i + j : Nat) : Int) < 256 := by omega
        have c7 : (0 : Int) ≤ ((i + j - 256 : Nat) : Int) := Int.natCast_nonneg _
        have c8 : ((i + j - 256 : Nat) : Int) < (x.length : Int) := by omega
        rw [es2]
        refine ifn c6 (ifp c7 (ifp c8 (bnd (sub_eq _ _) ?_)))
        rw [rd_at x (i + j - 256), Int.toNat_natCast, hxn]
        have e : (W (i + j - 256) % 3329 - at_ f j * at_ g i % 3329) % 3329 = (W (i + j - 256) + at_ g i * -at_ f j) % 3329 := by
          have e1 : at_ g i * -at_ f j = -(at_ f j * at_ g i) := by rw [Int.mul_neg, Int.mul_comm]
          rw [e1]; generalize at_ f j * at_ g i = p; omega
        rw [e]
    rw [step2]
    exact hnext _ rfl
/-- All rows, and what is compared behind them. -/
theorem prods_l1 (f g : List Int) (hf : Poly f) (hg : Poly g) : ∀ (m i k : Nat) (x : List Int), i + m = 256 → x.length = 256 →
    (∀ n, n < 256 → at_ x n = sum (fun a => at_ g a * T a (at_ f) n) i % 3329) → 515 * m + 9000 < k → chatelainelaw4_PolyProducts.l1 k f g x (i : Int) = some true := by
  have hg1 := hg.1
  intro m
  induction m with
  | zero =>
    intro i k x hi hx h hk
    obtain rfl : i = 256 := by omega
    obtain ⟨k, rfl⟩ : ∃ q, k = q + 1 := ⟨k - 1, by omega⟩
    refine (chatelainelaw4_PolyProducts.l1.eq_2 _ _ _ _ _).trans (ifn (by decide) ?_)
    refine bnd (over_eq k f hf (by omega)) (bnd (over_eq k g hg (by omega)) (bnd (times_eq k _ _ (poly_ntt _) (poly_ntt _) (by omega)) (bnd (back_eq k _ (poly_ofN fun n _ => tim_bd _ _ n) (by omega)) (bnd (same_yes k _ _ ?_ (by rw [ofN_length]; decide) (by omega)) (ifp rfl (bnd (pawake_eq k (by omega)) rfl))))))
    rw [eq_ofN hx h]
    refine ofN_congr fun n hn => Cg.eq ?_ (inv_bd _ n) (em _)
    refine Cg.trans (inv_congr (g := ntt (fun j => sum (fun a => at_ g a * T a (at_ f) j) 256)) (fun a ha => ?_) n hn) (Cg.trans (inv_ntt _ n hn) (Cg.mod _).symm)
    rw [at_ofN _ a ha, tim_at f g a ha]
    exact tim_turns (at_ f) (at_ g) a ha
  | succ m ih =>
    intro i k x hi hx h hk
    obtain ⟨k, rfl⟩ : ∃ q, k = q + (2 * 256 + 2) + 1 := ⟨k - 515, by omega⟩
    have hi' : i < 256 := by omega
    refine (chatelainelaw4_PolyProducts.l1.eq_2 _ _ _ _ _).trans (ifp (by omega) ?_)
    by_cases hz : at_ g i = 0
    · have ei : wrap64 ((i : Int) + 1) = ((i + 1 : Nat) : Int) := by rw [w64 (n := (i : Int) + 1) (by omega) (by omega)]; omega
      refine (chatelainelaw4_PolyProducts.l2.eq_2 _ _ _ _ _ _).trans (ifp (by decide) (ifp (by omega) (ifp (by omega) ?_)))
      rw [rd_at, hz]
      refine (chatelainelaw4_PolyProducts.j5.eq_2 _ _ _ _ _ _ _).trans (ifn (by decide) ?_)
      rw [ei]
      refine ih (i + 1) (k + 512) x (by omega) hx (fun n hn => ?_) (by omega)
      rw [h n hn]
      show _ = (sum (fun a => at_ g a * T a (at_ f) n) i + at_ g i * T i (at_ f) n) % 3329
      rw [hz, Int.zero_mul, Int.add_zero]
    · obtain ⟨y, y1, y2, y3⟩ := prods_l2 f g hf hg i hi' (fun n => sum (fun a => at_ g a * T a (at_ f) n) i) hz 256 0 k x (by omega) hx (fun n hn => by rw [if_neg (by omega), Int.add_zero]; exact h n hn)
      refine Eq.trans y1 (ih (i + 1) k y (by omega) y2 (fun n hn => y3 n hn) (by omega))
theorem prods_l0 (f a b : List Int) (hf : Poly f) (ha : a.length ≤ 4) : ∀ (m i k : Nat) (g : List Int), i + m = a.length → Poly g → 2 * m + 150000 < k →
    chatelainelaw4_PolyProducts.l0 k a b f g (List.replicate 256 0) (i : Int) = some true := by
  have hend : ∀ (k : Nat) (g : List Int) (i : Int), Poly g → 149000 < k → chatelainelaw4_PolyProducts.j2 k a b f g (List.replicate 256 0) i false = some true := by
    intro k g i hg hk
    obtain ⟨k, rfl⟩ : ∃ q, k = q + 1 := ⟨k - 1, by omega⟩
    refine (chatelainelaw4_PolyProducts.j2.eq_2 _ _ _ _ _ _ _ _).trans (ifn (by decide) ?_)
    exact prods_l1 f g hf hg 256 0 k _ (by omega) List.length_replicate (fun n hn => by rw [at_zeros n hn]; rfl) (by omega)
  intro m
  induction m with
  | zero =>
    intro i k g hi hg hk
    obtain ⟨k, rfl⟩ : ∃ q, k = q + 1 := ⟨k - 1, by omega⟩
    exact (chatelainelaw4_PolyProducts.l0.eq_2 _ _ _ _ _ _ _).trans (ifn (by omega) (hend k g _ hg (by omega)))
  | succ m ih =>
    intro i k g hi hg hk
    obtain ⟨k, rfl⟩ : ∃ q, k = q + 1 := ⟨k - 1, by omega⟩
    have c1 : (i : Int) < (a.length : Int) := by omega
    have c2 : (0 : Int) ≤ (i : Int) := Int.natCast_nonneg i
    refine (chatelainelaw4_PolyProducts.l0.eq_2 _ _ _ _ _ _ _).trans (ifp c1 ?_)
    by_cases hb : (i : Int) < (b.length : Int)
    · rw [decide_eq_true hb]
      obtain ⟨k, rfl⟩ : ∃ q, k = q + 1 := ⟨k - 1, by omega⟩
      have ei : wrap64 ((i : Int) + 1) = ((i + 1 : Nat) : Int) := by rw [w64 (n := (i : Int) + 1) (by omega) (by omega)]; omega
      obtain ⟨e, p0, p1⟩ := low_eq (rd a i) 256 (by decide) (by decide)
      obtain ⟨e', p2, p3⟩ := low_eq (rd b i) 3329 (by decide) (by decide)
      have hl := hg.1
      refine (chatelainelaw4_PolyProducts.j2.eq_2 _ _ _ _ _ _ _ _).trans (ifp rfl (ifp c2 (ifp c1 (bnd e (ifp hb (bnd e' (ifp p0 (ifp (by omega) ?_))))))))
      rw [ei]
      exact ih (i + 1) k _ (by omega) (poly_set hg _ _ (by omega) ⟨p2, p3⟩) (by omega)
    · rw [decide_eq_false hb]
      exact hend k g _ hg (by omega)
theorem PolyProducts : chatelainelaw4_PolyProducts.Pure := by
  intro x a b _ _ _ _ _ _ _ _ _
  refine ⟨200000, ?_⟩
  unfold chatelainelaw4_PolyProducts.f
  have hj : ∀ c : Bool, (c = false → x.length ≤ 300 ∧ a.length ≤ 4) → chatelainelaw4_PolyProducts.j0 200000 x a b c = some true := by
    intro c hc
    refine (chatelainelaw4_PolyProducts.j0.eq_2 _ _ _ _ _).trans ?_
    cases c with
    | true => exact ifp rfl (bnd (pawake_eq _ (by omega)) rfl)
    | false =>
      obtain ⟨f, f1, f2⟩ := plow_eq 199999 x (hc rfl).1 (by omega)
      exact ifn (by decide) (bnd f1 (ifp (by decide) (prods_l0 f a b f2 (hc rfl).2 a.length 0 199999 _ (by omega) poly_zeros (by have := (hc rfl).2; omega))))
  by_cases hx : (x.length : Int) > 300
  · exact ifp hx (hj true (fun h => by cases h))
  · refine ifn hx (hj _ fun h => ?_)
    have := of_decide_eq_false h
    omega
end Go.Proofs.Ytiphpcehmjcejaa.Pure
