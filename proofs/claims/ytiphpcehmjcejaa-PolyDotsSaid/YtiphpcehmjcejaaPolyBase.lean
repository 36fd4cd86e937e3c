import Derived.Test.YtiphpcehmjcejaaPPDotx1
import Derived.Test.YtiphpcehmjcejaaPPDotx2
import Derived.Test.YtiphpcehmjcejaaPPDotx3
import Derived.Test.YtiphpcehmjcejaaPPDotx4
import Derived.Test.YtiphpcehmjcejaaPPDotx5
import Derived.Test.YtiphpcehmjcejaaPolyRing
import Derived.Test.YtiphpcehmjcejaaPolyMath
/- What the printed functions of package poly come to: the layers of PolyMath. -/
namespace Go.Proofs.Ytiphpcehmjcejaa.PolyD
open Go.RowKit Go.Proofs.Ytiphpcehmjcejaa.PPDot Go.Proofs.Ytiphpcehmjcejaa.Pm Go.Proofs.YtiphpcehmjcejaaW.PrintWords Go.Proofs.YtiphpcehmjcejaaW.PrintLast Go.Proofs.YtiphpcehmjcejaaW.PrintMore

def at_ (x : List Int) (n : Nat) : Int := x.getD n 0
theorem rd_at (x : List Int) (n : Nat) : rd x (n : Int) = at_ x n := by unfold rd at_; rw [Int.toNat_natCast]
theorem at_set (x : List Int) (a n : Nat) (v : Int) (h : a < x.length) : at_ (x.set a v) n = if n = a then v else at_ x n := by
  unfold at_
  rw [List.getD_eq_getElem?_getD, List.getD_eq_getElem?_getD, List.getElem?_set]
  by_cases e : a = n
  · subst e; rw [if_pos rfl, if_pos h, if_pos rfl]; rfl
  · rw [if_neg e, if_neg (fun e' => e e'.symm)]
def Poly (x : List Int) : Prop := x.length = 256 ∧ ∀ n, n < 256 → 0 ≤ at_ x n ∧ at_ x n < 3329
def ofN (f : Nat → Int) : List Int := (List.range 256).map f
theorem ofN_length (f : Nat → Int) : (ofN f).length = 256 := by unfold ofN; rw [List.length_map, List.length_range]
theorem at_ofN (f : Nat → Int) (n : Nat) (h : n < 256) : at_ (ofN f) n = f n := by
  unfold at_ ofN
  rw [List.getD_eq_getElem?_getD, List.getElem?_map, List.getElem?_range h]; rfl
theorem eq_ofN {x : List Int} {f : Nat → Int} (hl : x.length = 256) (h : ∀ n, n < 256 → at_ x n = f n) : x = ofN f := by
  apply List.ext_getElem
  · rw [hl, ofN_length]
  · intro n h1 h2
    have h3 := h n (by omega)
    have h4 := at_ofN f n (by omega)
    unfold at_ at h3 h4
    rw [List.getD_eq_getElem?_getD, List.getElem?_eq_getElem h1] at h3
    rw [List.getD_eq_getElem?_getD, List.getElem?_eq_getElem h2] at h4
    simp only [Option.getD_some] at h3 h4
    rw [h3, h4]
theorem ofN_congr {f g : Nat → Int} (h : ∀ n, n < 256 → f n = g n) : ofN f = ofN g := eq_ofN (ofN_length f) fun n hn => by rw [at_ofN f n hn, h n hn]
theorem ofN_at {x : List Int} (h : x.length = 256) : x = ofN (at_ x) := eq_ofN h fun _ _ => rfl
theorem poly_ofN {f : Nat → Int} (h : ∀ n, n < 256 → 0 ≤ f n ∧ f n < 3329) : Poly (ofN f) := ⟨ofN_length f, fun n hn => by rw [at_ofN f n hn]; exact h n hn⟩
theorem poly_ext {x y : List Int} (hx : Poly x) (hy : Poly y) (h : ∀ n, n < 256 → Cg (at_ x n) (at_ y n)) : x = y := by
  rw [ofN_at hx.1, ofN_at hy.1]
  exact ofN_congr fun n hn => Cg.eq (h n hn) (hx.2 n hn) (hy.2 n hn)

/-! ### May, Clone, SameInts -/
theorem index_l0 (x : List Int) (hx : x.length ≤ 1000) : ∀ (m i k : Nat), i + m = x.length → m < k →
    ∃ r, slices_IndexFunc_int_int_at_poly_May_1.l0 k x (x.length : Int) (i : Int) = some r ∧ (0 ≤ r ↔ ∃ n, i ≤ n ∧ n < x.length ∧ ¬ (0 ≤ at_ x n ∧ at_ x n < 3329)) := by
  intro m
  induction m with
  | zero =>
    intro i k h hk
    obtain ⟨k, rfl⟩ : ∃ q, k = q + 1 := ⟨k - 1, by omega⟩
    refine ⟨-1, ?_, ?_⟩
    · simp only [slices_IndexFunc_int_int_at_poly_May_1.l0]; rw [if_neg (by omega)]
    · constructor
      · intro h; omega
      · rintro ⟨n, h1, h2, _⟩; omega
  | succ m ih =>
    intro i k h hk
    obtain ⟨k, rfl⟩ : ∃ q, k = q + 1 := ⟨k - 1, by omega⟩
    by_cases hb : 0 ≤ at_ x i ∧ at_ x i < 3329
    · obtain ⟨r, h1, h2⟩ := ih (i + 1) k (by omega) (by omega)
      refine ⟨r, ?_, h2.trans ?_⟩
      · simp only [slices_IndexFunc_int_int_at_poly_May_1.l0]
        refine ifp (by omega) (ifp (by omega) (ifp (by omega) ?_))
        rw [rd_at]
        refine bnd (x := false) ?_ ?_
        · unfold poly_May_1.f
          rw [if_neg (by omega), decide_eq_false (by omega)]
        · rw [if_neg (by decide), w64 (by omega) (by omega), show (i : Int) + 1 = ((i + 1 : Nat) : Int) by omega]; exact h1
      · constructor
        · rintro ⟨n, q1, q2, q3⟩; exact ⟨n, by omega, q2, q3⟩
        · rintro ⟨n, q1, q2, q3⟩
          refine ⟨n, ?_, q2, q3⟩
          by_cases e : n = i
          · subst e; exact absurd hb q3
          · omega
    · refine ⟨i, ?_, ?_⟩
      · simp only [slices_IndexFunc_int_int_at_poly_May_1.l0]
        refine ifp (by omega) (ifp (by omega) (ifp (by omega) ?_))
        rw [rd_at]
        refine bnd (x := true) ?_ (ifp rfl rfl)
        unfold poly_May_1.f
        by_cases h0 : at_ x i < 0
        · rw [if_pos h0]
        · rw [if_neg h0, decide_eq_true (by omega)]
      · exact ⟨fun _ => ⟨i, by omega, by omega, hb⟩, fun _ => by omega⟩
theorem may_yes (k : Nat) (x : List Int) (h : Poly x) (hk : 300 ≤ k) : poly_May.f k x = some true := by
  obtain ⟨h1, h2⟩ := h
  obtain ⟨r, q1, q2⟩ := index_l0 x (by omega) 256 0 k (by omega) (by omega)
  unfold poly_May.f slices_ContainsFunc_int_int_at_poly_May_1.f slices_IndexFunc_int_int_at_poly_May_1.f
  refine ifp (by omega) (bnd (x := false) (bnd q1 ?_) rfl)
  rw [decide_eq_false]
  intro h
  obtain ⟨n, _, c, d⟩ := q2.mp h
  exact d (h2 n (by omega))
theorem may_no (k : Nat) (x : List Int) (h : ¬ Poly x) (hk : 300 ≤ k) : poly_May.f k x = some false := by
  unfold poly_May.f slices_ContainsFunc_int_int_at_poly_May_1.f slices_IndexFunc_int_int_at_poly_May_1.f
  by_cases hl : x.length = 256
  · obtain ⟨r, q1, q2⟩ := index_l0 x (by omega) 256 0 k (by omega) (by omega)
    refine ifp (by omega) (bnd (x := true) (bnd q1 ?_) rfl)
    rw [decide_eq_true]
    refine q2.mpr ?_
    apply Classical.byContradiction
    intro hc
    refine h ⟨hl, fun n hn => Classical.byContradiction fun hb => hc ⟨n, by omega, by omega, hb⟩⟩
  · exact ifn (by omega) rfl
theorem clone_eq (x : List Int) (h : x.length ≤ 1000) : slices_Clone_int_int.f x = some x := by
  unfold slices_Clone_int_int.f
  refine bnd rfl (ifp ?_ ?_)
  · simp only [List.length_nil]; omega
  · simp
theorem same_l0 (x y : List Int) (hl : x.length = y.length) (hx : x.length ≤ 1000) : ∀ (m i k : Nat), i + m = x.length → (∀ n, n < i → at_ x n = at_ y n) → m < k →
    chatelainelaw0_SameInts.l0 k x y (i : Int) = some (decide (x = y)) := by
  intro m
  induction m with
  | zero =>
    intro i k h he hk
    obtain ⟨k, rfl⟩ : ∃ q, k = q + 1 := ⟨k - 1, by omega⟩
    simp only [chatelainelaw0_SameInts.l0]
    rw [if_neg (by omega), decide_eq_true]
    apply List.ext_getElem hl
    intro n h1 h2
    have h3 := he n (by omega)
    unfold at_ at h3
    rw [List.getD_eq_getElem?_getD, List.getD_eq_getElem?_getD, List.getElem?_eq_getElem h1, List.getElem?_eq_getElem h2] at h3
    exact h3
  | succ m ih =>
    intro i k h he hk
    obtain ⟨k, rfl⟩ : ∃ q, k = q + 1 := ⟨k - 1, by omega⟩
    simp only [chatelainelaw0_SameInts.l0]
    refine ifp (by omega) (ifp (by omega) (ifp (by omega) ?_))
    rw [rd_at, rd_at]
    by_cases e : at_ x i = at_ y i
    · refine ifp e ?_
      rw [w64 (by omega) (by omega), show (i : Int) + 1 = ((i + 1 : Nat) : Int) by omega]
      exact ih (i + 1) k (by omega) (fun n hn => by by_cases e2 : n = i; · rw [e2]; exact e
                                                    · exact he n (by omega)) (by omega)
    · refine ifn e ?_
      rw [decide_eq_false]
      intro c; exact e (by rw [c])
theorem same_eq (k : Nat) (x y : List Int) (hx : x.length ≤ 1000) (hk : 1001 ≤ k) : chatelainelaw0_SameInts.f k x y = some (decide (x = y)) := by
  unfold chatelainelaw0_SameInts.f
  by_cases hl : x.length = y.length
  · refine ifp (by omega) ?_
    exact same_l0 x y hl hx x.length 0 k (by omega) (fun n hn => by omega) (by omega)
  · refine ifn (by omega) ?_
    rw [decide_eq_false]
    intro c; exact hl (by rw [c])
theorem same_yes (k : Nat) (x y : List Int) (h : x = y) (hx : x.length ≤ 1000) (hk : 1001 ≤ k) : chatelainelaw0_SameInts.f k x y = some true := by
  rw [same_eq k x y hx hk, decide_eq_true h]
theorem root_rt (k : Nat) (i : Nat) (hk : 71 < k) : ring_Root.f k (i : Int) = some (rt i) := by
  rw [root_eq k _ hk]
  have : rev7 (i : Int) = (rv i : Int) := by unfold rev7 rv; omega
  rw [this, Int.toNat_natCast]
  congr 1

/-! ### Over -/
theorem over_l2 (g F : Nat → Int) (L s : Nat) (z i : Int) (hL : 1 ≤ L) (hs : s + 2 * L ≤ 256) (hz : 0 ≤ z ∧ z < 3329) (hg : ∀ n, n < 256 → 0 ≤ g n ∧ g n < 3329)
    (hF : ∀ t, t < L → F (s + t) = (g (s + t) + z * g (s + t + L)) % 3329 ∧ F (s + t + L) = (g (s + t) - z * g (s + t + L)) % 3329) :
    ∀ (m j k : Nat) (x : List Int), j + m = s + L → s ≤ j → x.length = 256 → (∀ n, n < 256 → at_ x n = if n < j ∨ (s + L ≤ n ∧ n < j + L) then F n else g n) → m < k →
      ∃ x', poly_Over.l2 k x i L s z j = poly_Over.l1 (k - m - 1) x' i L ((s + 2 * L : Nat) : Int) ∧ x'.length = 256 ∧ ∀ n, n < 256 → at_ x' n = if n < s + 2 * L then F n else g n := by
  intro m
  induction m with
  | zero =>
    intro j k x h hj hl hx hk
    obtain ⟨k, rfl⟩ : ∃ q, k = q + 1 := ⟨k - 1, by omega⟩
    refine ⟨x, ?_, hl, fun n hn => ?_⟩
    · simp only [poly_Over.l2]
      rw [w64 (n := (s : Int) + L) (by omega) (by omega), if_neg (by omega), w64 (n := 2 * (L : Int)) (by omega) (by omega), w64 (n := (s : Int) + 2 * L) (by omega) (by omega)]
      simp
    · rw [hx n hn]
      by_cases c : n < s + 2 * L
      · rw [if_pos c, if_pos (by omega)]
      · rw [if_neg c, if_neg (by omega)]
  | succ m ih =>
    intro j k x h hj hl hx hk
    obtain ⟨k, rfl⟩ : ∃ q, k = q + 1 := ⟨k - 1, by omega⟩
    have ha : at_ x j = g j := by rw [hx j (by omega), if_neg (by omega)]
    have hb : at_ x (j + L) = g (j + L) := by rw [hx (j + L) (by omega), if_neg (by omega)]
    have hga := hg j (by omega)
    have hgb := hg (j + L) (by omega)
    have hm := mul_bd hz hgb
    have ht := em (z * g (j + L))
    obtain ⟨F1, F2⟩ := hF (j - s) (by omega)
    rw [show s + (j - s) = j by omega] at F1 F2
    -- the step
    have hstep : poly_Over.l2 (k + 1) x i L s z j = poly_Over.l2 k ((x.set (j + L) (F (j + L))).set j (F j)) i L s z ((j + 1 : Nat) : Int) := by
      simp only [poly_Over.l2]
      rw [w64 (n := (s : Int) + L) (by omega) (by omega), w64 (n := (j : Int) + L) (by omega) (by omega), show (j : Int) + L = ((j + L : Nat) : Int) by omega, rd_at, rd_at, ha, hb]
      refine ifp (by omega) (ifp (by omega) (ifp (by omega) (ifp (by omega) (ifp (by omega) ?_))))
      rw [w64 (n := z * g (j + L)) (by omega) (by omega), tmod_pos hm.1, w64 (n := g j + 3329) (by omega) (by omega), w64 (n := g j + 3329 - z * g (j + L) % 3329) (by omega) (by omega), tmod_pos (a := g j + 3329 - z * g (j + L) % 3329) (by omega), Int.toNat_natCast]
      refine bnd rfl ?_
      have e1 : (g j + 3329 - z * g (j + L) % 3329) % 3329 = F (j + L) := by rw [F2]; omega
      rw [e1, rd_at, at_set x (j + L) j _ (by omega), if_neg (by omega), ha, w64 (n := g j + z * g (j + L) % 3329) (by omega) (by omega), tmod_pos (a := g j + z * g (j + L) % 3329) (by omega), Int.toNat_natCast, w64 (n := (j : Int) + 1) (by omega) (by omega)]
      have e2 : (g j + z * g (j + L) % 3329) % 3329 = F j := by rw [F1]; omega
      rw [e2]; rfl
    obtain ⟨x', h1, h2, h3⟩ := ih (j + 1) k ((x.set (j + L) (F (j + L))).set j (F j)) (by omega) (by omega) (by rw [List.length_set, List.length_set]; exact hl) (fun n hn => by
      rw [at_set _ j n _ (by rw [List.length_set]; omega), at_set x (j + L) n _ (by omega)]
      by_cases c1 : n = j
      · rw [if_pos c1, if_pos (by omega), c1]
      · rw [if_neg c1]
        by_cases c2 : n = j + L
        · rw [if_pos c2, if_pos (by omega), c2]
        · rw [if_neg c2, hx n hn]
          by_cases c3 : n < j ∨ (s + L ≤ n ∧ n < j + L)
          · rw [if_pos c3, if_pos (by omega)]
          · rw [if_neg c3, if_neg (by omega)]) (by omega)
    refine ⟨x', ?_, h2, h3⟩
    rw [hstep, h1, show k - m - 1 = k + 1 - (m + 1) - 1 by omega]
theorem over_l1 (g : Nat → Int) (L i0 : Nat) (hL : 1 ≤ L) (hi : i0 * L = 128) (hg : ∀ n, n < 256 → 0 ≤ g n ∧ g n < 3329)
    (hd : ∀ b t, b < i0 → t < L → (2 * L * b + t) / (2 * L) = b ∧ (2 * L * b + t) % (2 * L) = t ∧ (2 * L * b + t + L) / (2 * L) = b ∧ (2 * L * b + t + L) % (2 * L) = t + L) (hi2 : i0 ≤ 64) :
    ∀ (m b k : Nat) (x : List Int), b + m = i0 → x.length = 256 → (∀ n, n < 256 → at_ x n = if n < 2 * L * b then fwd L (zf i0) g n else g n) → (m + 1) * (L + 2) + 80 < k →
      ∃ x' k', k ≤ k' + (m + 1) * (L + 2) ∧ poly_Over.l1 k x ((i0 + b : Nat) : Int) L ((2 * L * b : Nat) : Int) = poly_Over.l0 k' x' ((2 * i0 : Nat) : Int) (Int.tdiv L 2) ∧ x'.length = 256 ∧ ∀ n, n < 256 → at_ x' n = fwd L (zf i0) g n := by
  intro m
  induction m with
  | zero =>
    intro b k x h hl hx hk
    obtain ⟨k, rfl⟩ : ∃ q, k = q + 1 := ⟨k - 1, by omega⟩
    have hb : b = i0 := by omega
    subst hb
    have h256 : 2 * L * b = 256 := by rw [Nat.mul_comm 2 L, Nat.mul_assoc, Nat.mul_comm L, Nat.mul_assoc, Nat.mul_comm 2, hi]
    have hLb : L ≤ 128 := Nat.le_of_dvd (by decide) ⟨b, by rw [Nat.mul_comm]; exact hi.symm⟩
    refine ⟨x, k, by omega, ?_, hl, fun n hn => by rw [hx n hn, if_pos (by omega)]⟩
    simp only [poly_Over.l1]
    rw [h256, if_neg (by decide), w64 (n := Int.tdiv L 2) (by rw [Int.tdiv_eq_ediv_of_nonneg (by omega)]; omega) (by rw [Int.tdiv_eq_ediv_of_nonneg (by omega)]; omega), show b + b = 2 * b by omega]
  | succ m ih =>
    intro b k x h hl hx hk
    obtain ⟨k, rfl⟩ : ∃ q, k = q + 1 := ⟨k - 1, by omega⟩
    have hbi : b + 1 ≤ i0 := by omega
    have hbl : 2 * L * (b + 1) ≤ 256 := by
      have := Nat.mul_le_mul_left (2 * L) hbi
      have h256 : 2 * L * i0 = 256 := by rw [Nat.mul_comm 2 L, Nat.mul_assoc, Nat.mul_comm L, Nat.mul_assoc, Nat.mul_comm 2, hi]
      omega
    have hs : 2 * L * b + 2 * L ≤ 256 := by rw [Nat.mul_add, Nat.mul_one] at hbl; exact hbl
    have hexp : (m + 1 + 1) * (L + 2) = (m + 1) * (L + 2) + (L + 2) := by rw [Nat.add_mul (m + 1), Nat.one_mul]
    obtain ⟨x1, h1, h2, h3⟩ := over_l2 g (fwd L (zf i0) g) L (2 * L * b) (rt (i0 + b)) ((i0 + (b + 1) : Nat) : Int) hL hs (rt_bd _) hg (fun t ht => by
      obtain ⟨d1, d2, d3, d4⟩ := hd b t (by omega) ht
      constructor
      · unfold fwd; rw [d1, d2, if_pos ht]; rfl
      · unfold fwd; rw [d3, d4, if_neg (by omega), show 2 * L * b + t + L - L = 2 * L * b + t by omega]; rfl) L (2 * L * b) k x (by omega) (by omega) hl (fun n hn => by
      rw [hx n hn]
      by_cases c : n < 2 * L * b
      · rw [if_pos c, if_pos (by omega)]
      · rw [if_neg c, if_neg (by omega)]) (by omega)
    obtain ⟨x2, k2, q0, q1, q2, q3⟩ := ih (b + 1) (k - L - 1) x1 (by omega) h2 (fun n hn => by rw [h3 n hn, Nat.mul_add, Nat.mul_one]) (by omega)
    refine ⟨x2, k2, by omega, ?_, q2, q3⟩
    simp only [poly_Over.l1]
    refine ifp (by omega) (bnd (root_rt k (i0 + b) (by omega)) ?_)
    rw [w64 (n := ((i0 + b : Nat) : Int) + 1) (by omega) (by omega), show ((i0 + b : Nat) : Int) + 1 = ((i0 + (b + 1) : Nat) : Int) by omega]
    rw [h1, show 2 * L * b + 2 * L = 2 * L * (b + 1) by rw [Nat.mul_add, Nat.mul_one]]
    exact q1
theorem over_layer (g : Nat → Int) (L i0 : Nat) (hL : 2 ≤ L) (hi : i0 * L = 128) (hg : ∀ n, n < 256 → 0 ≤ g n ∧ g n < 3329)
    (hd : ∀ b t, b < i0 → t < L → (2 * L * b + t) / (2 * L) = b ∧ (2 * L * b + t) % (2 * L) = t ∧ (2 * L * b + t + L) / (2 * L) = b ∧ (2 * L * b + t + L) % (2 * L) = t + L) (hi2 : i0 ≤ 64)
    (k : Nat) (x : List Int) (hl : x.length = 256) (hx : ∀ n, n < 256 → at_ x n = g n) (hk : 600 < k) :
    ∃ x' k', k ≤ k' + 400 ∧ poly_Over.l0 k x (i0 : Int) L = poly_Over.l0 k' x' ((2 * i0 : Nat) : Int) ((L / 2 : Nat) : Int) ∧ x'.length = 256 ∧ ∀ n, n < 256 → at_ x' n = fwd L (zf i0) g n := by
  obtain ⟨k, rfl⟩ : ∃ q, k = q + 1 := ⟨k - 1, by omega⟩
  have hfuel : (i0 + 1) * (L + 2) ≤ 390 := by
    rw [Nat.add_mul, Nat.mul_add, hi]
    have : L ≤ 128 := Nat.le_of_dvd (by decide) ⟨i0, by rw [Nat.mul_comm]; exact hi.symm⟩
    omega
  obtain ⟨x', k', h0, h1, h2, h3⟩ := over_l1 g L i0 (by omega) hi hg hd hi2 i0 0 k x (by omega) hl (fun n hn => by rw [hx n hn, if_neg (by omega)]) (by omega)
  refine ⟨x', k', by omega, ?_, h2, h3⟩
  simp only [poly_Over.l0]
  refine ifp (by omega) ?_
  rw [Nat.mul_zero, Nat.add_zero] at h1
  rw [show Int.tdiv (L : Int) 2 = ((L / 2 : Nat) : Int) by rw [Int.tdiv_eq_ediv_of_nonneg (by omega)]; omega] at h1
  exact h1
theorem over_eq (k : Nat) (x : List Int) (h : Poly x) (hk : 5000 ≤ k) : poly_Over.f k x = some (ofN (ntt (at_ x))) := by
  unfold poly_Over.f
  refine bnd (may_yes k x h (by omega)) (ifp rfl (bnd (clone_eq x (by rw [h.1]; decide)) ?_))
  obtain ⟨x1, k1, a1, b1, c1, d1⟩ := over_layer (at_ x) 128 1 (by decide) rfl h.2 (fun b t hb ht => by omega) (by decide) k x h.1 (fun _ _ => rfl) (by omega)
  obtain ⟨x2, k2, a2, b2, c2, d2⟩ := over_layer _ 64 2 (by decide) rfl (fun n _ => fwd_bd _ _ _ n) (fun b t hb ht => by omega) (by decide) k1 x1 c1 d1 (by omega)
  obtain ⟨x3, k3, a3, b3, c3, d3⟩ := over_layer _ 32 4 (by decide) rfl (fun n _ => fwd_bd _ _ _ n) (fun b t hb ht => by omega) (by decide) k2 x2 c2 d2 (by omega)
  obtain ⟨x4, k4, a4, b4, c4, d4⟩ := over_layer _ 16 8 (by decide) rfl (fun n _ => fwd_bd _ _ _ n) (fun b t hb ht => by omega) (by decide) k3 x3 c3 d3 (by omega)
  obtain ⟨x5, k5, a5, b5, c5, d5⟩ := over_layer _ 8 16 (by decide) rfl (fun n _ => fwd_bd _ _ _ n) (fun b t hb ht => by omega) (by decide) k4 x4 c4 d4 (by omega)
  obtain ⟨x6, k6, a6, b6, c6, d6⟩ := over_layer _ 4 32 (by decide) rfl (fun n _ => fwd_bd _ _ _ n) (fun b t hb ht => by omega) (by decide) k5 x5 c5 d5 (by omega)
  obtain ⟨x7, k7, a7, b7, c7, d7⟩ := over_layer _ 2 64 (by decide) rfl (fun n _ => fwd_bd _ _ _ n) (fun b t hb ht => by omega) (by decide) k6 x6 c6 d6 (by omega)
  have e : poly_Over.l0 k x 1 128 = poly_Over.l0 k7 x7 128 1 := b1.trans (b2.trans (b3.trans (b4.trans (b5.trans (b6.trans b7)))))
  rw [e]
  obtain ⟨k7, rfl⟩ : ∃ q, k7 = q + 1 := ⟨k7 - 1, by omega⟩
  simp only [poly_Over.l0]
  rw [if_neg (by decide), eq_ofN c7 d7]
  rfl
theorem over_no (k : Nat) (x : List Int) (h : ¬ Poly x) (hk : 300 ≤ k) : poly_Over.f k x = some [] := by
  unfold poly_Over.f
  exact bnd (may_no k x h hk) (ifn (by decide) rfl)
theorem ntt_bd (f : Nat → Int) (n : Nat) : 0 ≤ ntt f n ∧ ntt f n < 3329 := fwd_bd _ _ _ n

/-! ### Back -/
theorem back_l2 (g F : Nat → Int) (L s : Nat) (z i : Int) (hL : 1 ≤ L) (hs : s + 2 * L ≤ 256) (hz : 0 ≤ z ∧ z < 3329) (hg : ∀ n, n < 256 → 0 ≤ g n ∧ g n < 3329)
    (hF : ∀ t, t < L → F (s + t) = (g (s + t) + g (s + t + L)) % 3329 ∧ F (s + t + L) = (z * (g (s + t + L) - g (s + t))) % 3329) :
    ∀ (m j k : Nat) (x : List Int), j + m = s + L → s ≤ j → x.length = 256 → (∀ n, n < 256 → at_ x n = if n < j ∨ (s + L ≤ n ∧ n < j + L) then F n else g n) → m < k →
      ∃ x', poly_Back.l2 k x i L s z j = poly_Back.l1 (k - m - 1) x' i L ((s + 2 * L : Nat) : Int) ∧ x'.length = 256 ∧ ∀ n, n < 256 → at_ x' n = if n < s + 2 * L then F n else g n := by
  intro m
  induction m with
  | zero =>
    intro j k x h hj hl hx hk
    obtain ⟨k, rfl⟩ : ∃ q, k = q + 1 := ⟨k - 1, by omega⟩
    refine ⟨x, ?_, hl, fun n hn => ?_⟩
    · simp only [poly_Back.l2]
      rw [w64 (n := (s : Int) + L) (by omega) (by omega), if_neg (by omega), w64 (n := 2 * (L : Int)) (by omega) (by omega), w64 (n := (s : Int) + 2 * L) (by omega) (by omega)]
      simp
    · rw [hx n hn]
      by_cases c : n < s + 2 * L
      · rw [if_pos c, if_pos (by omega)]
      · rw [if_neg c, if_neg (by omega)]
  | succ m ih =>
    intro j k x h hj hl hx hk
    obtain ⟨k, rfl⟩ : ∃ q, k = q + 1 := ⟨k - 1, by omega⟩
    have ha : at_ x j = g j := by rw [hx j (by omega), if_neg (by omega)]
    have hb : at_ x (j + L) = g (j + L) := by rw [hx (j + L) (by omega), if_neg (by omega)]
    have hga := hg j (by omega)
    have hgb := hg (j + L) (by omega)
    obtain ⟨F1, F2⟩ := hF (j - s) (by omega)
    rw [show s + (j - s) = j by omega] at F1 F2
    have hstep : poly_Back.l2 (k + 1) x i L s z j = poly_Back.l2 k ((x.set j (F j)).set (j + L) (F (j + L))) i L s z ((j + 1 : Nat) : Int) := by
      simp only [poly_Back.l2]
      rw [w64 (n := (s : Int) + L) (by omega) (by omega), w64 (n := (j : Int) + L) (by omega) (by omega), show (j : Int) + L = ((j + L : Nat) : Int) by omega, rd_at, rd_at, ha, hb]
      refine ifp (by omega) (ifp (by omega) (ifp (by omega) (ifp (by omega) (ifp (by omega) ?_))))
      rw [w64 (n := g j + g (j + L)) (by omega) (by omega), tmod_pos (a := g j + g (j + L)) (by omega), Int.toNat_natCast]
      refine bnd rfl ?_
      rw [← F1, rd_at, at_set x j (j + L) _ (by omega), if_neg (by omega), hb, w64 (n := g (j + L) + 3329) (by omega) (by omega), w64 (n := g (j + L) + 3329 - g j) (by omega) (by omega)]
      have hm : 0 ≤ z * (g (j + L) + 3329 - g j) ∧ z * (g (j + L) + 3329 - g j) ≤ 3329 * 6658 := ⟨Int.mul_nonneg hz.1 (by omega), Int.mul_le_mul (by omega) (by omega) (by omega) (by omega)⟩
      rw [w64 (n := z * (g (j + L) + 3329 - g j)) (by omega) (by omega), tmod_pos hm.1, Int.toNat_natCast, w64 (n := (j : Int) + 1) (by omega) (by omega)]
      have e1 : z * (g (j + L) + 3329 - g j) % 3329 = F (j + L) := by
        rw [F2, show g (j + L) + 3329 - g j = (g (j + L) - g j) + 3329 by omega, Int.mul_add, Int.mul_comm z 3329, Int.add_mul_emod_self_left]
      rw [e1]; rfl
    obtain ⟨x', h1, h2, h3⟩ := ih (j + 1) k ((x.set j (F j)).set (j + L) (F (j + L))) (by omega) (by omega) (by rw [List.length_set, List.length_set]; exact hl) (fun n hn => by
      rw [at_set _ (j + L) n _ (by rw [List.length_set]; omega), at_set x j n _ (by omega)]
      by_cases c1 : n = j + L
      · rw [if_pos c1, if_pos (by omega), c1]
      · rw [if_neg c1]
        by_cases c2 : n = j
        · rw [if_pos c2, if_pos (by omega), c2]
        · rw [if_neg c2, hx n hn]
          by_cases c3 : n < j ∨ (s + L ≤ n ∧ n < j + L)
          · rw [if_pos c3, if_pos (by omega)]
          · rw [if_neg c3, if_neg (by omega)]) (by omega)
    refine ⟨x', ?_, h2, h3⟩
    rw [hstep, h1, show k - m - 1 = k + 1 - (m + 1) - 1 by omega]
theorem back_l1 (g : Nat → Int) (L i0 : Nat) (hL : 1 ≤ L) (hi : i0 * L = 128) (hg : ∀ n, n < 256 → 0 ≤ g n ∧ g n < 3329)
    (hd : ∀ b t, b < i0 → t < L → (2 * L * b + t) / (2 * L) = b ∧ (2 * L * b + t) % (2 * L) = t ∧ (2 * L * b + t + L) / (2 * L) = b ∧ (2 * L * b + t + L) % (2 * L) = t + L) (hi1 : 1 ≤ i0) (hi2 : i0 ≤ 64) :
    ∀ (m b k : Nat) (x : List Int), b + m = i0 → x.length = 256 → (∀ n, n < 256 → at_ x n = if n < 2 * L * b then bwd L (zb i0) g n else g n) → (m + 1) * (L + 2) + 80 < k →
      ∃ x' k', k ≤ k' + (m + 1) * (L + 2) ∧ poly_Back.l1 k x (2 * i0 - 1 - b : Int) L ((2 * L * b : Nat) : Int) = poly_Back.l0 k' x' ((i0 : Int) - 1) ((2 * L : Nat) : Int) ∧ x'.length = 256 ∧ ∀ n, n < 256 → at_ x' n = bwd L (zb i0) g n := by
  have hLb : L ≤ 128 := Nat.le_of_dvd (by decide) ⟨i0, by rw [Nat.mul_comm]; exact hi.symm⟩
  have h256 : 2 * L * i0 = 256 := by rw [Nat.mul_comm 2 L, Nat.mul_assoc, Nat.mul_comm L, Nat.mul_assoc, Nat.mul_comm 2, hi]
  intro m
  induction m with
  | zero =>
    intro b k x h hl hx hk
    obtain ⟨k, rfl⟩ : ∃ q, k = q + 1 := ⟨k - 1, by omega⟩
    have hb : b = i0 := by omega
    subst hb
    refine ⟨x, k, by omega, ?_, hl, fun n hn => by rw [hx n hn, if_pos (by omega)]⟩
    simp only [poly_Back.l1]
    rw [h256, if_neg (by decide), w64 (n := (L : Int) * 2) (by omega) (by omega), show 2 * (b : Int) - 1 - b = b - 1 by omega, show (L : Int) * 2 = ((2 * L : Nat) : Int) by omega]
  | succ m ih =>
    intro b k x h hl hx hk
    obtain ⟨k, rfl⟩ : ∃ q, k = q + 1 := ⟨k - 1, by omega⟩
    have hbi : b + 1 ≤ i0 := by omega
    have hbl : 2 * L * (b + 1) ≤ 256 := by
      have := Nat.mul_le_mul_left (2 * L) hbi
      omega
    have hs : 2 * L * b + 2 * L ≤ 256 := by rw [Nat.mul_add, Nat.mul_one] at hbl; exact hbl
    have hexp : (m + 1 + 1) * (L + 2) = (m + 1) * (L + 2) + (L + 2) := by rw [Nat.add_mul (m + 1), Nat.one_mul]
    obtain ⟨x1, h1, h2, h3⟩ := back_l2 g (bwd L (zb i0) g) L (2 * L * b) (rt (2 * i0 - 1 - b)) (2 * (i0 : Int) - 1 - (b + 1 : Nat)) hL hs (rt_bd _) hg (fun t ht => by
      obtain ⟨d1, d2, d3, d4⟩ := hd b t (by omega) ht
      constructor
      · unfold bwd; rw [d2, if_pos ht]
      · unfold bwd; rw [d3, d4, if_neg (by omega), show 2 * L * b + t + L - L = 2 * L * b + t by omega]; rfl) L (2 * L * b) k x (by omega) (by omega) hl (fun n hn => by
      rw [hx n hn]
      by_cases c : n < 2 * L * b
      · rw [if_pos c, if_pos (by omega)]
      · rw [if_neg c, if_neg (by omega)]) (by omega)
    obtain ⟨x2, k2, q0, q1, q2, q3⟩ := ih (b + 1) (k - L - 1) x1 (by omega) h2 (fun n hn => by rw [h3 n hn, Nat.mul_add, Nat.mul_one]) (by omega)
    refine ⟨x2, k2, by omega, ?_, q2, q3⟩
    simp only [poly_Back.l1]
    rw [show 2 * (i0 : Int) - 1 - b = ((2 * i0 - 1 - b : Nat) : Int) by omega]
    refine ifp (by omega) (bnd (root_rt k (2 * i0 - 1 - b) (by omega)) ?_)
    rw [w64 (n := ((2 * i0 - 1 - b : Nat) : Int) - 1) (by omega) (by omega), show ((2 * i0 - 1 - b : Nat) : Int) - 1 = 2 * (i0 : Int) - 1 - (b + 1 : Nat) by omega]
    rw [h1, show 2 * L * b + 2 * L = 2 * L * (b + 1) by rw [Nat.mul_add, Nat.mul_one]]
    exact q1
theorem back_layer (g : Nat → Int) (L i0 : Nat) (hL : 2 ≤ L) (hi : i0 * L = 128) (hg : ∀ n, n < 256 → 0 ≤ g n ∧ g n < 3329)
    (hd : ∀ b t, b < i0 → t < L → (2 * L * b + t) / (2 * L) = b ∧ (2 * L * b + t) % (2 * L) = t ∧ (2 * L * b + t + L) / (2 * L) = b ∧ (2 * L * b + t + L) % (2 * L) = t + L) (hi1 : 1 ≤ i0) (hi2 : i0 ≤ 64)
    (k : Nat) (x : List Int) (hl : x.length = 256) (hx : ∀ n, n < 256 → at_ x n = g n) (hk : 600 < k) :
    ∃ x' k', k ≤ k' + 400 ∧ poly_Back.l0 k x (2 * (i0 : Int) - 1) L = poly_Back.l0 k' x' ((i0 : Int) - 1) ((2 * L : Nat) : Int) ∧ x'.length = 256 ∧ ∀ n, n < 256 → at_ x' n = bwd L (zb i0) g n := by
  have hLb : L ≤ 128 := Nat.le_of_dvd (by decide) ⟨i0, by rw [Nat.mul_comm]; exact hi.symm⟩
  obtain ⟨k, rfl⟩ : ∃ q, k = q + 1 := ⟨k - 1, by omega⟩
  have hfuel : (i0 + 1) * (L + 2) ≤ 390 := by
    rw [Nat.add_mul, Nat.mul_add, hi]
    omega
  obtain ⟨x', k', h0, h1, h2, h3⟩ := back_l1 g L i0 (by omega) hi hg hd hi1 hi2 i0 0 k x (by omega) hl (fun n hn => by rw [hx n hn, if_neg (by omega)]) (by omega)
  refine ⟨x', k', by omega, ?_, h2, h3⟩
  simp only [poly_Back.l0]
  refine ifp (by omega) ?_
  rw [Nat.mul_zero] at h1
  rw [← h1]
  simp
theorem back_l3 (g : Nat → Int) (hg : ∀ n, n < 256 → 0 ≤ g n ∧ g n < 3329) : ∀ (m j k : Nat) (x : List Int), j + m = 256 → x.length = 256 → (∀ n, n < 256 → at_ x n = if n < j then g n * 3303 % 3329 else g n) → m < k →
    poly_Back.l3 k x 256 (j : Int) = some (ofN fun n => g n * 3303 % 3329) := by
  intro m
  induction m with
  | zero =>
    intro j k x h hl hx hk
    obtain ⟨k, rfl⟩ : ∃ q, k = q + 1 := ⟨k - 1, by omega⟩
    simp only [poly_Back.l3]
    rw [if_neg (by omega)]
    congr 1
    exact eq_ofN hl fun n hn => by rw [hx n hn, if_pos (by omega)]
  | succ m ih =>
    intro j k x h hl hx hk
    obtain ⟨k, rfl⟩ : ∃ q, k = q + 1 := ⟨k - 1, by omega⟩
    have ha : at_ x j = g j := by rw [hx j (by omega), if_neg (by omega)]
    have hgj := hg j (by omega)
    simp only [poly_Back.l3]
    refine ifp (by omega) (ifp (by omega) (ifp (by omega) ?_))
    rw [rd_at, ha, w64 (n := g j * 3303) (by omega) (by omega), tmod_pos (a := g j * 3303) (by omega), Int.toNat_natCast, w64 (n := (j : Int) + 1) (by omega) (by omega), show (j : Int) + 1 = ((j + 1 : Nat) : Int) by omega]
    refine ih (j + 1) k _ (by omega) (by rw [List.length_set]; exact hl) (fun n hn => ?_) (by omega)
    rw [at_set x j n _ (by omega)]
    by_cases c : n = j
    · rw [if_pos c, if_pos (by omega), c]
    · rw [if_neg c, hx n hn]
      by_cases c2 : n < j
      · rw [if_pos c2, if_pos (by omega)]
      · rw [if_neg c2, if_neg (by omega)]
theorem back_eq (k : Nat) (x : List Int) (h : Poly x) (hk : 5000 ≤ k) : poly_Back.f k x = some (ofN (inv (at_ x))) := by
  unfold poly_Back.f
  refine bnd (may_yes k x h (by omega)) (ifp rfl (bnd (clone_eq x (by rw [h.1]; decide)) ?_))
  obtain ⟨x1, k1, a1, b1, c1, d1⟩ := back_layer (at_ x) 2 64 (by decide) rfl h.2 (fun b t hb ht => by omega) (by decide) (by decide) k x h.1 (fun _ _ => rfl) (by omega)
  obtain ⟨x2, k2, a2, b2, c2, d2⟩ := back_layer _ 4 32 (by decide) rfl (fun n _ => bwd_bd _ _ _ n) (fun b t hb ht => by omega) (by decide) (by decide) k1 x1 c1 d1 (by omega)
  obtain ⟨x3, k3, a3, b3, c3, d3⟩ := back_layer _ 8 16 (by decide) rfl (fun n _ => bwd_bd _ _ _ n) (fun b t hb ht => by omega) (by decide) (by decide) k2 x2 c2 d2 (by omega)
  obtain ⟨x4, k4, a4, b4, c4, d4⟩ := back_layer _ 16 8 (by decide) rfl (fun n _ => bwd_bd _ _ _ n) (fun b t hb ht => by omega) (by decide) (by decide) k3 x3 c3 d3 (by omega)
  obtain ⟨x5, k5, a5, b5, c5, d5⟩ := back_layer _ 32 4 (by decide) rfl (fun n _ => bwd_bd _ _ _ n) (fun b t hb ht => by omega) (by decide) (by decide) k4 x4 c4 d4 (by omega)
  obtain ⟨x6, k6, a6, b6, c6, d6⟩ := back_layer _ 64 2 (by decide) rfl (fun n _ => bwd_bd _ _ _ n) (fun b t hb ht => by omega) (by decide) (by decide) k5 x5 c5 d5 (by omega)
  obtain ⟨x7, k7, a7, b7, c7, d7⟩ := back_layer _ 128 1 (by decide) rfl (fun n _ => bwd_bd _ _ _ n) (fun b t hb ht => by omega) (by decide) (by decide) k6 x6 c6 d6 (by omega)
  have e : poly_Back.l0 k x 127 2 = poly_Back.l0 k7 x7 0 256 := b1.trans (b2.trans (b3.trans (b4.trans (b5.trans (b6.trans b7)))))
  rw [e]
  obtain ⟨k7, rfl⟩ : ∃ q, k7 = q + 1 := ⟨k7 - 1, by omega⟩
  simp only [poly_Back.l0]
  rw [if_neg (by decide), c7]
  exact back_l3 _ (fun n _ => bwd_bd _ _ _ n) 256 0 k7 x7 (by omega) c7 (fun n hn => by rw [d7 n hn, if_neg (by omega)]) (by omega)
end Go.Proofs.Ytiphpcehmjcejaa.PolyD
