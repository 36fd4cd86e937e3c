/- A poly whose numbers are moved on, the last ones turned round, is the poly times a power of the unknown; 256 turns turn all signs. No condition. -/
import Derived.Test.YtiphpcehmjcejaaPPolyx15
import Derived.Test.YtiphpcehmjcejaaPolyAwake
namespace Go.Proofs.Ytiphpcehmjcejaa.Pure
open Go.RowKit Go.Proofs.Ytiphpcehmjcejaa.PPoly Go.Proofs.Ytiphpcehmjcejaa.Pm Go.Proofs.Ytiphpcehmjcejaa.PolyB Go.Proofs.YtiphpcehmjcejaaW.PrintWords Go.Proofs.YtiphpcehmjcejaaW.PrintLast Go.Proofs.YtiphpcehmjcejaaW.PrintMore

theorem turns_d (j many : Nat) (h : j + many < 1000) : Int.tmod (wrap64 (Int.tdiv (wrap64 ((j : Int) + many)) 256)) 2 = (((j + many) / 256 % 2 : Nat) : Int) := by
  rw [w64 (n := (j : Int) + many) (by omega) (by omega), Int.tdiv_eq_ediv_of_nonneg (a := (j : Int) + many) (by omega), w64 (n := ((j : Int) + many) / 256) (by omega) (by omega), tmod_pos (by omega)]; omega
theorem turns_r (j many : Nat) (h : j + many < 1000) : Int.tmod (wrap64 ((j : Int) + many)) 256 = (((j + many) % 256 : Nat) : Int) := by
  rw [w64 (n := (j : Int) + many) (by omega) (by omega), tmod_pos (by omega)]; omega
theorem turns_j (j : Nat) (h : (j : Int) < 256) : wrap64 ((j : Int) + 1) = ((j + 1 : Nat) : Int) := by
  rw [w64 (n := (j : Int) + 1) (by omega) (by omega)]; omega
/-- Where and with which sign a number stands behind many turns. -/
theorem turns_l0 (many : Nat) (f : List Int) (hf : Poly f) (hm : many < 600) : ∀ (m j k : Nat) (g : List Int), j + m = 256 → g.length = 256 →
    (∀ i, i < j → at_ g ((i + many) % 256) = if (i + many) / 256 % 2 = 1 then (0 - at_ f i) % 3329 else at_ f i) → m < k →
    ∃ g' k', k ≤ k' + m + 1 ∧ chatelainelaw4_PolyTurns.l0 k (many : Int) f g (j : Int) = chatelainelaw4_PolyTurns.l0 (k' + 1) (many : Int) f g' 256 ∧ g'.length = 256 ∧ ∀ i, i < 256 → at_ g' ((i + many) % 256) = if (i + many) / 256 % 2 = 1 then (0 - at_ f i) % 3329 else at_ f i := by
  have hf1 := hf.1
  intro m
  induction m with
  | zero =>
    intro j k g h hl hg hk
    obtain rfl : j = 256 := by omega
    exact ⟨g, k - 1, by omega, by rw [show k - 1 + 1 = k by omega]; rfl, hl, fun i hi => hg i hi⟩
  | succ m ih =>
    intro j k g h hl hg hk
    obtain ⟨k, rfl⟩ : ∃ q, k = q + 1 := ⟨k - 1, by omega⟩
    have hfj := hf.2 j (by omega)
    have hlt : (j + many) % 256 < 256 := Nat.mod_lt _ (by decide)
    have c1 : (j : Int) < 256 := by omega
    have c2 : (0 : Int) ≤ (j : Int) := Int.natCast_nonneg j
    have c3 : (j : Int) < (f.length : Int) := by omega
    have c4 : (0 : Int) ≤ (((j + many) % 256 : Nat) : Int) := Int.natCast_nonneg _
    have c5 : (((j + many) % 256 : Nat) : Int) < (g.length : Int) := by rw [hl]; exact Int.ofNat_lt.2 hlt
    have hnext : ∀ v : Int, v = (if (j + many) / 256 % 2 = 1 then (0 - at_ f j) % 3329 else at_ f j) → chatelainelaw4_PolyTurns.l0 (k + 1) (many : Int) f g (j : Int) = chatelainelaw4_PolyTurns.l0 k (many : Int) f (g.set ((j + many) % 256) v) ((j + 1 : Nat) : Int) →
        ∃ g' k', k + 1 ≤ k' + (m + 1) + 1 ∧ chatelainelaw4_PolyTurns.l0 (k + 1) (many : Int) f g (j : Int) = chatelainelaw4_PolyTurns.l0 (k' + 1) (many : Int) f g' 256 ∧ g'.length = 256 ∧ ∀ i, i < 256 → at_ g' ((i + many) % 256) = if (i + many) / 256 % 2 = 1 then (0 - at_ f i) % 3329 else at_ f i := by
      intro v hv he
      obtain ⟨g', k', a, b, c, d⟩ := ih (j + 1) k (g.set ((j + many) % 256) v) (by omega) (by rw [List.length_set]; exact hl) (fun i hi => by
        rw [at_set g _ _ _ (by rw [hl]; exact hlt)]
        by_cases e : i = j
        · subst e; rw [if_pos rfl]; exact hv
        · rw [if_neg (by clear c1 c2 c3 c4 c5 hv he; omega)]; exact hg i (by omega)) (by omega)
      exact ⟨g', k', by omega, he.trans b, c, d⟩
    have hd := turns_d j many (by omega)
    have hr := turns_r j many (by omega)
    by_cases hs : (j + many) / 256 % 2 = 1
    · refine hnext ((0 - at_ f j) % 3329) (by rw [if_pos hs]) ?_
      refine (chatelainelaw4_PolyTurns.l0.eq_2 _ _ _ _ _).trans ?_
      rw [hd, hr, rd_at, turns_j j c1, Int.toNat_natCast]
      refine ifp c1 (ifp c2 (ifp c3 (ifp (by rw [hs]; rfl) (bnd (sub_eq _ _) (ifp c4 (ifp c5 ?_))))))
      rfl
    · refine hnext (at_ f j) (by rw [if_neg hs]) ?_
      refine (chatelainelaw4_PolyTurns.l0.eq_2 _ _ _ _ _).trans ?_
      rw [hd, hr, rd_at, turns_j j c1, Int.toNat_natCast]
      refine ifp c1 (ifp c2 (ifp c3 (ifn (fun h => hs (Int.ofNat_inj.1 h)) (ifp c4 (ifp c5 ?_)))))
      rfl
theorem turns_end (k : Nat) (f g z : List Int) (hf : Poly f) (hg : Poly g) (hz : Poly z) (h : ofN (tim (at_ (ofN (ntt (at_ f)))) (at_ z)) = ofN (ntt (at_ g))) (hk : 7000 ≤ k) :
    chatelainelaw4_PolyTurns.j1 k f g z = some true := by
  obtain ⟨k, rfl⟩ : ∃ q, k = q + 1 := ⟨k - 1, by omega⟩
  simp only [chatelainelaw4_PolyTurns.j1]
  exact bnd (over_eq k f hf (by omega)) (bnd (times_eq k _ z (poly_ntt _) hz (by omega)) (bnd (over_eq k g hg (by omega)) (bnd (same_yes k _ _ h (by rw [ofN_length]; decide) (by omega)) (ifp rfl (bnd (may_yes k g hg (by omega)) (ifp rfl (bnd (pawake_eq k (by omega)) rfl)))))))
theorem PolyTurns : chatelainelaw4_PolyTurns.Pure := by
  intro x a _ _ _ _
  refine ⟨9000, ?_⟩
  unfold chatelainelaw4_PolyTurns.f
  by_cases hx : (x.length : Int) > 300
  · exact ifp hx (bnd (pawake_eq 9000 (by omega)) rfl)
  refine ifn hx ?_
  obtain ⟨f, f1, f2⟩ := plow_eq 9000 x (by omega) (by omega)
  obtain ⟨e, b1, b2⟩ := low_eq a 600 (by decide) (by decide)
  obtain ⟨many, hm⟩ := Int.eq_ofNat_of_zero_le b1
  rw [hm] at e b2
  refine bnd f1 (bnd e (ifp (by decide) ?_))
  obtain ⟨g, k', q0, q1, q2, q3⟩ := turns_l0 many f f2 (by omega) 256 0 9000 (List.replicate 256 0) (by omega) List.length_replicate (fun i h => by omega) (by omega)
  refine Eq.trans q1 ?_
  have hg : ∀ n, n < 256 → at_ g n = if (if many % 256 ≤ n then many / 256 else many / 256 + 1) % 2 = 1 then (0 - at_ f (if many % 256 ≤ n then n - many % 256 else n + 256 - many % 256)) % 3329 else at_ f (if many % 256 ≤ n then n - many % 256 else n + 256 - many % 256) := by
    intro n hn
    by_cases c : many % 256 ≤ n
    · rw [if_pos c, if_pos c]
      have h := q3 (n - many % 256) (by omega)
      rw [show (n - many % 256 + many) % 256 = n by omega, show (n - many % 256 + many) / 256 = many / 256 by omega] at h
      exact h
    · rw [if_neg c, if_neg c]
      have h := q3 (n + 256 - many % 256) (by omega)
      rw [show (n + 256 - many % 256 + many) % 256 = n by omega, show (n + 256 - many % 256 + many) / 256 = many / 256 + 1 by omega] at h
      exact h
  have hgp : Poly g := ⟨q2, fun n hn => by
    have hi : (if many % 256 ≤ n then n - many % 256 else n + 256 - many % 256) < 256 := by
      by_cases c : many % 256 ≤ n
      · rw [if_pos c]; omega
      · rw [if_neg c]; omega
    have h1 := f2.2 _ hi
    rw [hg n hn]
    generalize at_ f (if many % 256 ≤ n then n - many % 256 else n + 256 - many % 256) = y at h1 ⊢
    generalize (if many % 256 ≤ n then many / 256 else many / 256 + 1) % 2 = s
    clear hg q3 q1
    by_cases c : s = 1
    · rw [if_pos c]; exact ⟨Int.emod_nonneg (0 - y) (b := 3329) (by decide), Int.emod_lt_of_pos (0 - y) (b := 3329) (by decide)⟩
    · rw [if_neg c]; exact h1⟩
  refine (chatelainelaw4_PolyTurns.l0.eq_2 _ _ _ _ _).trans ?_
  refine ifn (by decide) ?_
  have hmod : Int.tmod (many : Int) 256 = ((many % 256 : Nat) : Int) := by rw [tmod_pos (by omega)]; omega
  have hdiv : Int.tmod (wrap64 (Int.tdiv (many : Int) 256)) 2 = ((many / 256 % 2 : Nat) : Int) := by
    rw [Int.tdiv_eq_ediv_of_nonneg (by omega), w64 (by omega) (by omega), tmod_pos (by omega)]; omega
  have hb : many % 256 < 256 := Nat.mod_lt _ (by decide)
  rw [hmod, hdiv]
  refine bnd (unit_eq _ hb) (bnd (over_unit k' _ (by omega)) ?_)
  by_cases hs : many / 256 % 2 = 1
  · refine ifp (by omega) (ifp (by decide) (bnd (psub_eq k' _ _ poly_zeros (poly_ntt _) (by omega)) ?_))
    refine turns_end k' f g _ f2 hgp (poly_ofN fun n _ => ⟨Int.emod_nonneg _ (by decide), Int.emod_lt_of_pos _ (by decide)⟩) ?_ (by omega)
    refine ofN_congr fun n hn => Cg.eq ?_ (tim_bd _ _ n) (ntt_bd _ n)
    have hz : ∀ m, m < 256 → Cg (at_ (ofN fun n => (at_ (List.replicate 256 0) n - at_ (ofN (ntt (Pm.mono (many % 256)))) n) % 3329) m) (-1 * ntt (Pm.mono (many % 256)) m) := by
      intro m hm2
      rw [at_ofN _ m hm2, at_ofN _ m hm2, at_zeros m hm2]
      exact Cg.trans (Cg.mod _) (Cg.of_eq (by omega))
    have h1 : Cg (tim (at_ (ofN (ntt (at_ f)))) (at_ (ofN fun n => (at_ (List.replicate 256 0) n - at_ (ofN (ntt (Pm.mono (many % 256)))) n) % 3329)) n) (-1 * tim (ntt (at_ f)) (ntt (Pm.mono (many % 256))) n) := by
      have hL : ∀ m, m < 256 → at_ (ofN (ntt (at_ f))) m = ntt (at_ f) m := fun m hm2 => at_ofN _ m hm2
      unfold tim
      by_cases c : n % 2 = 0
      · rw [if_pos c, if_pos c, hL n hn, hL (n + 1) (by omega)]
        refine Cg.trans (Cg.mod _) (Cg.trans (Cg.add (Cg.mul_left _ (hz n hn)) (Cg.mul_right _ (Cg.trans (Cg.mod _) (Cg.mul_left _ (hz (n + 1) (by omega)))))) (Cg.symm (Cg.trans (Cg.mul_left (-1) (Cg.mod _)) (Cg.trans (Cg.mul_left (-1) (Cg.add (Cg.refl _) (Cg.mul_right _ (Cg.mod _)))) (Cg.of_eq ?_)))))
        rw [Int.mul_add, Int.mul_left_comm, ← Int.mul_assoc (-1), Int.mul_left_comm (-1)]
      · rw [if_neg c, if_neg c, hL n hn, hL (n - 1) (by omega)]
        refine Cg.trans (Cg.mod _) (Cg.trans (Cg.add (Cg.mul_left _ (hz n hn)) (Cg.mul_left _ (hz (n - 1) (by omega)))) (Cg.symm (Cg.trans (Cg.mul_left (-1) (Cg.mod _)) (Cg.of_eq ?_))))
        rw [Int.mul_add, Int.mul_left_comm, Int.mul_left_comm (-1)]
    refine Cg.trans h1 (Cg.trans (Cg.mul_left (-1) (tim_turn (at_ f) (many % 256) n hn hb)) ?_)
    have hsc : Sc (-1) (at_ g) (T (many % 256) (at_ f)) := by
      intro m hm2
      rw [hg m hm2]
      unfold T
      by_cases c : many % 256 ≤ m
      · rw [if_pos c, if_pos c, if_pos c, if_pos hs]; exact Cg.trans (Cg.mod _) (Cg.of_eq (by omega))
      · rw [if_neg c, if_neg c, if_neg c, if_neg (by omega)]; exact Cg.of_eq (by omega)
    exact (ntt_sc hsc n hn).symm
  · refine ifn (by omega) ?_
    refine turns_end k' f g _ f2 hgp (poly_ntt _) ?_ (by omega)
    refine ofN_congr fun n hn => Cg.eq ?_ (tim_bd _ _ n) (ntt_bd _ n)
    have h1 : tim (at_ (ofN (ntt (at_ f)))) (at_ (ofN (ntt (Pm.mono (many % 256))))) n = tim (ntt (at_ f)) (ntt (Pm.mono (many % 256))) n := by
      unfold tim
      by_cases c : n % 2 = 0
      · rw [if_pos c, if_pos c, at_ofN _ n hn, at_ofN _ n hn, at_ofN _ (n + 1) (by omega), at_ofN _ (n + 1) (by omega)]
      · rw [if_neg c, if_neg c, at_ofN _ n hn, at_ofN _ n hn, at_ofN _ (n - 1) (by omega), at_ofN _ (n - 1) (by omega)]
    rw [h1]
    refine Cg.trans (tim_turn (at_ f) (many % 256) n hn hb) (Cg.symm (ntt_congr (fun m hm2 => ?_) n hn))
    rw [hg m hm2]
    unfold T
    by_cases c : many % 256 ≤ m
    · rw [if_pos c, if_pos c, if_pos c, if_neg hs]; exact Cg.refl _
    · rw [if_neg c, if_neg c, if_neg c, if_pos (by omega)]; exact Cg.trans (Cg.mod _) (Cg.of_eq (by omega))
end Go.Proofs.Ytiphpcehmjcejaa.Pure
