import Derived.Test.YtiphpcehmjcejaaPPDotx3
import Derived.Test.YtiphpcehmjcejaaPPDotx4
import Derived.Test.YtiphpcehmjcejaaPPDotx6
import Derived.Test.YtiphpcehmjcejaaPolyMore
/- 'awake' of the poly statements, and what is used by several of them. -/
namespace Go.Proofs.Ytiphpcehmjcejaa.PolyD
open Go.RowKit Go.Proofs.Ytiphpcehmjcejaa.PPDot Go.Proofs.Ytiphpcehmjcejaa.Pm Go.Proofs.YtiphpcehmjcejaaW.PrintWords Go.Proofs.YtiphpcehmjcejaaW.PrintLast Go.Proofs.YtiphpcehmjcejaaW.PrintMore

theorem ntt_mono (n i b : Nat) (hn : n < 256) (hi : i < 128) (hb : b < 2) : ntt (mono n) (2 * i + b) = if b = n % 2 then ze i ^ (n / 2) % 3329 else 0 := by
  have h := ntt_E (mono n) i b hi hb
  rw [E_mono n i b hn hb] at h
  have hbd := ntt_bd (mono n) (2 * i + b)
  by_cases c : b = n % 2
  · rw [if_pos c] at h ⊢
    exact Cg.eq (Cg.trans h (Cg.mod _).symm) hbd (em _)
  · rw [if_neg c] at h ⊢
    exact Cg.eq h hbd (by decide)
theorem ntt_same {f g : Nat → Int} (h : ∀ n, n < 256 → f n = g n) : ofN (ntt f) = ofN (ntt g) :=
  ofN_congr fun n hn => Cg.eq (ntt_congr (fun m hm => Cg.of_eq (h m hm)) n hn) (ntt_bd f n) (ntt_bd g n)
theorem over_unit (k n : Nat) (hk : 5000 ≤ k) : poly_Over.f k (ofN (mono n)) = some (ofN (ntt (mono n))) := by
  rw [over_eq k _ (poly_mono n) hk]
  exact congrArg some (ntt_same fun m hm => at_ofN _ m hm)
theorem back_over (x : List Int) (hx : Poly x) : ofN (inv (at_ (ofN (ntt (at_ x))))) = x := by
  conv => rhs; rw [ofN_at hx.1]
  refine ofN_congr fun n hn => Cg.eq ?_ (inv_bd _ n) (hx.2 n hn)
  have e : ofN (inv (at_ (ofN (ntt (at_ x))))) = ofN (inv (ntt (at_ x))) := by
    refine ofN_congr fun m hm => ?_
    have : Sc 1 (at_ (ofN (ntt (at_ x)))) (ntt (at_ x)) := fun q hq => by rw [at_ofN _ q hq]; exact Cg.of_eq (Int.one_mul _).symm
    unfold inv
    have h := bwd_sc ln128 (zb 1) (bwd_sc ln64 (zb 2) (bwd_sc ln32 (zb 4) (bwd_sc ln16 (zb 8) (bwd_sc ln8 (zb 16) (bwd_sc ln4 (zb 32) (bwd_sc ln2 (zb 64) this)))))) m hm
    rw [Int.one_mul] at h
    exact Cg.mul_right 3303 h
  have h1 := congrArg (fun l => at_ l n) e
  simp only [at_ofN _ n hn] at h1
  rw [h1]
  exact inv_ntt (at_ x) n hn
theorem over_back (x : List Int) (hx : Poly x) : ofN (ntt (at_ (ofN (inv (at_ x))))) = x := by
  rw [ntt_same (g := inv (at_ x)) fun m hm => at_ofN _ m hm]
  conv => rhs; rw [ofN_at hx.1]
  exact ofN_congr fun n hn => Cg.eq (ntt_inv (at_ x) n hn) (ntt_bd _ n) (hx.2 n hn)
theorem poly_inv (f : Nat → Int) : Poly (ofN (inv f)) := poly_ofN fun n _ => inv_bd f n
theorem rd_ofN (f : Nat → Int) (n : Nat) (hn : n < 256) : rd (ofN f) (n : Int) = f n := by rw [rd_at, at_ofN f n hn]
theorem not_poly_nil : ¬ Poly [] := fun h => by have := h.1; simp at this
theorem pawake_eq (k : Nat) (hk : 6000 ≤ k) : chatelainelaw4_awake.f k = some true := by
  unfold chatelainelaw4_awake.f
  have hu : chatelainelaw4_unit.f 0 = some (ofN (mono 0)) := unit_eq 0 (by decide)
  have v0 := ntt_mono 0 0 0 (by decide) (by decide) (by decide)
  have v1 := ntt_mono 0 0 1 (by decide) (by decide) (by decide)
  have v254 := ntt_mono 0 127 0 (by decide) (by decide) (by decide)
  have v255 := ntt_mono 0 127 1 (by decide) (by decide) (by decide)
  have r0 := rd_ofN (ntt (mono 0)) 0 (by decide)
  have r1 := rd_ofN (ntt (mono 0)) 1 (by decide)
  have r254 := rd_ofN (ntt (mono 0)) 254 (by decide)
  have r255 := rd_ofN (ntt (mono 0)) 255 (by decide)
  refine bnd hu (bnd (over_unit k 0 (by omega)) ?_)
  rw [ofN_length]
  refine ifp (by decide) (ifp (by decide) (ifp (r0.trans (v0.trans (by rw [if_pos (by decide)]; rfl))) (ifp (by decide) (ifp (r1.trans (v1.trans (by rw [if_neg (by decide)]))) (ifp (by decide) (ifp (r254.trans (v254.trans (by rw [if_pos (by decide)]; rfl))) (ifp (by decide) (ifp (r255.trans (v255.trans (by rw [if_neg (by decide)]))) ?_))))))))
  refine bnd (back_eq k _ (poly_ntt _) (by omega)) (bnd hu (bnd (same_yes k _ _ ?_ (by rw [ofN_length]; decide) (by omega)) (ifp rfl ?_)))
  · rw [show ofN (ntt (mono 0)) = ofN (ntt (at_ (ofN (mono 0)))) from (ntt_same fun m hm => (at_ofN _ m hm)).symm]
    exact back_over _ (poly_mono 0)
  · refine bnd (over_no k [] not_poly_nil (by omega)) (ifp (by decide) (bnd (may_yes k _ (poly_ntt _) (by omega)) rfl))
end Go.Proofs.Ytiphpcehmjcejaa.PolyD
