/- There and back a poly is what it was; carried over sums are sums; a difference takes back a sum. No condition. -/
import Derived.Test.YtiphpcehmjcejaaPPolyx12
import Derived.Test.YtiphpcehmjcejaaPolyAwake
namespace Go.Proofs.Ytiphpcehmjcejaa.Pure
open Go.RowKit Go.Proofs.Ytiphpcehmjcejaa.PPoly Go.Proofs.Ytiphpcehmjcejaa.Pm Go.Proofs.Ytiphpcehmjcejaa.PolyB Go.Proofs.YtiphpcehmjcejaaW.PrintWords Go.Proofs.YtiphpcehmjcejaaW.PrintLast Go.Proofs.YtiphpcehmjcejaaW.PrintMore

theorem polyBack_j (k : Nat) (x y : List Int) (b : Bool) (hb : b = false → x.length ≤ 300 ∧ y.length ≤ 300) (hk : 8000 ≤ k) : chatelainelaw4_PolyBack.j0 k x y b = some true := by
  obtain ⟨k, rfl⟩ : ∃ q, k = q + 1 := ⟨k - 1, by omega⟩
  simp only [chatelainelaw4_PolyBack.j0]
  cases b with
  | true => exact ifp rfl (bnd (pawake_eq k (by omega)) rfl)
  | false =>
    obtain ⟨hx, hy⟩ := hb rfl
    obtain ⟨f, f1, f2⟩ := plow_eq k x hx (by omega)
    obtain ⟨g, g1, g2⟩ := plow_eq k y hy (by omega)
    refine ifn (by decide) (bnd f1 (bnd g1 (bnd (over_eq k f f2 (by omega)) (bnd (over_eq k g g2 (by omega)) (bnd (back_eq k _ (poly_ntt _) (by omega)) (bnd (same_yes k _ _ (back_over f f2) (by rw [ofN_length]; decide) (by omega)) (ifp rfl ?_)))))))
    refine bnd (back_eq k f f2 (by omega)) (bnd (over_eq k _ (poly_inv _) (by omega)) (bnd (same_yes k _ _ (over_back f f2) (by rw [ofN_length]; decide) (by omega)) (ifp rfl ?_)))
    have hs : Poly (ofN fun n => (at_ f n + at_ g n) % 3329) := poly_ofN fun n _ => ⟨Int.emod_nonneg _ (by decide), Int.emod_lt_of_pos _ (by decide)⟩
    refine bnd (padd_eq k f g f2 g2 (by omega)) (bnd (over_eq k _ hs (by omega)) (bnd (padd_eq k _ _ (poly_ntt _) (poly_ntt _) (by omega)) (bnd (same_yes k _ _ ?_ (by rw [ofN_length]; decide) (by omega)) (ifp rfl ?_))))
    · refine ofN_congr fun n hn => ?_
      rw [at_ofN _ n hn, at_ofN _ n hn]
      refine Cg.eq ?_ (ntt_bd _ n) ⟨Int.emod_nonneg _ (by decide), Int.emod_lt_of_pos _ (by decide)⟩
      refine Cg.trans (ntt_congr (g := fun j => at_ f j + at_ g j) (fun m hm => by rw [at_ofN _ m hm]; exact Cg.mod _) n hn) (Cg.trans (ntt_add _ _ n hn) (Cg.mod _).symm)
    · refine bnd (padd_eq k f g f2 g2 (by omega)) (bnd (psub_eq k _ _ hs g2 (by omega)) (bnd (same_yes k _ _ ?_ (by rw [ofN_length]; decide) (by omega)) (ifp rfl (bnd (pawake_eq k (by omega)) rfl))))
      conv => rhs; rw [ofN_at f2.1]
      refine ofN_congr fun n hn => ?_
      rw [at_ofN _ n hn]
      have := f2.2 n hn
      omega
theorem PolyBack : chatelainelaw4_PolyBack.Pure := by
  intro x y _ _ _ _ _ _
  refine ⟨8000, ?_⟩
  unfold chatelainelaw4_PolyBack.f
  by_cases h : (x.length : Int) > 300
  · exact ifp h (polyBack_j 8000 x y true (fun h => by cases h) (by omega))
  · refine ifn h (polyBack_j 8000 x y _ (fun h2 => ?_) (by omega))
    have := of_decide_eq_false h2
    omega
end Go.Proofs.Ytiphpcehmjcejaa.Pure
