/- Behind a number that was taken none that is Window or more below is fresh; all above are. No condition. -/
import Derived.Test.YthliabidnboklaaDoorPNonx1
import Derived.Test.YthliabidnboklaaDoorPNonx5
import Derived.Test.YthliabidnboklaaDoorPNonx7
import Derived.Test.YthliabidnboklaaDoorPNonx8
import Derived.Test.YthliabidnboklaaDoorNonceBase
namespace Go.Proofs.YthliabidnboklaaDoor.Pure
open Go.RowKit Go.Proofs.YthliabidnboklaaDoor.PNon Go.Proofs.YthliabidnboklaaDoor.NonB Go.Proofs.YthliabidnboklaaDoorW.PrintWords Go.Proofs.YthliabidnboklaaDoorW.PrintLast Go.Proofs.YthliabidnboklaaDoorW.PrintMore

theorem nlow_eq (a n : Int) (hn : 0 < n) (hn' : n ≤ 9223372036854775807) : chatelainelaw0_Low.f a n = some (IntKind.u64.wrap a % n) ∧ 0 ≤ IntKind.u64.wrap a % n ∧ IntKind.u64.wrap a % n < n := by
  have e : IntKind.u64.wrap n = n := by rw [wrap_u64]; omega
  have e0 : 0 ≤ IntKind.u64.wrap a := by rw [wrap_u64]; omega
  have h1 := Int.emod_nonneg (IntKind.u64.wrap a) (show n ≠ 0 by omega)
  have h2 := Int.emod_lt_of_pos (IntKind.u64.wrap a) hn
  refine ⟨?_, h1, h2⟩
  unfold chatelainelaw0_Low.f
  rw [e, if_neg (by omega), Int.tmod_eq_emod_of_nonneg e0, w64 (by omega) (by omega)]
theorem NoncesWindow : chatelainelaw18_NoncesWindow.Pure := by
  intro h u0 n a _ hu0 hn0 _
  have hn := wf_i64 hn0
  have hu1 := wf_u64 hu0
  obtain ⟨u, rfl⟩ := Int.eq_ofNat_of_zero_le hu1.1
  have hu : u < B64 := by have := hu1.2; show u < 18446744073709551616; omega
  refine ⟨100, ?_⟩
  unfold chatelainelaw18_NoncesWindow.f
  by_cases hf : FreshP h u n
  · have hm := hf.1
    have r := hf.2
    have hm2 := may_use h u n hf
    have hU := useU_lt h u n hu r.2.2.1
    have hb := hm2.1
    have hb2 := hm2.2.1
    have tn : Tk (useH h n) (useU h u n) n := (tk_use h u n n r.2.2.1).2 ⟨⟨by unfold useH; split <;> omega, by unfold useH; split <;> omega⟩, .inr rfl⟩
    have hpos : 1 ≤ useH h n := by unfold useH; split <;> omega
    have th : Tk (useH h n) (useU h u n) (useH h n) := ((may_tk _ _).1 hm2).2.2.2.resolve_left (by omega)
    obtain ⟨e, p0, p1⟩ := nlow_eq a 1000 (by decide) (by decide)
    refine bnd (use_yes 99 h u hu n hf) (ifp rfl (bnd e ?_))
    generalize IntKind.u64.wrap a % 1000 = j at p0 p1 ⊢
    generalize useH h n = H at *
    generalize useU h u n = U at *
    rw [w64 (n := H - 64) (by omega) (by omega), w64 (n := H - 64 - j) (by omega) (by omega), w64 (n := H + 1) (by omega) (by omega), w64 (n := H + 1 + j) (by omega) (by omega)]
    refine bnd (fresh_no 99 H U hU _ (by omega) (fun z => by have := z.2.2.2.1; omega)) (ifn (by decide) (bnd (fresh_eq 99 H U hU _ (by omega)) (ifp ?_ (bnd (fresh_no 99 H U hU n hn (fun z => z.2.2.2.2 tn)) (ifn (by decide) (bnd (fresh_no 99 H U hU H (by omega) (fun z => z.2.2.2.2 th)) (ifn (by decide) (bnd (nawake 99) rfl))))))))
    rw [beq_iff_eq, Bool.eq_iff_iff, decide_eq_true_iff, decide_eq_true_iff]
    exact ⟨fun z => z.2.2.1, fun z => ⟨hm2, by omega, z, by omega, fun q => by have := q.1; omega⟩⟩
  · have hend : ((nonces_Fresh.f 100 h (u : Int) n).bind fun t189 => (if t189 = true then (some false) else ((chatelainelaw18_awake.f 100).bind fun t190 => (some t190)))) = some true :=
      bnd (fresh_no 99 h u hu n hn hf) (ifn (by decide) (bnd (nawake 99) rfl))
    by_cases hm : MayP h u
    · exact bnd (use_no 99 h u hu n hn hm hf) (ifn (by decide) (ifp rfl (ifp rfl hend)))
    · exact bnd (use_may 99 h u hu n hm) (ifn (by decide) (ifp rfl (ifp rfl hend)))
end Go.Proofs.YthliabidnboklaaDoor.Pure
