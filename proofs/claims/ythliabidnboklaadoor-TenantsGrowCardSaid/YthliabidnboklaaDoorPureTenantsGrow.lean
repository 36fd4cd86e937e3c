import Derived.Test.YthliabidnboklaaDoorPTenx0
import Derived.Test.YthliabidnboklaaDoorPTenx16
import Derived.Test.YthliabidnboklaaDoorPTenx17
import Derived.Test.YthliabidnboklaaDoorPTenx7
import Derived.Test.YthliabidnboklaaDoorPTenx8
import Derived.Test.YthliabidnboklaaDoorTenBaseG
namespace Go.Proofs.YthliabidnboklaaDoor.Pure
open Go.RowKit Go.Proofs.YthliabidnboklaaDoor.PTen Go.Proofs.YthliabidnboklaaDoor.TenB Go.Proofs.YthliabidnboklaaDoorW.PrintWords Go.Proofs.YthliabidnboklaaDoorW.PrintLast Go.Proofs.YthliabidnboklaaDoorW.PrintMore

theorem wrap_u64g (n : Int) : IntKind.u64.wrap n = n % 18446744073709551616 := by simp [IntKind.wrap, IntKind.bits, IntKind.signed]
theorem glow (a n : Int) (hn : 0 < n) (hn' : n ≤ 1000) : ∃ r, chatelainelaw0_Low.f a n = some r ∧ 0 ≤ r ∧ r < n := by
  have e : IntKind.u64.wrap n = n := by rw [wrap_u64g]; omega
  have h0 : 0 ≤ IntKind.u64.wrap a := by rw [wrap_u64g]; omega
  have h1 := Int.emod_nonneg (IntKind.u64.wrap a) (show n ≠ 0 by omega)
  have h2 := Int.emod_lt_of_pos (IntKind.u64.wrap a) hn
  refine ⟨IntKind.u64.wrap a % n, ?_, h1, h2⟩
  unfold chatelainelaw0_Low.f
  rw [e, if_neg (by omega), Int.tmod_eq_emod_of_nonneg h0, w64 (by omega) (by omega)]
/-! ### who is above whom -/
theorem path_le {l : List S78} (h : mayB l = true) : ∀ (n : Nat) (b : Int), b.toNat ≤ n → ∀ a ∈ path l b, 1 ≤ a ∧ a ≤ b ∧ a ≤ (l.length : Int) ∧ ∀ x ∈ path l a, x ∈ path l b
  | n, b, hn, a, ha => by
    by_cases c : 1 ≤ b ∧ b ≤ (l.length : Int)
    · have hp := par_lt h c.1 c.2
      rw [path_cons h c.1 c.2] at ha ⊢
      rcases List.mem_cons.1 ha with rfl | ha
      · refine ⟨c.1, Int.le_refl _, c.2, fun x hx => ?_⟩
        rw [path_cons h c.1 c.2] at hx; exact hx
      · obtain ⟨n, rfl⟩ : ∃ e, n = e + 1 := ⟨n - 1, by omega⟩
        obtain ⟨i1, i2, i3, i4⟩ := path_le h n (par l b) (by omega) a ha
        exact ⟨i1, by omega, i3, fun x hx => List.mem_cons_of_mem _ (i4 x hx)⟩
    · rw [path_nil c] at ha; exact (List.not_mem_nil ha).elim
theorem path_self {l : List S78} (h : mayB l = true) {a : Int} (h1 : 1 ≤ a) (h2 : a ≤ (l.length : Int)) : a ∈ path l a := by
  rw [path_cons h h1 h2]; exact List.mem_cons_self
theorem path_one {l : List S78} (h : mayB l = true) : ∀ (n : Nat) (a : Int), a.toNat ≤ n → 1 ≤ a → a ≤ (l.length : Int) → 1 ∈ path l a
  | n, a, hn, h1, h2 => by
    have hp := par_lt h h1 h2
    rw [path_cons h h1 h2]
    by_cases c : a = 1
    · rw [c]; exact List.mem_cons_self
    · obtain ⟨n, rfl⟩ : ∃ e, n = e + 1 := ⟨n - 1, by omega⟩
      exact List.mem_cons_of_mem _ (path_one h n (par l a) (by omega) (by omega) (by omega))
/-! ### a child -/
theorem snoc_par (l : List S78) (p : Int) (nm : ByteArray) (a : Int) (h1 : 1 ≤ a) (h2 : a ≤ (l.length : Int)) : par (snoc l p nm) a = par l a := by
  obtain ⟨i, rfl⟩ : ∃ i : Nat, a = (i : Int) + 1 := ⟨(a - 1).toNat, by omega⟩
  unfold par snoc
  rw [show (i : Int) + 1 - 1 = (i : Int) by omega, rdT l i (by omega), rdT _ i (by simp; omega), List.getElem_append_left (by omega)]
theorem snoc_new (l : List S78) (p : Int) (nm : ByteArray) : par (snoc l p nm) ((l.length : Int) + 1) = p := by
  unfold par snoc
  rw [show (l.length : Int) + 1 - 1 = (l.length : Int) by omega, rdT _ l.length (by simp), List.getElem_append_right (by omega)]
  simp
theorem snoc_path {l : List S78} {p : Int} {nm : ByteArray} (h : mayB l = true) (hs : mayB (snoc l p nm) = true) : ∀ (n : Nat) (a : Int), a.toNat ≤ n → a ≤ (l.length : Int) → path (snoc l p nm) a = path l a
  | n, a, hn, h2 => by
    have hl : (snoc l p nm).length = l.length + 1 := by simp [snoc]
    by_cases h1 : 1 ≤ a
    · have hp := par_lt h h1 h2
      obtain ⟨n, rfl⟩ : ∃ e, n = e + 1 := ⟨n - 1, by omega⟩
      rw [path_cons h h1 h2, path_cons hs h1 (by omega), snoc_par l p nm a h1 h2, snoc_path h hs n (par l a) (by omega) (by omega)]
    · rw [path_nil (by omega), path_nil (by omega)]
theorem addR_cases (l : List S78) (p : Int) (nm : ByteArray) (h : mayB l = true) (hp : 1 ≤ p ∧ p ≤ (l.length : Int)) (hl : 1 ≤ l.length) :
    (∃ c, c ≠ 0 ∧ addR l p nm = ([], 0, c)) ∨ (addR l p nm = (snoc l p nm, (l.length : Int) + 1, 0) ∧ mayB (snoc l p nm) = true) := by
  have h8 := mayB_len h
  unfold addR
  rw [if_pos h, if_pos ((inB_iff _ _).2 hp)]
  by_cases c1 : 1 ≤ (nm.size : Int) ∧ (nm.size : Int) ≤ 300
  · rw [if_pos c1]
    cases c2 : l.any (hit p nm) with
    | true => exact .inl ⟨13, by decide, if_pos rfl⟩
    | false =>
      rw [if_neg (by decide)]
      by_cases c3 : l.length = 8
      · rw [if_pos c3]; exact .inl ⟨12, by decide, rfl⟩
      · rw [if_neg c3]
        refine .inr ⟨rfl, ?_⟩
        unfold mayB at h ⊢
        rw [Bool.and_eq_true] at h
        have hs : (snoc l p nm).length = l.length + 1 := by simp [snoc]
        rw [hs, decide_eq_true (show l.length + 1 ≤ 8 by omega), Bool.true_and]
        unfold snoc
        rw [mayF_append, h.2, Bool.true_and, List.nil_append, okB_iff]
        exact ⟨rfl, ⟨fun z => by omega, fun _ => hp.1⟩, hp.2, c1.1, c1.2, c2⟩
  · rw [if_neg c1]; exact .inl ⟨2, by decide, rfl⟩
theorem rows_some {c : Int} (h : c ≠ 0) : (errRows c).isEmpty = false := by unfold errRows; rw [if_neg h]; rfl

theorem grow_tail (k : Nat) (hk : 60 ≤ k) (t : List S78) (A B C : Int) (h : mayB t = true) :
    ((tenants_Above.f k t A B).bind fun t310 => (if t310 = true then ((tenants_Above.f k t B C).bind fun t311 => (if t311 = true then ((tenants_Above.f k t A C).bind fun t312 => (if t312 = true then ((chatelainelaw16_awake.f k).bind fun t313 => (some t313)) else (some false))) else ((chatelainelaw16_awake.f k).bind fun t314 => (some t314)))) else ((chatelainelaw16_awake.f k).bind fun t315 => (some t315)))) = some true := by
  have aw : ((chatelainelaw16_awake.f k).bind fun t315 => (some t315)) = some true := bnd (tenant_awake k (by omega)) rfl
  refine bnd (above_f t A B k (by omega)) ?_
  by_cases c1 : A ∈ path t B
  · refine ifp (decide_eq_true c1) (bnd (above_f t B C k (by omega)) ?_)
    by_cases c2 : B ∈ path t C
    · refine ifp (decide_eq_true c2) (bnd (above_f t A C k (by omega)) (ifp (decide_eq_true ?_) aw))
      exact (path_le h _ C (Nat.le_refl _) B c2).2.2.2 A c1
    · exact ifn (by rw [decide_eq_false c2]; decide) aw
  · exact ifn (by rw [decide_eq_false c1]; decide) aw

theorem grow_loop (ps : List Int) (ns : List ByteArray) (a b c : Int) (hps : ps.length ≤ 20) (hns : ns.length ≤ 20) : ∀ (d K i : Nat) (t : List S78), i + d = 21 → mayB t = true → 1 ≤ t.length → 3 * d + 100 ≤ K →
    chatelainelaw16_TenantsGrow.l0 K ps ns a b c t (i : Int) = some true
  | d, K + 2, i, t, he, hm, h1, hK => by
    have h8 := mayB_len hm
    have fin : chatelainelaw16_TenantsGrow.j2 (K + 1) ps ns a b c t (i : Int) false = some true := by
      refine (chatelainelaw16_TenantsGrow.j2.eq_2 _ _ _ _ _ _ _ _ _).trans (ifn (by decide) ?_)
      obtain ⟨u, hu, u0, u1⟩ := glow a (t.length : Int) (by omega) (by omega)
      obtain ⟨v, hv, v0, v1⟩ := glow b (t.length : Int) (by omega) (by omega)
      obtain ⟨x, hx, x0, x1⟩ := glow c (t.length : Int) (by omega) (by omega)
      refine bnd hu (bnd hv (bnd hx ?_))
      rw [w64 (n := 1 + u) (by omega) (by omega), w64 (n := 1 + v) (by omega) (by omega), w64 (n := 1 + x) (by omega) (by omega)]
      have tl := grow_tail K (by omega) t (1 + u) (1 + v) (1 + x) hm
      refine bnd (above_f t 1 (1 + u) K (by omega)) (ifp (decide_eq_true (path_one hm _ _ (Nat.le_refl _) (by omega) (by omega))) (bnd (above_f t (1 + u) (1 + u) K (by omega)) (ifp (decide_eq_true (path_self hm (by omega) (by omega))) (bnd (above_f t (1 + u) (1 + v) K (by omega)) ?_))))
      by_cases c1 : (1 + u) ∈ path t (1 + v)
      · refine ifp (decide_eq_true c1) (bnd (above_f t (1 + v) (1 + u) K (by omega)) ?_)
        by_cases c2 : (1 + v) ∈ path t (1 + u)
        · refine ifp (decide_eq_true c2) (ifp ?_ tl)
          have e1 := (path_le hm _ _ (Nat.le_refl _) _ c1).2.1
          have e2 := (path_le hm _ _ (Nat.le_refl _) _ c2).2.1
          omega
        · exact ifn (by rw [decide_eq_false c2]; decide) tl
      · exact ifn (by rw [decide_eq_false c1]; decide) tl
    refine (chatelainelaw16_TenantsGrow.l0.eq_2 _ _ _ _ _ _ _ _).trans ?_
    by_cases c1 : (i : Int) < (ps.length : Int)
    · refine ifp c1 ?_
      by_cases c2 : (i : Int) < (ns.length : Int)
      · rw [decide_eq_true c2]
        obtain ⟨d, rfl⟩ : ∃ e, d = e + 1 := ⟨d - 1, by omega⟩
        have next : ∀ t', mayB t' = true → 1 ≤ t'.length → chatelainelaw16_TenantsGrow.l0 K ps ns a b c t' (wrap64 ((i : Int) + 1)) = some true := fun t' ht hl => by
          rw [w64 (by omega) (by omega)]
          exact grow_loop ps ns a b c hps hns d K (i + 1) t' (by omega) ht hl (by omega)
        refine (chatelainelaw16_TenantsGrow.j2.eq_2 _ _ _ _ _ _ _ _ _).trans (ifp rfl (ifp (by omega) (ifp c2 ?_)))
        by_cases c3 : ((rdOf ByteArray.empty ns (i : Int)).size : Int) > 300
        · exact ifp c3 (next t hm h1)
        · refine ifn c3 (ifp c1 ?_)
          obtain ⟨u, hu, u0, u1⟩ := glow (rd ps (i : Int)) (t.length : Int) (by omega) (by omega)
          refine bnd hu ?_
          rw [w64 (n := 1 + u) (by omega) (by omega)]
          have ea := add_f t (1 + u) (rdOf ByteArray.empty ns (i : Int)) K (by omega)
          rcases addR_cases t (1 + u) (rdOf ByteArray.empty ns (i : Int)) hm ⟨by omega, by omega⟩ h1 with ⟨z, hz, e⟩ | ⟨e, hs⟩
          · rw [e] at ea
            exact bnd ea (ifn (by rw [rows_some hz]; decide) (ifp rfl (ifp rfl (next t hm h1))))
          · rw [e] at ea
            have hl : (snoc t (1 + u) (rdOf ByteArray.empty ns (i : Int))).length = t.length + 1 := by simp [snoc]
            have hpth : path (snoc t (1 + u) (rdOf ByteArray.empty ns (i : Int))) ((t.length : Int) + 1) = [(t.length : Int) + 1] ++ path t (1 + u) := by
              rw [path_cons hs (by omega) (by omega), snoc_new, snoc_path hm hs _ _ (Nat.le_refl _) (by omega)]; rfl
            have ep := path_f (snoc t (1 + u) (rdOf ByteArray.empty ns (i : Int))) ((t.length : Int) + 1) K (by omega)
            rw [hpth] at ep
            have hpl := path_len t (1 + u)
            refine bnd ea (ifp rfl (ifp (by rw [w64 (by omega) (by omega), hl]; omega) (ifp (by show (t.length : Int) + 1 = ((snoc t (1 + u) (rdOf ByteArray.empty ns (i : Int))).length : Int); rw [hl]; omega) ?_)))
            refine bnd (may_f _ K (by omega)) (ifp hs (bnd ep (bnd rfl (bnd (path_f t (1 + u) K (by omega)) (ifp (by simp; omega) (bnd (samei_f ([(t.length : Int) + 1] ++ path t (1 + u)) K (by simp; omega) (by simp; omega)) (ifp rfl (next (snoc t (1 + u) (rdOf ByteArray.empty ns (i : Int))) hs (by rw [hl]; omega)))))))))
      · rw [decide_eq_false c2]; exact fin
    · exact ifn c1 fin
theorem TenantsGrow : chatelainelaw16_TenantsGrow.Pure := by
  intro ps ns a b c h0 h1 h2 h3 h4
  refine ⟨300, ?_⟩
  have done : chatelainelaw16_TenantsGrow.j0 300 ps ns a b c true = some true := (chatelainelaw16_TenantsGrow.j0.eq_2 _ _ _ _ _ _ _).trans (ifp rfl (bnd (tenant_awake 299 (by omega)) rfl))
  unfold chatelainelaw16_TenantsGrow.f
  by_cases c1 : (ps.length : Int) > 20
  · exact ifp c1 done
  · refine ifn c1 ?_
    by_cases c2 : (ns.length : Int) > 20
    · rw [decide_eq_true c2]; exact done
    · rw [decide_eq_false c2]
      exact (chatelainelaw16_TenantsGrow.j0.eq_2 _ _ _ _ _ _ _).trans (ifn (by decide) (bnd rfl (grow_loop ps ns a b c (by omega) (by omega) 21 299 0 [r0] (by omega) mayB_root (by decide) (by omega))))
end Go.Proofs.YthliabidnboklaaDoor.Pure
