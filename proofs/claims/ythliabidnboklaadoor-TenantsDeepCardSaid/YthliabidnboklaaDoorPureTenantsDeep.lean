import Derived.Test.YthliabidnboklaaDoorPTenx0
import Derived.Test.YthliabidnboklaaDoorPTenx16
import Derived.Test.YthliabidnboklaaDoorPTenx18
import Derived.Test.YthliabidnboklaaDoorTenBase
namespace Go.Proofs.YthliabidnboklaaDoor.Pure
open Go.RowKit Go.Proofs.YthliabidnboklaaDoor.PTen Go.Proofs.YthliabidnboklaaDoor.TenB Go.Proofs.YthliabidnboklaaDoorW.PrintWords Go.Proofs.YthliabidnboklaaDoorW.PrintLast Go.Proofs.YthliabidnboklaaDoorW.PrintMore

theorem wrap_u64d (n : Int) : IntKind.u64.wrap n = n % 18446744073709551616 := by simp [IntKind.wrap, IntKind.bits, IntKind.signed]
theorem tlow (a n : Int) (hn : 0 < n) (hn' : n ≤ 1000) : ∃ r, chatelainelaw0_Low.f a n = some r ∧ 0 ≤ r ∧ r < n := by
  have e : IntKind.u64.wrap n = n := by rw [wrap_u64d]; omega
  have h0 : 0 ≤ IntKind.u64.wrap a := by rw [wrap_u64d]; omega
  have h1 := Int.emod_nonneg (IntKind.u64.wrap a) (show n ≠ 0 by omega)
  have h2 := Int.emod_lt_of_pos (IntKind.u64.wrap a) hn
  refine ⟨IntKind.u64.wrap a % n, ?_, h1, h2⟩
  unfold chatelainelaw0_Low.f
  rw [e, if_neg (by omega), Int.tmod_eq_emod_of_nonneg h0, w64 (by omega) (by omega)]
/-- A line of n tenants, each one the child of the one before. -/
def ch (nm : ByteArray) : Nat → List S78
  | 0 => []
  | n + 1 => ch nm n ++ [⟨(n : Int) + 1, (n : Int), if n = 0 then ⟨#[114]⟩ else nm⟩]
theorem ch_len (nm : ByteArray) : ∀ n, (ch nm n).length = n
  | 0 => rfl
  | n + 1 => by show (ch nm n ++ [_]).length = _; rw [List.length_append, ch_len nm n]; rfl
theorem ch_at (nm : ByteArray) : ∀ n i, i < n → ∃ h : i < (ch nm n).length, (ch nm n)[i].f1 = (i : Int)
  | n + 1, i, hi => by
    have hl := ch_len nm n
    refine ⟨by rw [ch_len]; exact hi, ?_⟩
    suffices z : ∀ h : i < (ch nm n ++ [(⟨(n : Int) + 1, (n : Int), if n = 0 then ⟨#[114]⟩ else nm⟩ : S78)]).length, (ch nm n ++ [(⟨(n : Int) + 1, (n : Int), if n = 0 then ⟨#[114]⟩ else nm⟩ : S78)])[i].f1 = (i : Int) from z _
    intro h
    by_cases c : i < n
    · obtain ⟨h, e⟩ := ch_at nm n i c
      rw [List.getElem_append_left h]; exact e
    · have e : i = n := by omega
      subst e
      rw [List.getElem_append_right (by omega)]
      simp [hl]
theorem ch_hit (nm x : ByteArray) : ∀ (n : Nat) (p : Int), (n : Int) ≤ p → (ch nm n).any (hit p x) = false
  | 0, _, _ => rfl
  | n + 1, p, hp => by
    show (ch nm n ++ [_]).any _ = _
    rw [List.any_append, ch_hit nm x n p (by omega)]
    have e : ¬ (n : Int) = p := by omega
    simp [hit, e]
theorem ch_may (nm : ByteArray) (h1 : 1 ≤ (nm.size : Int)) (h2 : (nm.size : Int) ≤ 300) : ∀ n, mayF [] (ch nm n) = true
  | 0 => rfl
  | n + 1 => by
    show mayF [] (ch nm n ++ [_]) = _
    rw [mayF_append, ch_may nm h1 h2 n, Bool.true_and, List.nil_append, okB_iff, ch_len]
    have hs : 1 ≤ ((if n = 0 then (⟨#[114]⟩ : ByteArray) else nm).size : Int) ∧ ((if n = 0 then (⟨#[114]⟩ : ByteArray) else nm).size : Int) ≤ 300 := by
      split
      · decide
      · exact ⟨h1, h2⟩
    exact ⟨rfl, ⟨fun _ => by show (0 : Int) ≤ (n : Int); omega, fun _ => by show (1 : Int) ≤ (n : Int); omega⟩, by show (n : Int) ≤ (n : Int); omega, hs.1, hs.2, ch_hit nm _ n n (by omega)⟩
theorem ch_mayB (nm : ByteArray) (h1 : 1 ≤ (nm.size : Int)) (h2 : (nm.size : Int) ≤ 300) (n : Nat) (hn : n ≤ 8) : mayB (ch nm n) = true := by
  unfold mayB; rw [ch_len, ch_may nm h1 h2 n, decide_eq_true hn]; rfl
theorem ch_in (nm : ByteArray) (n : Nat) (p : Int) (h1 : 1 ≤ p) (h2 : p ≤ n) : inB (ch nm n) p = true := (inB_iff _ _).2 ⟨h1, by rw [ch_len]; exact h2⟩
theorem ch_add (nm : ByteArray) (h1 : 1 ≤ (nm.size : Int)) (h2 : (nm.size : Int) ≤ 300) (n : Nat) (h3 : 1 ≤ n) (hn : n < 8) : addR (ch nm n) (n : Int) nm = (ch nm (n + 1), (n : Int) + 1, 0) := by
  unfold addR
  rw [if_pos (ch_mayB nm h1 h2 n (by omega)), if_pos (ch_in nm n n (by omega) (by omega)), if_pos ⟨h1, h2⟩, if_neg (by rw [ch_hit nm nm n n (by omega)]; decide), ch_len, if_neg (by omega)]
  unfold snoc
  rw [ch_len]
  show _ = (ch nm n ++ [(⟨(n : Int) + 1, (n : Int), if n = 0 then ⟨#[114]⟩ else nm⟩ : S78)], _, _)
  rw [if_neg (by omega)]
theorem ch_full (nm : ByteArray) (h1 : 1 ≤ (nm.size : Int)) (h2 : (nm.size : Int) ≤ 300) : addR (ch nm 8) 8 nm = ([], 0, 12) := by
  unfold addR
  rw [if_pos (ch_mayB nm h1 h2 8 (by omega)), if_pos (ch_in nm 8 8 (by omega) (by omega)), if_pos ⟨h1, h2⟩, if_neg (by have z := ch_hit nm nm 8 8 (by omega); rw [z]; decide), ch_len, if_pos rfl]
theorem ch_twice (nm : ByteArray) (h1 : 1 ≤ (nm.size : Int)) (h2 : (nm.size : Int) ≤ 300) (n : Nat) (h3 : 1 ≤ n) (hn : n < 8) : addR (ch nm (n + 1)) (n : Int) nm = ([], 0, 13) := by
  unfold addR
  rw [if_pos (ch_mayB nm h1 h2 (n + 1) (by omega)), if_pos (ch_in nm (n + 1) n (by omega) (by omega)), if_pos ⟨h1, h2⟩, if_pos]
  show (ch nm n ++ [(⟨(n : Int) + 1, (n : Int), if n = 0 then ⟨#[114]⟩ else nm⟩ : S78)]).any _ = _
  rw [List.any_append, if_neg (by omega)]
  simp [hit]
theorem ch_path (nm : ByteArray) (h1 : 1 ≤ (nm.size : Int)) (h2 : (nm.size : Int) ≤ 300) (n : Nat) (hn : n ≤ 8) : ∀ a : Nat, a ≤ n → (path (ch nm n) (a : Int)).length = a ∧ ∀ x : Int, x ∈ path (ch nm n) (a : Int) ↔ 1 ≤ x ∧ x ≤ a
  | 0, _ => by
    rw [path_nil (by omega)]
    exact ⟨rfl, fun x => ⟨fun h => (List.not_mem_nil h).elim, fun h => by omega⟩⟩
  | a + 1, ha => by
    have hm := ch_mayB nm h1 h2 n hn
    have hl := ch_len nm n
    obtain ⟨hi, e⟩ := ch_at nm n a (by omega)
    have hp : par (ch nm n) (((a + 1 : Nat) : Int)) = (a : Int) := by
      unfold par; rw [show ((a + 1 : Nat) : Int) - 1 = (a : Int) by omega, rdT _ a hi]; exact e
    rw [path_cons hm (by omega) (by omega), hp]
    obtain ⟨i1, i2⟩ := ch_path nm h1 h2 n hn a (by omega)
    refine ⟨by rw [List.length_cons, i1], fun x => ?_⟩
    rw [List.mem_cons, i2 x]
    omega
theorem deep_loop (a0 : Int) (nm : ByteArray) (a2 a3 : Int) (h1 : 1 ≤ (nm.size : Int)) (h2 : (nm.size : Int) ≤ 300) : ∀ d K i : Nat, i + d = 11 → 1 ≤ i → 4 * d + 100 ≤ K →
    chatelainelaw16_TenantsDeep.l0 K a0 nm a2 a3 (ch nm (if i ≤ 8 then i else 8)) (i : Int) = some true
  | d, K + 1, i, he, h3, hK => by
    obtain ⟨t, ht, t0, t1⟩ := tlow a0 10 (by omega) (by omega)
    refine (chatelainelaw16_TenantsDeep.l0.eq_2 _ _ _ _ _ _ _).trans (bnd ht ?_)
    by_cases c : (i : Int) ≤ t
    · refine ifp c ?_
      obtain ⟨d, rfl⟩ : ∃ e, d = e + 1 := ⟨d - 1, by omega⟩
      obtain ⟨K, rfl⟩ : ∃ e, K = e + 2 := ⟨K - 2, by omega⟩
      rw [ch_len]
      by_cases c8 : (i : Int) ≥ 8
      · have em : (if i ≤ 8 then i else 8) = 8 := by split <;> omega
        rw [em]
        have ea := add_f (ch nm 8) 8 nm (K + 2) (by omega)
        rw [ch_full nm h1 h2] at ea
        refine bnd ea (ifp c8 (ifp rfl (ifp rfl (bnd (num_f 12) (ifp rfl ?_)))))
        rw [w64 (by omega) (by omega)]
        have := deep_loop a0 nm a2 a3 h1 h2 d (K + 2) (i + 1) (by omega) (by omega) (by omega)
        rw [show (if i + 1 ≤ 8 then i + 1 else 8) = 8 by split <;> omega] at this
        exact this
      · have em : (if i ≤ 8 then i else 8) = i := if_pos (by omega)
        rw [em]
        have ea := add_f (ch nm i) (i : Int) nm (K + 2) (by omega)
        rw [ch_add nm h1 h2 i h3 (by omega)] at ea
        refine bnd ea (ifn c8 (ifp rfl ?_))
        rw [w64 (by omega) (by omega)]
        refine ifp rfl ?_
        have next : ∀ k, 4 * d + 100 ≤ k → chatelainelaw16_TenantsDeep.l0 k a0 nm a2 a3 (ch nm (i + 1)) (wrap64 ((i : Int) + 1)) = some true := fun k hk => by
          rw [w64 (by omega) (by omega)]
          have := deep_loop a0 nm a2 a3 h1 h2 d k (i + 1) (by omega) (by omega) hk
          rw [if_pos (by omega)] at this
          exact this
        have hne : (((ch nm (i + 1)).length : Int) != (i : Int) + 1) = false := by rw [ch_len]; simp
        show chatelainelaw16_TenantsDeep.j2 (K + 2) a0 nm a2 a3 (i : Int) (ch nm (i + 1)) (((ch nm (i + 1)).length : Int) != (i : Int) + 1) = some true
        rw [hne]
        refine (chatelainelaw16_TenantsDeep.j2.eq_2 _ _ _ _ _ _ _ _).trans (ifn (by decide) ?_)
        by_cases c9 : wrap64 ((i : Int) + 1) < 8
        · refine ifp c9 ?_
          rw [w64 (by omega) (by omega)] at c9
          by_cases c10 : (i : Int) > 1
          · rw [decide_eq_true c10]
            have et := add_f (ch nm (i + 1)) (i : Int) nm K (by omega)
            rw [ch_twice nm h1 h2 i h3 (by omega)] at et
            refine (chatelainelaw16_TenantsDeep.j3.eq_2 _ _ _ _ _ _ _ _).trans (ifp rfl ?_)
            rw [ch_len, show wrap64 (((i + 1 : Nat) : Int) - 1) = (i : Int) by rw [w64 (by omega) (by omega)]; omega]
            exact bnd et (bnd (num_f 13) (ifp rfl (next K (by omega))))
          · rw [decide_eq_false c10]
            exact (chatelainelaw16_TenantsDeep.j3.eq_2 _ _ _ _ _ _ _ _).trans (ifn (by decide) (next K (by omega)))
        · refine ifn c9 ?_
          exact (chatelainelaw16_TenantsDeep.j3.eq_2 _ _ _ _ _ _ _ _).trans (ifn (by decide) (next K (by omega)))
    · refine ifn c ?_
      generalize hm : (if i ≤ 8 then i else 8) = m
      have hm1 : 1 ≤ m ∧ m ≤ 8 := by subst hm; split <;> omega
      rw [ch_len]
      obtain ⟨u, hu, u0, u1⟩ := tlow a2 (m : Int) (by omega) (by omega)
      obtain ⟨v, hv, v0, v1⟩ := tlow a3 (m : Int) (by omega) (by omega)
      refine bnd hu (bnd hv ?_)
      rw [w64 (n := 1 + u) (by omega) (by omega), w64 (n := 1 + v) (by omega) (by omega)]
      obtain ⟨A, rfl⟩ : ∃ A : Nat, u = (A : Int) := ⟨u.toNat, by omega⟩
      obtain ⟨B, rfl⟩ : ∃ B : Nat, v = (B : Int) := ⟨v.toNat, by omega⟩
      rw [show (1 : Int) + (A : Int) = ((A + 1 : Nat) : Int) by omega, show (1 : Int) + (B : Int) = ((B + 1 : Nat) : Int) by omega]
      have pa := ch_path nm h1 h2 m hm1.2 (A + 1) (by omega)
      have pb := ch_path nm h1 h2 m hm1.2 (B + 1) (by omega)
      refine bnd (path_f _ _ K (by omega)) (ifp (by rw [pa.1]) (bnd (above_f _ _ _ K (by omega)) (ifp ?_ (bnd (may_f _ K (by omega)) (ifp (ch_mayB nm h1 h2 m hm1.2) (bnd (tenant_awake K (by omega)) rfl))))))
      rw [beq_iff_eq]
      refine decide_eq_decide.2 ((pb.2 _).trans ?_)
      omega
theorem TenantsDeep : chatelainelaw16_TenantsDeep.Pure := by
  intro a0 a1 a2 a3 h0 h1 h2 h3
  refine ⟨300, ?_⟩
  have done : chatelainelaw16_TenantsDeep.j0 300 a0 a1 a2 a3 true = some true := (chatelainelaw16_TenantsDeep.j0.eq_2 _ _ _ _ _ _).trans (ifp rfl (bnd (tenant_awake 299 (by omega)) rfl))
  unfold chatelainelaw16_TenantsDeep.f
  by_cases c : (a1.size : Int) > 300
  · exact ifp c done
  · refine ifn c ?_
    cases e : (a1.toList == ([] : List UInt8)) with
    | true => exact done
    | false =>
      have hs : 1 ≤ (a1.size : Int) := by
        rcases Nat.eq_zero_or_pos a1.size with z | z
        · have : a1.toList = [] := List.eq_nil_of_length_eq_zero (by rw [ByteArray.toList_eq, Array.length_toList]; exact z)
          rw [this] at e; cases e
        · omega
      exact (chatelainelaw16_TenantsDeep.j0.eq_2 _ _ _ _ _ _).trans (ifn (by decide) (bnd rfl (deep_loop a0 a1 a2 a3 hs (by omega) 10 299 1 (by omega) (by omega) (by omega))))
end Go.Proofs.YthliabidnboklaaDoor.Pure
