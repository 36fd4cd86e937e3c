import Derived.Test.YtggiddekbocokaaDoorLuB
import Derived.Test.YtggiddekbocokaaDoorPLPx19
namespace Go.Proofs.YtggiddekbocokaaDoor.PLP
open Go.RowKit Go.Proofs.YtggiddekbocokaaDoorW.PrintWords Go.Proofs.YtggiddekbocokaaDoorW.PrintLast Go.Proofs.YtggiddekbocokaaDoorW.PrintMore
attribute [local go_sem] max2_int min2_int max_two min_two max_three min_three max_four min_four
set_option linter.unusedVariables false
set_option linter.unusedSimpArgs false
-- U3: made, and the law LayPlaces, plainly
theorem low_is (a : Int) (n : Nat) (h0 : 0 < n) (h1 : n < 4294967296) : ∃ r : Nat, r < n ∧ chatelainelaw0_Low.f a (n : Int) = some (r : Int) := by
  have hw : ∀ x : Int, IntKind.u64.wrap x = x % 18446744073709551616 := fun x => by simp [IntKind.wrap, IntKind.bits, IntKind.signed]
  have hn : IntKind.u64.wrap (n : Int) = (n : Int) := by rw [hw]; omega
  have hu := hw a
  have hu0 : 0 ≤ IntKind.u64.wrap a := by rw [hu]; omega
  have hr0 : 0 ≤ IntKind.u64.wrap a % (n : Int) := Int.emod_nonneg _ (by omega)
  have hr1 : IntKind.u64.wrap a % (n : Int) < (n : Int) := Int.emod_lt_of_pos _ (by omega)
  refine ⟨(IntKind.u64.wrap a % (n : Int)).toNat, by omega, ?_⟩
  unfold chatelainelaw0_Low.f
  rw [hn, if_neg (by omega), Int.tmod_eq_emod_of_nonneg hu0, u_w64 (by omega) (by omega), Int.toNat_of_nonneg hr0]
structure MadeU (K : Nat) (h : List (List Int)) (n : Nat) : Prop where
  len : h.length = K
  rows : ∀ f ∈ h, P01 f
  sum : (plcs h).length = n
theorem plc_set : ∀ (f : List Int) (b i : Nat), b < f.length → f.getD b 0 = 0 → (plc (f.set b 1) i).length = (plc f i).length + 1
  | [], _, _, h, _ => absurd h (by simp)
  | x :: r, 0, i, _, h => by
    have h : x = 0 := h
    subst h
    rw [List.set_cons_zero, plc, plc, if_pos rfl, if_neg (by decide), List.length_cons]
  | x :: r, b + 1, i, hb, h => by
    have := plc_set r b (i + 1) (by simpa using hb) (by simpa using h)
    rw [List.set_cons_succ, plc, plc]
    by_cases c : x = 1
    · rw [if_pos c, if_pos c, List.length_cons, List.length_cons, this]
    · rw [if_neg c, if_neg c, this]
theorem plcs_set : ∀ (h : List (List Int)) (a : Nat) (f : List Int), a < h.length → (plcs (h.set a f)).length + (plc (h.getD a []) 0).length = (plcs h).length + (plc f 0).length
  | [], _, _, h => absurd h (by simp)
  | x :: r, 0, f, _ => by
    have e : ∀ y, plcs (y :: r) = plc y 0 ++ plcs r := fun _ => rfl
    rw [List.set_cons_zero, e, e, List.length_append, List.length_append]
    show _ + (plc x 0).length = _
    omega
  | x :: r, a + 1, f, ha => by
    have := plcs_set r a f (by simpa using ha)
    have e : ∀ y, plcs (x :: y) = plc x 0 ++ plcs y := fun _ => rfl
    rw [List.set_cons_succ, e, e, List.length_append, List.length_append]
    show _ + (plc (r.getD a []) 0).length = _
    omega
theorem MadeU.at {K : Nat} {h : List (List Int)} {n : Nat} (m : MadeU K h n) {a : Nat} (ha : a < K) : P01 (h.getD a []) := by
  have hal : a < h.length := by rw [m.len]; exact ha
  refine m.rows _ ?_
  rw [List.getD_eq_getElem?_getD, List.getElem?_eq_getElem hal]
  exact List.getElem_mem hal
theorem MadeU.set {K : Nat} {h : List (List Int)} {n : Nat} (m : MadeU K h n) {a b : Nat} (ha : a < K) (hb : b < 256) (h0 : (h.getD a []).getD b 0 = 0) : MadeU K (h.set a ((h.getD a []).set b 1)) (n + 1) := by
  have hal : a < h.length := by rw [m.len]; exact ha
  obtain ⟨r1, r2⟩ := m.at ha
  refine ⟨List.length_set.trans m.len, fun f hf => ?_, ?_⟩
  · rcases List.mem_or_eq_of_mem_set hf with e | e
    · exact m.rows f e
    · rw [e]
      refine ⟨List.length_set.trans r1, fun x hx => ?_⟩
      rcases List.mem_or_eq_of_mem_set hx with e2 | e2
      · exact r2 x e2
      · exact .inr e2
  · have e1 := plcs_set h a ((h.getD a []).set b 1) hal
    have e2 := plc_set (h.getD a []) b 0 (by rw [r1]; exact hb) h0
    have e3 := m.sum
    omega
theorem made_l1 (K : Nat) (hK : 0 < K ∧ K ≤ 50) (ns : List Int) (hn : ns.length ≤ 100) (c1 c2 c3 c4 c5 c6 c7 c8 : Int) : ∀ (m i k : Nat) (h : List (List Int)) (n : Nat), i + m = ns.length → m < k → MadeU K h n → n ≤ i →
    ∃ (h' : List (List Int)) (n' : Nat), chatelainelaw11_made.l1 k ns h (n : Int) (i : Int) (K : Int) c1 c2 c3 c4 c5 c6 c7 c8 = some (h', (n' : Int)) ∧ MadeU K h' n' ∧ n' ≤ 100
  | 0, i, k + 1, h, n, hi, hk, hM, hni => ⟨h, n, by rw [chatelainelaw11_made.l1, if_neg (by omega)], hM, by omega⟩
  | m + 1, i, k + 1, h, n, hi, hk, hM, hni => by
    have hil : i < ns.length := by omega
    obtain ⟨a, ha, ea⟩ := low_is ns[i] K hK.1 (by omega)
    obtain ⟨b, hb, eb⟩ := low_is (wrap64 (Int.tdiv ns[i] 8)) 256 (by decide) (by decide)
    have hL := hM.len
    obtain ⟨r1, r2⟩ := hM.at ha
    have eL : rd_L3 h (a : Int) = h.getD a [] := by unfold rd_L3; rw [Int.toNat_natCast]
    have eR : rd (h.getD a []) (b : Int) = (h.getD a []).getD b 0 := by unfold rd; rw [Int.toNat_natCast]
    rw [chatelainelaw11_made.l1, if_pos (by omega), if_pos (by omega), u_rd ns i hil, ea, Option.bind_some, show chatelainelaw0_Low.f (wrap64 (Int.tdiv ns[i] 8)) 256 = some (b : Int) from eb, Option.bind_some, if_pos (by omega), if_pos (by omega), if_pos (by omega), eL, if_pos (by omega), eR, Int.toNat_natCast, Int.toNat_natCast, u_w64 (n := (i : Int) + 1) (by omega) (by omega), u_w64 (n := (n : Int) + 1) (by omega) (by omega), show (i : Int) + 1 = ((i + 1 : Nat) : Int) by omega, show (n : Int) + 1 = ((n + 1 : Nat) : Int) by omega]
    by_cases c : (h.getD a []).getD b 0 = 0
    · rw [if_pos c]
      exact made_l1 K hK ns hn c1 c2 c3 c4 c5 c6 c7 c8 m (i + 1) k _ (n + 1) (by omega) (by omega) (hM.set ha hb c) (by omega)
    · rw [if_neg c]
      exact made_l1 K hK ns hn c1 c2 c3 c4 c5 c6 c7 c8 m (i + 1) k h n (by omega) (by omega) hM (by omega)
theorem plcs_zero : ∀ K : Nat, MadeU K (List.replicate K (List.replicate 256 0)) 0 := fun K => by
  have hz : plc zer 0 = [] := by decide +kernel
  refine ⟨List.length_replicate, fun f hf => by rw [List.eq_of_mem_replicate hf]; exact zer_01, ?_⟩
  induction K with
  | zero => rfl
  | succ K ih =>
    rw [List.replicate_succ]
    have e : plcs (List.replicate 256 0 :: List.replicate K (List.replicate 256 0)) = plc zer 0 ++ plcs (List.replicate K (List.replicate 256 0)) := rfl
    rw [e, hz, List.nil_append]
    exact ih
theorem made_l0 (K : Nat) (hK : 0 < K ∧ K ≤ 50) (ns : List Int) (hn : ns.length ≤ 100) (c1 c2 c3 c4 c5 c6 c7 c8 : Int) : ∀ (m i k : Nat), i + m = K → m + 200 < k →
    ∃ (h' : List (List Int)) (n' : Nat), chatelainelaw11_made.l0 k ns (List.replicate i (List.replicate 256 0)) (i : Int) (K : Int) c1 c2 c3 c4 c5 c6 c7 c8 = some (h', ((n' : Nat) : Int)) ∧ MadeU K h' n' ∧ n' ≤ 100
  | 0, i, k + 1, hi, hk => by
    obtain ⟨h', n', e, h1, h2⟩ := made_l1 K hK ns hn c1 c2 c3 c4 c5 c6 c7 c8 ns.length 0 k _ 0 (by omega) (by omega) (plcs_zero K) (by omega)
    refine ⟨h', n', ?_, h1, h2⟩
    rw [chatelainelaw11_made.l0, if_neg (by omega), show i = K by omega]
    exact e
  | m + 1, i, k + 1, hi, hk => by
    obtain ⟨h', n', e, h1, h2⟩ := made_l0 K hK ns hn c1 c2 c3 c4 c5 c6 c7 c8 m (i + 1) k (by omega) (by omega)
    refine ⟨h', n', ?_, h1, h2⟩
    rw [chatelainelaw11_made.l0, if_pos (by omega), if_pos (by decide), if_pos (by rw [List.length_replicate]; omega), ← List.replicate_succ', u_w64 (by omega) (by omega), show (i : Int) + 1 = ((i + 1 : Nat) : Int) by omega]
    exact e
theorem xor_is (x y : Int) (hx : 0 ≤ x ∧ x < 256) (hy : 0 ≤ y ∧ y < 256) : 0 ≤ Go.bits .xor .u8 x y ∧ Go.bits .xor .u8 x y < 256 ∧ (Go.bits .xor .u8 x y = x ↔ y = 0) := by
  obtain ⟨a, rfl⟩ := Int.eq_ofNat_of_zero_le hx.1
  obtain ⟨b, rfl⟩ := Int.eq_ofNat_of_zero_le hy.1
  have ha : a < 2 ^ 8 := by omega
  have hb : b < 2 ^ 8 := by omega
  have hw : ∀ n : Int, IntKind.u8.wrap n = n % 256 := fun n => by simp [IntKind.wrap, IntKind.bits, IntKind.signed]
  have e : Go.bits .xor .u8 (a : Int) (b : Int) = ((a ^^^ b : Nat) : Int) := by
    have h1 := Nat.xor_lt_two_pow ha hb
    have ha' : a % 2 ^ IntKind.u8.bits = a := Nat.mod_eq_of_lt ha
    have hb' : b % 2 ^ IntKind.u8.bits = b := Nat.mod_eq_of_lt hb
    simp only [Go.bits, BitVec.ofInt_natCast, BitVec.toNat_xor, BitVec.toNat_ofNat, ha', hb']
    rw [hw]
    omega
  have h1 := Nat.xor_lt_two_pow ha hb
  rw [e]
  refine ⟨Int.natCast_nonneg _, by omega, ?_⟩
  constructor
  · intro h
    have h : a ^^^ b = a := by omega
    have h2 : a ^^^ (a ^^^ b) = b := by rw [← Nat.xor_assoc, Nat.xor_self, Nat.zero_xor]
    rw [h, Nat.xor_self] at h2
    omega
  · intro h
    have : b = 0 := by omega
    rw [this, Nat.xor_zero]
theorem awake_yes : chatelainelaw11_awake.f 200000 = some true ∧ chatelainelaw11_awake.f 200001 = some true := by decide +kernel
theorem places_set (s t : Int) (K om : Nat) (c1 c2 c3 c4 c6 c7 c8 : Int) (hof : lay_Of.f s = some ((K : Int), c1, c2, c3, c4, (om : Int), c6, c7, c8, true)) (hrf : chatelaineref11_Of.f s = some ((K : Int), c1, c2, c3, c4, (om : Int), c6, c7, c8, true)) (hK : 0 < K ∧ K ≤ 50) (hom : om ≤ 200)
    (a0 : Int) (ns : List Int) (a2 a3 : Int) (hn : ns.length ≤ 100) (hlow : chatelainelaw0_Low.f a0 3 = some t) (hst : wrap64 (1 + t) = s) (h3 : 0 ≤ a3 ∧ a3 < 256) : chatelainelaw11_LayPlaces.f 200001 a0 ns a2 a3 = some true := by
  obtain ⟨h, n, hm, hM, hn1⟩ := made_l0 K hK ns hn c1 c2 c3 c4 (om : Int) c6 c7 c8 K 0 200001 (by omega) (by omega)
  have hmf : chatelainelaw11_made.f 200001 (K : Int) c1 c2 c3 c4 (om : Int) c6 c7 c8 ns = some (h, (n : Int)) := hm
  have hH := hi_is 200001 s K om c1 c2 c3 c4 c6 c7 c8 hof hK.2 hom h hM.len hM.rows (by decide)
  have hsum := hM.sum
  unfold chatelainelaw11_LayPlaces.f
  refine u_ifn (by omega) (u_bnd hlow ?_)
  simp only [hst]
  refine u_bnd hrf (u_bnd hmf (u_bnd hH ?_))
  by_cases c : (plcs h).length > om
  · rw [if_pos c]
    refine u_ifp (show (n : Int) > (om : Int) by omega) (u_ifp rfl (u_bnd (show chatelainelaw0_Num.f (FL 5) = some 5 from rfl) (u_ifp rfl (u_bnd awake_yes.2 rfl))))
  · rw [if_neg c]
    have hlen : (hb om h).length = om + K := by rw [hb_len om h (by omega), hM.len]
    have hB := hb_B om h (fun f hf => by rw [(hM.rows f hf).1]; omega) (by omega)
    have hU := un_is 200001 s K om c1 c2 c3 c4 c6 c7 c8 hof hK.2 hom (hb om h) hB hlen (by decide)
    rw [uh_hb om h hM.rows (by omega)] at hU
    have hS : chatelainelaw0_SamePolys.f 200001 h h = some true := by rw [sp_is 200001 h h (by have := hM.len; omega) (fun f hf => by rw [(hM.rows f hf).1]; omega) (by decide)]; simp
    refine u_ifn (show ¬ (n : Int) > (om : Int) by omega) (u_bnd hU (u_ifp rfl (u_ifp rfl (u_ifp ?_ (u_bnd hS ?_)))))
    · show ((hb om h).length : Int) = wrap64 ((om : Int) + (K : Int))
      rw [u_w64 (by omega) (by omega), hlen]; omega
    · obtain ⟨p, hp, ep⟩ := low_is a2 (hb om h).length (by omega) (by omega)
      have hxB := hB (hb om h)[p] (List.getElem_mem hp)
      obtain ⟨x0, x1, x2⟩ := xor_is (hb om h)[p] a3 hxB h3
      have hB' : ∀ x ∈ (hb om h).set p (Go.bits .xor .u8 (hb om h)[p] a3), 0 ≤ x ∧ x < 256 := fun x hx => by
        rcases List.mem_or_eq_of_mem_set hx with e | e
        · exact hB x e
        · rw [e]; exact ⟨x0, x1⟩
      have hl' : ((hb om h).set p (Go.bits .xor .u8 (hb om h)[p] a3)).length = om + K := List.length_set.trans hlen
      have hU2 := un_is 200000 s K om c1 c2 c3 c4 c6 c7 c8 hof hK.2 hom _ hB' hl' (by decide)
      show chatelainelaw11_LayPlaces.j0 (200000 + 1) s a2 a3 h (hb om h) (!true) = some true
      rw [chatelainelaw11_LayPlaces.j0]
      refine u_ifn (by decide) (u_bnd ep (u_ifp (Int.natCast_nonneg _) (u_ifp (Int.ofNat_lt.mpr hp) ?_)))
      rw [u_rd _ p hp, Int.toNat_natCast]
      refine u_bnd hU2 ?_
      cases hu : uh om ((hb om h).set p (Go.bits .xor .u8 (hb om h)[p] a3)) with
      | none =>
        refine u_ifn (by decide) (u_bnd (show chatelainelaw0_Num.f (FL 4) = some 4 from rfl) (u_ifp rfl (u_ifp rfl (u_bnd awake_yes.1 rfl))))
      | some g =>
        obtain ⟨g1, g2, g3, g4⟩ := hb_uh om K _ hB' hl' g hu
        have hS2 := sp_is 200000 g h (by omega) (fun f hf => by rw [(g1 f hf).1]; omega) (by decide)
        refine u_ifp rfl (u_bnd hS2 (u_ifp ?_ (u_bnd awake_yes.1 rfl)))
        rw [beq_iff_eq]
        by_cases c3 : a3 = 0
        · have e : (hb om h).set p (Go.bits .xor .u8 (hb om h)[p] a3) = hb om h := by rw [x2.mpr c3, List.set_getElem_self]
          rw [e, uh_hb om h hM.rows (by omega)] at hu
          cases hu
          simp [c3]
        · have : g ≠ h := by
            intro e
            rw [e] at g4
            have h5 := congrArg (fun l => l[p]?) g4
            simp only [List.getElem?_set_self hp, List.getElem?_eq_getElem hp] at h5
            exact c3 (x2.mp (Option.some.inj h5).symm)
          simp [this, c3]
theorem places_pure (a0 : Int) (ns : List Int) (a2 a3 : Int) (h3 : 0 ≤ a3 ∧ a3 < 256) : ∃ k, chatelainelaw11_LayPlaces.f k a0 ns a2 a3 = some true := by
  by_cases c : ns.length ≤ 100
  · refine ⟨200001, ?_⟩
    obtain ⟨t, ht, hf⟩ := low_is a0 3 (by decide) (by decide)
    have h3' : t = 0 ∨ t = 1 ∨ t = 2 := by omega
    rcases h3' with rfl | rfl | rfl
    · exact places_set 1 _ 4 80 _ _ _ _ _ _ _ rfl rfl (by decide) (by decide) a0 ns a2 a3 c hf ((u_w64 (by decide) (by decide)).trans rfl) h3
    · exact places_set 2 _ 6 55 _ _ _ _ _ _ _ rfl rfl (by decide) (by decide) a0 ns a2 a3 c hf ((u_w64 (by decide) (by decide)).trans rfl) h3
    · exact places_set 3 _ 8 75 _ _ _ _ _ _ _ rfl rfl (by decide) (by decide) a0 ns a2 a3 c hf ((u_w64 (by decide) (by decide)).trans rfl) h3
  · refine ⟨200001, ?_⟩
    unfold chatelainelaw11_LayPlaces.f
    exact u_ifp (by omega) (u_bnd awake_yes.2 rfl)

end Go.Proofs.YtggiddekbocokaaDoor.PLP
