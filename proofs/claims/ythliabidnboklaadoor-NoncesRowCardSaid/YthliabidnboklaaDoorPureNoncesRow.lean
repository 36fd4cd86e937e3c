/- Numbers that come one behind the other are all taken, and leave a window whose last bits are all 1; backwards they are taken as far as the window goes. No condition. -/
import Derived.Test.YthliabidnboklaaDoorPNonx7
import Derived.Test.YthliabidnboklaaDoorPNonx9
import Derived.Test.YthliabidnboklaaDoorNonceBase
namespace Go.Proofs.YthliabidnboklaaDoor.Pure
open Go.RowKit Go.Proofs.YthliabidnboklaaDoor.PNon Go.Proofs.YthliabidnboklaaDoor.NonB Go.Proofs.YthliabidnboklaaDoorW.PrintWords Go.Proofs.YthliabidnboklaaDoorW.PrintLast Go.Proofs.YthliabidnboklaaDoorW.PrintMore

theorem rlow_eq (a n : Int) (hn : 0 < n) (hn' : n ≤ 9223372036854775807) : chatelainelaw0_Low.f a n = some (IntKind.u64.wrap a % n) ∧ 0 ≤ IntKind.u64.wrap a % n ∧ IntKind.u64.wrap a % n < n := by
  have e : IntKind.u64.wrap n = n := by rw [wrap_u64]; omega
  have e0 : 0 ≤ IntKind.u64.wrap a := by rw [wrap_u64]; omega
  have h1 := Int.emod_nonneg (IntKind.u64.wrap a) (show n ≠ 0 by omega)
  have h2 := Int.emod_lt_of_pos (IntKind.u64.wrap a) hn
  refine ⟨?_, h1, h2⟩
  unfold chatelainelaw0_Low.f
  rw [e, if_neg (by omega), Int.tmod_eq_emod_of_nonneg e0, w64 (by omega) (by omega)]
theorem row_t0 (p : Int) : ¬ Tk 0 0 p := fun z => by have := z.2.2; rw [Nat.zero_testBit] at this; cases this
theorem row_m0 : MayP 0 0 := ⟨by omega, by omega, fun i _ _ => Nat.zero_testBit i, .inl rfl⟩
/-- Behind the first i numbers. -/
def Fwd (a : Int) (i : Nat) (h : Int) (u : Nat) : Prop := u < B64 ∧ MayP h u ∧ h = (if i = 0 then 0 else a + i - 1) ∧ ∀ p, Tk h u p ↔ a ≤ p ∧ p ≤ h ∧ h - p < 64
theorem fwd_0 (a : Int) (ha : 1 ≤ a) : Fwd a 0 0 0 := ⟨by decide, row_m0, rfl, fun p => ⟨fun z => absurd z (row_t0 p), fun z => by omega⟩⟩
theorem fwd_fresh (a : Int) (i : Nat) (h : Int) (u : Nat) (ha : 1 ≤ a ∧ a ≤ 100000) (hi : i < 200) (f : Fwd a i h u) : FreshP h u (a + i) ∧ useH h (a + i) = a + i ∧ Fwd a (i + 1) (a + i) (useU h u (a + i)) := by
  obtain ⟨f1, f2, f3, f4⟩ := f
  have hlt : h < a + i := by rw [f3]; split <;> omega
  have hf : FreshP h u (a + i) := ⟨f2, by omega, by omega, by omega, fun z => by have := z.1; omega⟩
  have eH : useH h (a + i) = a + i := if_pos hlt
  have hm := may_use h u (a + i) hf
  have ht := fun p => tk_use h u (a + i) p hf.2.2.2.1
  rw [eH] at hm ht
  refine ⟨hf, eH, useU_lt h u _ f1 hf.2.2.2.1, hm, by rw [if_neg (by omega)]; omega, fun p => ?_⟩
  rw [ht p, f4 p]
  constructor
  · rintro ⟨⟨x, y⟩, z | z⟩
    · exact ⟨z.1, x, y⟩
    · exact ⟨by omega, x, y⟩
  · rintro ⟨x, y, z⟩
    refine ⟨⟨y, z⟩, ?_⟩
    by_cases e : p = a + i
    · exact .inr e
    · refine .inl ⟨x, ?_, ?_⟩
      · rw [f3]; split <;> omega
      · omega
/-- Behind the last c of many numbers, backwards. -/
def Bwd (a : Int) (many c : Nat) (h : Int) (u : Nat) (took : Int) : Prop := u < B64 ∧ MayP h u ∧ h = (if c = 0 then 0 else a + many - 1) ∧ took = ((min c 64 : Nat) : Int) ∧ ∀ p, Tk h u p ↔ a + many - 1 - c < p ∧ p ≤ h ∧ h - p < 64
theorem bwd_0 (a : Int) (many : Nat) (ha : 1 ≤ a) : Bwd a many 0 0 0 0 := ⟨by decide, row_m0, rfl, rfl, fun p => ⟨fun z => absurd z (row_t0 p), fun z => by omega⟩⟩
theorem bwd_step (a : Int) (many c : Nat) (h : Int) (u : Nat) (took : Int) (ha : 1 ≤ a ∧ a ≤ 100000) (hm : many < 150) (hc : c < many) (f : Bwd a many c h u took) :
    (FreshP h u (a + many - 1 - c) ∧ Bwd a many (c + 1) (useH h (a + many - 1 - c)) (useU h u (a + many - 1 - c)) (took + 1)) ∨ (¬ FreshP h u (a + many - 1 - c) ∧ Bwd a many (c + 1) h u took) := by
  obtain ⟨f1, f2, f3, f4, f5⟩ := f
  by_cases c0 : c = 0
  · subst c0
    rw [if_pos rfl] at f3
    subst f3
    have hf : FreshP 0 u (a + many - 1 - (0 : Nat)) := ⟨f2, by omega, by omega, by omega, fun z => by have := z.1; omega⟩
    have eH : useH 0 (a + many - 1 - (0 : Nat)) = a + many - 1 - (0 : Nat) := if_pos (by omega)
    have hm2 := may_use 0 u _ hf
    have ht := fun p => tk_use 0 u (a + many - 1 - (0 : Nat)) p hf.2.2.2.1
    rw [eH] at hm2 ht
    refine .inl ⟨hf, ?_⟩
    rw [eH]
    refine ⟨useU_lt 0 u _ f1 hf.2.2.2.1, hm2, by rw [if_neg (by omega)]; omega, by rw [f4]; omega, fun p => ?_⟩
    rw [ht p, f5 p]
    constructor
    · rintro ⟨⟨x, y⟩, z | z⟩
      · exact ⟨by omega, by omega, by omega⟩
      · exact ⟨by omega, by omega, by omega⟩
    · rintro ⟨x, y, z⟩
      exact ⟨⟨by omega, by omega⟩, .inr (by omega)⟩
  · rw [if_neg c0] at f3
    by_cases w : c < 64
    · have hf : FreshP h u (a + many - 1 - c) := ⟨f2, by omega, by omega, by omega, fun z => by have := (f5 _).1 z; omega⟩
      have eH : useH h (a + many - 1 - c) = h := if_neg (by omega)
      have hm2 := may_use h u _ hf
      have ht := fun p => tk_use h u (a + many - 1 - c) p hf.2.2.2.1
      rw [eH] at hm2 ht
      refine .inl ⟨hf, ?_⟩
      rw [eH]
      refine ⟨useU_lt h u _ f1 hf.2.2.2.1, hm2, by rw [if_neg (by omega)]; omega, by rw [f4]; omega, fun p => ?_⟩
      rw [ht p, f5 p]
      constructor
      · rintro ⟨⟨x, y⟩, z | z⟩
        · exact ⟨by omega, by omega, by omega⟩
        · exact ⟨by omega, by omega, by omega⟩
      · rintro ⟨x, y, z⟩
        refine ⟨⟨y, z⟩, ?_⟩
        by_cases e : p = a + many - 1 - c
        · exact .inr e
        · exact .inl ⟨by omega, y, z⟩
    · refine .inr ⟨fun z => by have := z.2.2.2.1; omega, f1, f2, by rw [if_neg (by omega)]; omega, by rw [f4]; omega, fun p => ?_⟩
      rw [f5 p]
      constructor
      · rintro ⟨x, y, z⟩; exact ⟨by omega, y, z⟩
      · rintro ⟨x, y, z⟩; exact ⟨by omega, y, z⟩
theorem row_l2 (a : Int) (many : Nat) (ha : 1 ≤ a ∧ a ≤ 100000) (hm : many < 150) (H : Int) (U : Nat) (hF : Fwd a many H U) : ∀ (m c k : Nat) (h : Int) (u : Nat) (took : Int), c + m = many → Bwd a many c h u took → m + 5 < k →
    chatelainelaw18_NoncesRow.l2 k a (many : Int) H (U : Int) h (u : Int) took ((many : Int) - 1 - c) = some true := by
  intro m
  induction m with
  | zero =>
    intro c k h u took hc hb hk
    obtain ⟨k, rfl⟩ : ∃ q, k = q + 1 + 1 := ⟨k - 2, by omega⟩
    obtain rfl : c = many := by omega
    obtain ⟨f1, f2, f3, f4, f5⟩ := hb
    obtain ⟨g1, g2, g3, g4⟩ := hF
    have eh : h = H := by rw [f3, g3]
    subst eh
    have eu : u = U := win_ext h u U f1 g1 fun p _ _ => by
      rw [f5 p, g4 p]
      constructor
      · rintro ⟨x, y, z⟩; exact ⟨by omega, y, z⟩
      · rintro ⟨x, y, z⟩; exact ⟨by omega, y, z⟩
    subst eu
    refine (chatelainelaw18_NoncesRow.l2.eq_2 _ _ _ _ _ _ _ _ _).trans (ifn (by omega) (ifp ?_ (ifp rfl (ifp rfl (bnd (nawake k) rfl)))))
    rw [f4]; unfold mn; split <;> omega
  | succ m ih =>
    intro c k h u took hc hb hk
    obtain ⟨k, rfl⟩ : ∃ q, k = q + 1 + 1 := ⟨k - 2, by omega⟩
    have hbt := hb.2.2.2.1
    have hb1 := hb.1
    have hb2 := hb.2.1
    have e1 : wrap64 (a + ((many : Int) - 1 - c)) = a + many - 1 - c := by rw [w64 (n := a + ((many : Int) - 1 - c)) (by omega) (by omega)]; omega
    have e2 : wrap64 ((many : Int) - 1 - c - 1) = (many : Int) - 1 - ((c + 1 : Nat) : Int) := by rw [w64 (n := (many : Int) - 1 - c - 1) (by omega) (by omega)]; omega
    have e3 : wrap64 (took + 1) = took + 1 := w64 (by omega) (by omega)
    refine (chatelainelaw18_NoncesRow.l2.eq_2 _ _ _ _ _ _ _ _ _).trans (ifp (by omega) ?_)
    rw [e1, e2, e3]
    rcases bwd_step a many c h u took ha hm (by omega) hb with ⟨hf, hn⟩ | ⟨hf, hn⟩
    · exact bnd (use_yes k h u hb1 _ hf) (ifp rfl (ih (c + 1) (k + 1) _ _ _ (by omega) hn (by omega)))
    · exact bnd (use_no k h u hb1 _ (by omega) hb2 hf) (ifn (by decide) (ih (c + 1) (k + 1) _ _ _ (by omega) hn (by omega)))
theorem ones_or (v : Nat) : v * 2 ||| 1 = v * 2 + 1 := by
  have := Nat.two_pow_add_eq_or_of_lt (i := 1) (b := 1) (by decide) v
  rw [Nat.pow_one, Nat.mul_comm] at this
  exact this.symm
theorem row_ones (a : Int) (many : Nat) (ha : 1 ≤ a) (H : Int) (U : Nat) (hF : Fwd a many H U) : U = 2 ^ (min many 64) - 1 := by
  obtain ⟨g1, g2, g3, g4⟩ := hF
  have hlt : 2 ^ (min many 64) - 1 < B64 := by
    have : (2 : Nat) ^ (min many 64) ≤ 2 ^ 64 := Nat.pow_le_pow_right (by decide) (Nat.min_le_right _ _)
    have hp := Nat.two_pow_pos (min many 64)
    generalize (2 : Nat) ^ (min many 64) = x at this hp ⊢
    have h2 : x ≤ 18446744073709551616 := this
    show x - 1 < 18446744073709551616
    omega
  refine win_ext H _ _ g1 hlt fun p hp hp2 => ?_
  rw [g4 p]
  unfold Tk
  rw [Nat.testBit_two_pow_sub_one, decide_eq_true_iff]
  by_cases c0 : many = 0
  · rw [if_pos c0] at g3
    exact ⟨fun z => by omega, fun z => by omega⟩
  · rw [if_neg c0] at g3
    exact ⟨fun z => ⟨z.2.1, z.2.2, by omega⟩, fun z => ⟨by omega, hp, hp2⟩⟩
theorem row_l1 (a : Int) (many : Nat) (ha : 1 ≤ a ∧ a ≤ 100000) (hm : many < 150) (H : Int) (U : Nat) (hF : Fwd a many H U) : ∀ (m j k : Nat), j + m = min many 64 → m + 200 < k →
    chatelainelaw18_NoncesRow.l1 k a (many : Int) H (U : Int) ((2 ^ j - 1 : Nat) : Int) (j : Int) = some true := by
  have hend : ∀ k, 190 < k → chatelainelaw18_NoncesRow.j2 k a (many : Int) H (U : Int) ((2 ^ (min many 64) - 1 : Nat) : Int) = some true := by
    intro k hk
    obtain ⟨k, rfl⟩ : ∃ q, k = q + 1 := ⟨k - 1, by omega⟩
    refine (chatelainelaw18_NoncesRow.j2.eq_2 _ _ _ _ _ _).trans (ifp (by rw [← row_ones a many ha.1 H U hF]) ?_)
    rw [w64 (n := (many : Int) - 1) (by omega) (by omega)]
    have := row_l2 a many ha hm H U hF many 0 k 0 0 0 (by omega) (bwd_0 a many ha.1) (by omega)
    rw [show (many : Int) - 1 - ((0 : Nat) : Int) = (many : Int) - 1 by omega] at this
    exact this
  intro m
  induction m with
  | zero =>
    intro j k hj hk
    obtain ⟨k, rfl⟩ : ∃ q, k = q + 1 := ⟨k - 1, by omega⟩
    obtain rfl : j = min many 64 := by omega
    refine (chatelainelaw18_NoncesRow.l1.eq_2 _ _ _ _ _ _ _).trans ?_
    by_cases c : ((min many 64 : Nat) : Int) < (many : Int)
    · exact ifp c (ifn (by omega) (hend k (by omega)))
    · exact ifn c (hend k (by omega))
  | succ m ih =>
    intro j k hj hk
    obtain ⟨k, rfl⟩ : ∃ q, k = q + 1 := ⟨k - 1, by omega⟩
    have ej : wrap64 ((j : Int) + 1) = ((j + 1 : Nat) : Int) := by rw [w64 (n := (j : Int) + 1) (by omega) (by omega)]; omega
    refine (chatelainelaw18_NoncesRow.l1.eq_2 _ _ _ _ _ _ _).trans (ifp (by omega) (ifp (by omega) ?_))
    have hp := Nat.two_pow_pos j
    have hle : (2 : Nat) ^ (j + 1) ≤ 18446744073709551616 := show (2 : Nat) ^ (j + 1) ≤ 2 ^ 64 from Nat.pow_le_pow_right (by decide) (by omega)
    have hs : (2 : Nat) ^ (j + 1) = 2 ^ j * 2 := Nat.pow_succ ..
    have e : Go.bits .or .u64 (IntKind.u64.wrap (((2 ^ j - 1 : Nat) : Int) * 2)) 1 = ((2 ^ (j + 1) - 1 : Nat) : Int) := by
      have h1 := ones_or (2 ^ j - 1)
      rw [hs] at hle ⊢
      generalize (2 : Nat) ^ j = x at hp hle h1 ⊢
      rw [wrap_u64, show (((x - 1 : Nat) : Int) * 2) % 18446744073709551616 = (((x - 1) * 2 : Nat) : Int) by omega]
      have h2 := or_nat ((x - 1) * 2) 1 (by show _ < 18446744073709551616; omega) (by decide)
      rw [show ((1 : Nat) : Int) = 1 from rfl] at h2
      rw [h2, h1]
      omega
    rw [e, ej]
    exact ih (j + 1) k (by omega) (by omega)
theorem row_l0 (a : Int) (many : Nat) (ha : 1 ≤ a ∧ a ≤ 100000) (hm : many < 150) : ∀ (m i k : Nat) (h : Int) (u : Nat), i + m = many → Fwd a i h u → m + 300 < k →
    chatelainelaw18_NoncesRow.l0 k a (many : Int) h (u : Int) (i : Int) = some true := by
  intro m
  induction m with
  | zero =>
    intro i k h u hi hF hk
    obtain ⟨k, rfl⟩ : ∃ q, k = q + 1 := ⟨k - 1, by omega⟩
    obtain rfl : i = many := by omega
    refine (chatelainelaw18_NoncesRow.l0.eq_2 _ _ _ _ _ _).trans (ifn (by omega) ?_)
    exact row_l1 a i ha hm h u hF (min i 64) 0 k (by omega) (by omega)
  | succ m ih =>
    intro i k h u hi hF hk
    obtain ⟨k, rfl⟩ : ∃ q, k = q + 1 + 1 := ⟨k - 2, by omega⟩
    have ei : wrap64 ((i : Int) + 1) = ((i + 1 : Nat) : Int) := by rw [w64 (n := (i : Int) + 1) (by omega) (by omega)]; omega
    obtain ⟨q1, q2, q3⟩ := fwd_fresh a i h u ha (by omega) hF
    have e := use_yes k h u hF.1 _ q1
    rw [q2] at e
    refine (chatelainelaw18_NoncesRow.l0.eq_2 _ _ _ _ _ _).trans (ifp (by omega) ?_)
    rw [w64 (n := a + (i : Int)) (by omega) (by omega), ei]
    exact bnd e (ifp rfl (ifp rfl (ih (i + 1) (k + 1) _ _ (by omega) q3 (by omega))))
theorem NoncesRow : chatelainelaw18_NoncesRow.Pure := by
  intro a b _ _
  refine ⟨1000, ?_⟩
  unfold chatelainelaw18_NoncesRow.f
  obtain ⟨e, p0, p1⟩ := rlow_eq a 100000 (by decide) (by decide)
  obtain ⟨e', p2, p3⟩ := rlow_eq b 150 (by decide) (by decide)
  obtain ⟨many, hm⟩ := Int.eq_ofNat_of_zero_le p2
  rw [hm] at e' p3
  refine bnd e (bnd e' ?_)
  rw [w64 (n := 1 + IntKind.u64.wrap a % 100000) (by omega) (by omega)]
  exact row_l0 _ many (by omega) (by omega) many 0 1000 0 0 (by omega) (fwd_0 _ (by omega)) (by omega)
end Go.Proofs.YthliabidnboklaaDoor.Pure
