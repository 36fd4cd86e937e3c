import Derived.Test.YthliabidnboklaaDoorPNonx1
import Derived.Test.YthliabidnboklaaDoorPNonx2
import Derived.Test.YthliabidnboklaaDoorPNonx3
import Derived.Test.YthliabidnboklaaDoorPNonx5
/- What the printed functions of package nonces, and the reference's, come to: a window as the set of the numbers taken. -/
namespace Go.Proofs.YthliabidnboklaaDoor.NonB
open Go.RowKit Go.Proofs.YthliabidnboklaaDoor.PNon Go.Proofs.YthliabidnboklaaDoorW.PrintWords Go.Proofs.YthliabidnboklaaDoorW.PrintLast Go.Proofs.YthliabidnboklaaDoorW.PrintMore

theorem bnd {α β : Type} {o : Option α} {x : α} {f : α → Option β} {r : Option β} (h : o = some x) (k : f x = r) : o.bind f = r := by rw [h]; exact k
theorem ifp {α : Type} {c : Prop} [Decidable c] {a b r : α} (h : c) (k : a = r) : (if c then a else b) = r := by rw [if_pos h]; exact k
theorem ifn {α : Type} {c : Prop} [Decidable c] {a b r : α} (h : ¬ c) (k : b = r) : (if c then a else b) = r := by rw [if_neg h]; exact k
theorem w64 {n : Int} (h0 : -9223372036854775808 ≤ n) (h1 : n ≤ 9223372036854775807) : wrap64 n = n := by unfold wrap64; omega
theorem wrap_u64 (n : Int) : IntKind.u64.wrap n = n % 18446744073709551616 := by simp [IntKind.wrap, IntKind.bits, IntKind.signed]
theorem wf_i64 {a : Int} (h : (Lit.int .i64 a).wf = true) : -9223372036854775808 ≤ a ∧ a ≤ 9223372036854775807 := by
  simp [Lit.wf, IntKind.min, IntKind.max, IntKind.signed, IntKind.bits] at h
  omega
theorem wf_u64 {a : Int} (h : (Lit.int .u64 a).wf = true) : 0 ≤ a ∧ a < 18446744073709551616 := by
  simp [Lit.wf, IntKind.min, IntKind.max, IntKind.signed, IntKind.bits] at h
  omega
abbrev B64 : Nat := 18446744073709551616
theorem wraps64 (n : Int) (h0 : 0 ≤ n) (h1 : n < 2 ^ 64) : IntKind.u64.wrap n = n := by rw [wrap_u64]; omega
theorem and1 (u : Nat) (hu : u < B64) : Go.bits .and .u64 (u : Int) 1 = ((u % 2 : Nat) : Int) := by
  have h := (bits_nat .u64 64 (by decide) wraps64 u 1 hu (by decide)).1
  rw [Nat.and_one_is_mod] at h
  exact h
theorem or_nat (u v : Nat) (hu : u < B64) (hv : v < B64) : Go.bits .or .u64 (u : Int) (v : Int) = ((u ||| v : Nat) : Int) := (bits_nat .u64 64 (by decide) wraps64 u v hu hv).2
theorem shr_nat (u : Nat) (n : Nat) (h : n ≤ 64) : shr .u64 (u : Int) (n : Int) = ((u / 2 ^ n : Nat) : Int) := by
  unfold shr
  rw [Int.toNat_natCast, Nat.min_eq_left (show n ≤ IntKind.u64.bits from h), Int.natCast_ediv, Int.natCast_pow]; rfl
theorem shl_one (n : Nat) (h : n < 64) : shl .u64 1 (n : Int) = ((2 ^ n : Nat) : Int) := by
  unfold shl
  have h2 : (2 : Nat) ^ n < 18446744073709551616 := (show (2 : Nat) ^ n < 2 ^ 64 from Nat.pow_lt_pow_right (by decide) h)
  rw [Int.toNat_natCast, Nat.min_eq_left (show n ≤ IntKind.u64.bits from Nat.le_of_lt h), Int.one_mul]
  have e : ((2 : Int) ^ n) = ((2 ^ n : Nat) : Int) := by rw [Int.natCast_pow]; rfl
  rw [e, wrap_u64]
  generalize (2 : Nat) ^ n = x at h2 ⊢
  omega
theorem shl_nat (u n : Nat) : IntKind.u64.wrap ((u : Int) * 2 ^ n) = ((u * 2 ^ n % B64 : Nat) : Int) := by
  rw [wrap_u64, show ((u : Int) * 2 ^ n) = ((u * 2 ^ n : Nat) : Int) by rw [Int.natCast_mul, Int.natCast_pow]; rfl]; rfl

/-! ### windows -/
def MayP (h : Int) (u : Nat) : Prop := 0 ≤ h ∧ h ≤ 1099511627776 ∧ (∀ i : Nat, h ≤ i → i < 64 → u.testBit i = false) ∧ (h = 0 ∨ u.testBit 0 = true)
/-- Was a number taken, as far as the window tells? -/
def Tk (h : Int) (u : Nat) (p : Int) : Prop := p ≤ h ∧ h - p < 64 ∧ u.testBit (h - p).toNat = true
def FreshP (h : Int) (u : Nat) (n : Int) : Prop := MayP h u ∧ 1 ≤ n ∧ n ≤ 1099511627776 ∧ h - n < 64 ∧ ¬ Tk h u n
def useU (h : Int) (u : Nat) (n : Int) : Nat := if n > h then u * 2 ^ (min (n - h).toNat 64) % B64 ||| 1 else u ||| 2 ^ (h - n).toNat
def useH (h n : Int) : Int := if n > h then n else h
theorem div_zero_iff (u n : Nat) (hu : u < B64) : u / 2 ^ n = 0 ↔ ∀ i, n ≤ i → i < 64 → u.testBit i = false := by
  constructor
  · intro h i hi _
    have e : (u / 2 ^ n).testBit (i - n) = u.testBit (i - n + n) := Nat.testBit_div_two_pow ..
    rw [h, Nat.zero_testBit, show i - n + n = i by omega] at e
    exact e.symm
  · intro h
    refine Nat.eq_of_testBit_eq fun j => ?_
    rw [Nat.testBit_div_two_pow, Nat.zero_testBit]
    rcases Nat.lt_or_ge (j + n) 64 with c | c
    · exact h _ (by omega) c
    · exact Nat.testBit_lt_two_pow (Nat.lt_of_lt_of_le hu (Nat.pow_le_pow_right (n := 2) (by decide) c))
theorem tb0 (u : Nat) : u.testBit 0 = true ↔ u % 2 = 1 := by rw [Nat.testBit_zero, decide_eq_true_iff]
theorem tbi (u i : Nat) : u.testBit i = true ↔ u / 2 ^ i % 2 = 1 := by rw [Nat.testBit_eq_decide_div_mod_eq, decide_eq_true_iff]
theorem tb_ext (u v : Nat) (hu : u < B64) (hv : v < B64) (h : ∀ i, i < 64 → u.testBit i = v.testBit i) : u = v := by
  refine Nat.eq_of_testBit_eq fun j => ?_
  rcases Nat.lt_or_ge j 64 with c | c
  · exact h j c
  · rw [Nat.testBit_lt_two_pow (Nat.lt_of_lt_of_le hu (Nat.pow_le_pow_right (n := 2) (by decide) c)), Nat.testBit_lt_two_pow (Nat.lt_of_lt_of_le hv (Nat.pow_le_pow_right (n := 2) (by decide) c))]
theorem may_cast (u : Nat) (hu : u < B64) : ((Go.bits .and .u64 (u : Int) 1) == 1) = decide (u % 2 = 1) := by
  rw [and1 u hu, Bool.eq_iff_iff, beq_iff_eq, decide_eq_true_iff]; omega
theorem may_yes (k : Nat) (h : Int) (u : Nat) (hu : u < B64) (hm : MayP h u) : nonces_May.f (k + 1) h (u : Int) = some true := by
  obtain ⟨h0, h1, h2, h3⟩ := hm
  unfold nonces_May.f
  refine ifn (by omega) ?_
  rw [decide_eq_false (by omega)]
  refine (nonces_May.j0.eq_2 _ _ _ _).trans (ifn (by decide) ?_)
  by_cases e : h = 0
  · subst e
    refine ifp rfl ?_
    have : u = 0 := by
      have := (div_zero_iff u 0 hu).2 (fun i _ hi => h2 i (by omega) hi)
      simpa using this
    subst this; rfl
  · refine ifn e ?_
    have h4 : u.testBit 0 = true := h3.resolve_left e
    rw [may_cast u hu, decide_eq_true ((tb0 u).1 h4)]
    by_cases c : h < 64
    · refine ifp c (ifp h0 ?_)
      obtain ⟨n, rfl⟩ := Int.eq_ofNat_of_zero_le h0
      refine ifp ?_ rfl
      rw [shr_nat u n (by omega), (div_zero_iff u n hu).2 (fun i hi hi2 => h2 i (by omega) hi2)]; rfl
    · exact ifn c rfl
theorem may_no (k : Nat) (h : Int) (u : Nat) (hu : u < B64) (hm : ¬ MayP h u) : nonces_May.f (k + 1) h (u : Int) = some false := by
  unfold nonces_May.f
  have hj : ∀ b : Bool, (b = false → 0 ≤ h ∧ h ≤ 1099511627776) → nonces_May.j0 (k + 1) h (u : Int) b = some false := by
    intro b hb
    refine (nonces_May.j0.eq_2 _ _ _ _).trans ?_
    cases b with
    | true => exact ifp rfl rfl
    | false =>
      obtain ⟨h0, h1⟩ := hb rfl
      refine ifn (by decide) ?_
      by_cases e : h = 0
      · subst e
        refine ifp rfl ?_
        have : u ≠ 0 := fun z => hm ⟨h0, h1, fun i _ _ => by rw [z, Nat.zero_testBit], .inl rfl⟩
        have h2 : ((u : Int) == 0) = false := beq_eq_false_iff_ne.2 (by omega)
        rw [h2]
      · refine ifn e ?_
        rw [may_cast u hu]
        obtain ⟨n, rfl⟩ := Int.eq_ofNat_of_zero_le h0
        by_cases c : (n : Int) < 64
        · refine ifp c (ifp h0 ?_)
          rw [shr_nat u n (by omega)]
          by_cases d : u / 2 ^ n = 0
          · refine ifp (by rw [d]; rfl) ?_
            rw [decide_eq_false fun z => hm ⟨h0, h1, fun i hi hi2 => (div_zero_iff u n hu).1 d i (by omega) hi2, .inr ((tb0 u).2 z)⟩]
          · exact ifn (by omega) rfl
        · refine ifn c ?_
          rw [decide_eq_false fun z => hm ⟨h0, h1, fun i hi hi2 => by omega, .inr ((tb0 u).2 z)⟩]
  by_cases c : h < 0
  · exact ifp c (hj true fun z => by cases z)
  · refine ifn c (hj _ fun z => ?_)
    have := of_decide_eq_false z
    omega
theorem fresh_yes (k : Nat) (h : Int) (u : Nat) (hu : u < B64) (n : Int) (hf : FreshP h u n) : nonces_Fresh.f (k + 1) h (u : Int) n = some true := by
  obtain ⟨hm, h1, h2, h3, h4⟩ := hf
  have hh := hm.1
  have hh2 := hm.2.1
  unfold nonces_Fresh.f
  refine bnd (may_yes k h u hu hm) (ifp rfl (ifn (by omega) (ifn (by omega) ?_)))
  rw [w64 (n := h - n) (by omega) (by omega)]
  refine ifn (by omega) ?_
  by_cases c : n > h
  · exact ifp c rfl
  · refine ifn c (ifp (by omega) ?_)
    obtain ⟨m, hm2⟩ := Int.eq_ofNat_of_zero_le (show 0 ≤ h - n by omega)
    rw [hm2, shr_nat u m (by omega), and1 _ (Nat.lt_of_le_of_lt (Nat.div_le_self _ _) hu)]
    have h5 : u / 2 ^ m % 2 ≠ 1 := fun z => h4 ⟨by omega, by omega, by rw [hm2, Int.toNat_natCast]; exact (tbi u m).2 z⟩
    have h6 : u / 2 ^ m % 2 = 0 := by have := Nat.mod_lt (u / 2 ^ m) (show 0 < 2 by decide); omega
    rw [h6]; rfl
theorem fresh_no (k : Nat) (h : Int) (u : Nat) (hu : u < B64) (n : Int) (hn : -9223372036854775808 ≤ n ∧ n ≤ 9223372036854775807) (hf : ¬ FreshP h u n) : nonces_Fresh.f (k + 1) h (u : Int) n = some false := by
  unfold nonces_Fresh.f
  by_cases hm : MayP h u
  · have hh := hm.1
    have hh2 := hm.2.1
    refine bnd (may_yes k h u hu hm) (ifp rfl ?_)
    by_cases c1 : n < 1
    · exact ifp c1 rfl
    · refine ifn c1 ?_
      by_cases c2 : n > 1099511627776
      · exact ifp c2 rfl
      · refine ifn c2 ?_
        rw [w64 (n := h - n) (by omega) (by omega)]
        by_cases c3 : h - n ≥ 64
        · exact ifp c3 rfl
        · refine ifn c3 ?_
          have ht : Tk h u n := Classical.byContradiction fun z => hf ⟨hm, by omega, by omega, by omega, z⟩
          refine ifn (by have := ht.1; omega) (ifp (by have := ht.1; omega) ?_)
          obtain ⟨m, hm2⟩ := Int.eq_ofNat_of_zero_le (show 0 ≤ h - n by have := ht.1; omega)
          have h5 := ht.2.2
          rw [hm2, Int.toNat_natCast] at h5
          rw [hm2, shr_nat u m (by omega), and1 _ (Nat.lt_of_le_of_lt (Nat.div_le_self _ _) hu), (tbi u m).1 h5]; rfl
  · exact bnd (may_no k h u hu hm) (ifn (by decide) rfl)
theorem useU_lt (h : Int) (u : Nat) (n : Int) (hu : u < B64) (hn : h - n < 64) : useU h u n < B64 := by
  unfold useU
  split
  · exact Nat.or_lt_two_pow (n := 64) (Nat.mod_lt _ (by decide)) (by decide)
  · exact Nat.or_lt_two_pow (n := 64) hu (Nat.pow_lt_pow_right (by decide) (by omega))
abbrev flt (c : Int) : S72 := ⟨c, (⟨#[110, 111, 110, 99, 101, 115]⟩ : ByteArray)⟩
theorem use_may (k : Nat) (h : Int) (u : Nat) (hu : u < B64) (n : Int) (hm : ¬ MayP h u) : nonces_Use.f (k + 1) h (u : Int) n = some (0, 0, [flt 2]) := by
  unfold nonces_Use.f
  exact bnd (may_no k h u hu hm) (ifn (by decide) rfl)
theorem use_no (k : Nat) (h : Int) (u : Nat) (hu : u < B64) (n : Int) (hn : -9223372036854775808 ≤ n ∧ n ≤ 9223372036854775807) (hm : MayP h u) (hf : ¬ FreshP h u n) : nonces_Use.f (k + 1) h (u : Int) n = some (0, 0, [flt 8]) := by
  unfold nonces_Use.f
  exact bnd (may_yes k h u hu hm) (ifp rfl (bnd (fresh_no k h u hu n hn hf) (ifn (by decide) rfl)))
theorem use_yes (k : Nat) (h : Int) (u : Nat) (hu : u < B64) (n : Int) (hf : FreshP h u n) : nonces_Use.f (k + 1) h (u : Int) n = some (useH h n, ((useU h u n : Nat) : Int), []) := by
  obtain ⟨hm, h1, h2, h3, h4⟩ := hf
  have hh := hm.1
  have hh2 := hm.2.1
  unfold nonces_Use.f
  refine bnd (may_yes k h u hu hm) (ifp rfl (bnd (fresh_yes k h u hu n ⟨hm, h1, h2, h3, h4⟩) (ifp rfl ?_)))
  by_cases c : n > h
  · have e1 : useH h n = n := if_pos c
    have e2 : useU h u n = u * 2 ^ (min (n - h).toNat 64) % B64 ||| 1 := if_pos c
    rw [e1, e2]
    refine ifp c ?_
    rw [w64 (n := n - h) (by omega) (by omega)]
    have e : mn (n - h) 64 = ((min (n - h).toNat 64 : Nat) : Int) := by unfold mn; split <;> omega
    rw [e]
    refine ifp (Int.natCast_nonneg _) ?_
    rw [Int.toNat_natCast, shl_nat]
    have h5 := or_nat (u * 2 ^ min (n - h).toNat 64 % B64) 1 (Nat.mod_lt _ (by decide)) (by decide)
    rw [show ((1 : Nat) : Int) = 1 from rfl] at h5
    rw [h5]
  · have e1 : useH h n = h := if_neg c
    have e2 : useU h u n = u ||| 2 ^ (h - n).toNat := if_neg c
    rw [e1, e2]
    refine ifn c ?_
    rw [w64 (n := h - n) (by omega) (by omega)]
    refine ifp (by omega) ?_
    obtain ⟨m, hm2⟩ := Int.eq_ofNat_of_zero_le (show 0 ≤ h - n by omega)
    rw [hm2, shl_one m (by omega), or_nat u (2 ^ m) hu (show (2 : Nat) ^ m < 2 ^ 64 from Nat.pow_lt_pow_right (by decide) (by omega)), Int.toNat_natCast]
/-! ### what a used number makes of the set -/
theorem use_tk (h : Int) (u : Nat) (n p : Int) (hn : h - n < 64) (hp : p ≤ useH h n) (hp2 : useH h n - p < 64) :
    (useU h u n).testBit (useH h n - p).toNat = true ↔ (Tk h u p ∨ p = n) := by
  unfold useH at hp hp2 ⊢
  unfold useU Tk
  by_cases c : n > h
  · rw [if_pos c] at hp hp2 ⊢
    rw [if_pos c, Nat.testBit_or, Nat.mul_comm, show B64 = 2 ^ 64 from rfl, Nat.testBit_mod_two_pow, Nat.testBit_two_pow_mul]
    have h1 : Nat.testBit 1 (n - p).toNat = decide ((n - p).toNat = 0) := by
      rw [show (1 : Nat) = 2 ^ 0 from rfl, Nat.testBit_two_pow]
      rw [Bool.eq_iff_iff, decide_eq_true_iff, decide_eq_true_iff]; omega
    rw [h1, Bool.or_eq_true, Bool.and_eq_true, Bool.and_eq_true, decide_eq_true_iff, decide_eq_true_iff, decide_eq_true_iff]
    by_cases e : p = n
    · subst e
      exact ⟨fun _ => .inr rfl, fun _ => .inr (by omega)⟩
    · constructor
      · rintro (⟨_, h3, h4⟩ | h3)
        · refine .inl ⟨by omega, by omega, ?_⟩
          rw [show (n - p).toNat - min (n - h).toNat 64 = (h - p).toNat by omega] at h4
          exact h4
        · omega
      · rintro (⟨h3, h4, h5⟩ | h3)
        · refine .inl ⟨by omega, by omega, ?_⟩
          rw [show (n - p).toNat - min (n - h).toNat 64 = (h - p).toNat by omega]
          exact h5
        · exact absurd h3 e
  · rw [if_neg c] at hp hp2 ⊢
    rw [if_neg c, Nat.testBit_or, Bool.or_eq_true, Nat.testBit_two_pow, decide_eq_true_iff]
    constructor
    · rintro (h3 | h3)
      · exact .inl ⟨hp, hp2, h3⟩
      · exact .inr (by omega)
    · rintro (h3 | h3)
      · exact .inl h3.2.2
      · exact .inr (by subst h3; rfl)
theorem tk_use (h : Int) (u : Nat) (n p : Int) (hn : h - n < 64) : Tk (useH h n) (useU h u n) p ↔ (p ≤ useH h n ∧ useH h n - p < 64) ∧ (Tk h u p ∨ p = n) := by
  constructor
  · rintro ⟨h1, h2, h3⟩; exact ⟨⟨h1, h2⟩, (use_tk h u n p hn h1 h2).1 h3⟩
  · rintro ⟨⟨h1, h2⟩, h3⟩; exact ⟨h1, h2, (use_tk h u n p hn h1 h2).2 h3⟩
theorem may_tk (h : Int) (u : Nat) : MayP h u ↔ 0 ≤ h ∧ h ≤ 1099511627776 ∧ (∀ p, Tk h u p → 1 ≤ p) ∧ (h = 0 ∨ Tk h u h) := by
  have e0 : (h - h).toNat = 0 := by omega
  constructor
  · rintro ⟨h0, h1, h2, h3⟩
    refine ⟨h0, h1, fun p hp => ?_, h3.imp id fun z => ⟨by omega, by omega, by rw [e0]; exact z⟩⟩
    rcases Int.lt_or_le p 1 with c | c
    · have := h2 (h - p).toNat (by omega) (by have := hp.2.1; omega)
      rw [hp.2.2] at this; cases this
    · exact c
  · rintro ⟨h0, h1, h2, h3⟩
    refine ⟨h0, h1, fun i hi hi2 => ?_, h3.imp id fun z => by have := z.2.2; rw [e0] at this; exact this⟩
    cases hb : u.testBit i with
    | false => rfl
    | true =>
      have := h2 (h - i) ⟨by omega, by omega, by rw [show (h - (h - (i : Int))).toNat = i by omega]; exact hb⟩
      omega
theorem may_use (h : Int) (u : Nat) (n : Int) (hf : FreshP h u n) : MayP (useH h n) (useU h u n) := by
  obtain ⟨hm, h1, h2, h3, _⟩ := hf
  have hm' := (may_tk h u).1 hm
  refine (may_tk _ _).2 ⟨?_, ?_, fun p hp => ?_, .inr ?_⟩
  · unfold useH; split <;> omega
  · unfold useH; split <;> omega
  · rcases ((tk_use h u n p h3).1 hp).2 with z | z
    · exact hm'.2.2.1 p z
    · omega
  · refine (tk_use h u n _ h3).2 ⟨⟨by omega, by omega⟩, ?_⟩
    unfold useH
    split
    · exact .inr rfl
    · rename_i c
      rcases hm'.2.2.2 with z | z
      · omega
      · exact .inl z
theorem win_ext (h : Int) (u v : Nat) (hu : u < B64) (hv : v < B64) (e : ∀ p, p ≤ h → h - p < 64 → (Tk h u p ↔ Tk h v p)) : u = v := by
  refine tb_ext u v hu hv fun i hi => ?_
  have := e (h - i) (by omega) (by omega)
  unfold Tk at this
  rw [show (h - (h - (i : Int))).toNat = i by omega] at this
  rw [Bool.eq_iff_iff]
  exact ⟨fun z => (this.1 ⟨by omega, by omega, z⟩).2.2, fun z => (this.2 ⟨by omega, by omega, z⟩).2.2⟩
/-! ### the reference -/
theorem rmay_l0 (h : Int) (u : Nat) (hu : u < B64) (b : Bool) (hb : b = true ↔ (∀ j : Nat, h ≤ j → j < 64 → u.testBit j = false) ∧ (h = 0 ∨ u.testBit 0 = true)) : ∀ (m i k : Nat), i + m = 64 → (∀ j : Nat, h ≤ j → j < i → u.testBit j = false) → m < k →
    chatelaineref18_May.l0 k h (u : Int) (i : Int) = some b := by
  intro m
  induction m with
  | zero =>
    intro i k hi hd hk
    obtain ⟨k, rfl⟩ : ∃ q, k = q + 1 := ⟨k - 1, by omega⟩
    obtain rfl : i = 64 := by omega
    refine (chatelaineref18_May.l0.eq_2 _ _ _ _).trans (ifn (by decide) ?_)
    by_cases e : h = 0
    · exact ifp e (by rw [hb.2 ⟨hd, .inl e⟩])
    · refine ifn e ?_
      rw [may_cast u hu]
      refine congrArg some ?_
      rw [Bool.eq_iff_iff, decide_eq_true_iff, hb]
      exact ⟨fun z => ⟨hd, .inr ((tb0 u).2 z)⟩, fun z => (tb0 u).1 (z.2.resolve_left e)⟩
  | succ m ih =>
    intro i k hi hd hk
    obtain ⟨k, rfl⟩ : ∃ q, k = q + 1 := ⟨k - 1, by omega⟩
    have ei : wrap64 ((i : Int) + 1) = ((i + 1 : Nat) : Int) := by rw [w64 (n := (i : Int) + 1) (by omega) (by omega)]; omega
    refine (chatelaineref18_May.l0.eq_2 _ _ _ _).trans (ifp (by omega) ?_)
    rw [ei]
    by_cases c : (i : Int) ≥ h
    · refine ifp c (ifp (Int.natCast_nonneg _) ?_)
      rw [shr_nat u i (by omega), and1 _ (Nat.lt_of_le_of_lt (Nat.div_le_self _ _) hu)]
      by_cases d : u.testBit i = true
      · refine ifp (by rw [(tbi u i).1 d]; rfl) ?_
        cases b with
        | false => rfl
        | true =>
          have := (hb.1 rfl).1 i c (by omega)
          rw [d] at this; cases this
      · refine ifn (fun z => d ((tbi u i).2 (by omega))) ?_
        refine ih (i + 1) k (by omega) (fun j hj hj2 => ?_) (by omega)
        rcases Nat.lt_or_ge j i with q | q
        · exact hd j hj q
        · obtain rfl : j = i := by omega
          simpa using d
    · refine ifn c ?_
      exact ih (i + 1) k (by omega) (fun j hj hj2 => hd j hj (by omega)) (by omega)
noncomputable instance (h : Int) (u : Nat) : Decidable (MayP h u) := Classical.propDecidable _
noncomputable instance (h : Int) (u : Nat) (n : Int) : Decidable (FreshP h u n) := Classical.propDecidable _
theorem rmay_eq (k : Nat) (h : Int) (u : Nat) (hu : u < B64) : chatelaineref18_May.f (k + 100) h (u : Int) = some (decide (MayP h u)) := by
  unfold chatelaineref18_May.f
  by_cases c : h < 0
  · refine ifp c ((chatelaineref18_May.j0.eq_2 _ _ _ _).trans (ifp rfl ?_))
    rw [decide_eq_false (p := MayP h u) fun z => by have := z.1; omega]
  · refine ifn c ?_
    by_cases d : h > 1099511627776
    · rw [decide_eq_true d]
      refine (chatelaineref18_May.j0.eq_2 _ _ _ _).trans (ifp rfl ?_)
      rw [decide_eq_false (p := MayP h u) fun z => by have := z.2.1; omega]
    · rw [decide_eq_false d]
      refine (chatelaineref18_May.j0.eq_2 _ _ _ _).trans (ifn (by decide) ?_)
      refine rmay_l0 h u hu _ ?_ 64 0 _ (by omega) (fun j _ hj => by omega) (by omega)
      rw [decide_eq_true_iff]
      exact ⟨fun z => ⟨z.2.2.1, z.2.2.2⟩, fun z => ⟨by omega, by omega, z.1, z.2⟩⟩
theorem may_eq (k : Nat) (h : Int) (u : Nat) (hu : u < B64) : nonces_May.f (k + 1) h (u : Int) = some (decide (MayP h u)) := by
  by_cases c : MayP h u
  · rw [may_yes k h u hu c, decide_eq_true c]
  · rw [may_no k h u hu c, decide_eq_false c]
theorem fresh_eq (k : Nat) (h : Int) (u : Nat) (hu : u < B64) (n : Int) (hn : -9223372036854775808 ≤ n ∧ n ≤ 9223372036854775807) : nonces_Fresh.f (k + 1) h (u : Int) n = some (decide (FreshP h u n)) := by
  by_cases c : FreshP h u n
  · rw [fresh_yes k h u hu n c, decide_eq_true c]
  · rw [fresh_no k h u hu n hn c, decide_eq_false c]
theorem nawake (k : Nat) : chatelainelaw18_awake.f (k + 1) = some true := by
  have m0 : MayP 0 0 := ⟨by omega, by omega, fun i _ _ => Nat.zero_testBit i, .inl rfl⟩
  have t0 : ∀ p, ¬ Tk 0 0 p := fun p z => by have := z.2.2; rw [Nat.zero_testBit] at this; cases this
  have f0 : FreshP 0 0 5 := ⟨m0, by omega, by omega, by omega, t0 5⟩
  have hU : useU 0 0 5 = 1 := by unfold useU; rw [if_pos (by omega), Nat.zero_mul]; rfl
  have hH : useH 0 5 = 5 := by unfold useH; rw [if_pos (by omega)]
  have hm := may_use 0 0 5 f0
  have htk := fun p => tk_use 0 0 5 p (by omega)
  rw [hU, hH] at hm
  rw [hU, hH] at htk
  have u0 := use_yes k 0 0 (by decide) 5 f0
  rw [hU, hH] at u0
  have nf : ¬ FreshP 5 1 5 := fun z => z.2.2.2.2 ((htk 5).2 ⟨⟨by omega, by omega⟩, .inr rfl⟩)
  have yf : FreshP 5 1 4 := ⟨hm, by omega, by omega, by omega, fun z => by
    rcases ((htk 4).1 z).2 with q | q
    · exact t0 4 q
    · omega⟩
  unfold chatelainelaw18_awake.f
  refine bnd u0 (bnd (use_no k 5 1 (by decide) 5 (by omega) hm nf) (ifp rfl (ifp rfl (ifp rfl (bnd (x := 8) rfl (ifp rfl (bnd (fresh_yes k 5 1 (by decide) 4 yf) (ifp rfl (bnd (may_yes k 5 1 (by decide) hm) rfl)))))))))
end Go.Proofs.YthliabidnboklaaDoor.NonB
