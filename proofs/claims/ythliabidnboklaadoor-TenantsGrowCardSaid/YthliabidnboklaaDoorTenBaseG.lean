import Derived.Test.YthliabidnboklaaDoorPTenx0
import Derived.Test.YthliabidnboklaaDoorPTenx2
import Derived.Test.YthliabidnboklaaDoorPTenx3
import Derived.Test.YthliabidnboklaaDoorPTenx4
import Derived.Test.YthliabidnboklaaDoorPTenx5
import Derived.Test.YthliabidnboklaaDoorPTenx6
import Derived.Test.YthliabidnboklaaDoorPTenx7
import Derived.Test.YthliabidnboklaaDoorPTenx8
/- What the printed functions of package tenants, and the reference's, come to. -/
namespace Go.Proofs.YthliabidnboklaaDoor.TenB
open Go.RowKit Go.Proofs.YthliabidnboklaaDoor.PTen Go.Proofs.YthliabidnboklaaDoorW.PrintWords Go.Proofs.YthliabidnboklaaDoorW.PrintLast Go.Proofs.YthliabidnboklaaDoorW.PrintMore

theorem bnd {α β : Type} {o : Option α} {x : α} {f : α → Option β} {r : Option β} (h : o = some x) (k : f x = r) : o.bind f = r := by rw [h]; exact k
theorem ifp {α : Type} {c : Prop} [Decidable c] {a b r : α} (h : c) (k : a = r) : (if c then a else b) = r := by rw [if_pos h]; exact k
theorem ifn {α : Type} {c : Prop} [Decidable c] {a b r : α} (h : ¬ c) (k : b = r) : (if c then a else b) = r := by rw [if_neg h]; exact k
theorem w64 {n : Int} (h0 : -9223372036854775808 ≤ n) (h1 : n ≤ 9223372036854775807) : wrap64 n = n := by unfold wrap64; omega
theorem rdT (l : List S78) (i : Nat) (h : i < l.length) : rd_T78 l (i : Int) = l[i] := by
  unfold rd_T78
  rw [Int.toNat_natCast, List.getD_eq_getElem?_getD, List.getElem?_eq_getElem h]; rfl
theorem rdI (l : List Int) (i : Nat) (h : i < l.length) : rd l (i : Int) = l[i] := by
  unfold rd
  rw [Int.toNat_natCast, List.getD_eq_getElem?_getD, List.getElem?_eq_getElem h]; rfl

/-! ### one like it -/
def hit (p : Int) (nm : ByteArray) (s : S78) : Bool := decide (s.f1 = p) && (s.f2.toList == nm.toList)
theorem over_f (s : S78) (p : Int) (nm : ByteArray) : tenants_twice_1_over.f s.f0 s.f1 s.f2 p nm = some (hit p nm s) := by
  unfold tenants_twice_1_over.f hit
  by_cases c : s.f1 = p
  · rw [if_pos c]; simp [c]
  · rw [if_neg c]; simp [c]
theorem idx (l : List S78) (p : Int) (nm : ByteArray) (hl : l.length < 1000000) : ∀ (d k i : Nat), i + d = l.length → d < k →
    ∃ r, slices_IndexFunc_api_Tenant_api_Tenant_at_tenants_twice_1.l0 k l (l.length : Int) (i : Int) p nm = some r ∧ decide (r ≥ 0) = (l.drop i).any (hit p nm)
  | 0, k + 1, i, he, hk => by
    refine ⟨-1, (slices_IndexFunc_api_Tenant_api_Tenant_at_tenants_twice_1.l0.eq_2 _ _ _ _ _ _).trans (ifn (by omega) rfl), ?_⟩
    rw [List.drop_eq_nil_of_le (by omega)]; rfl
  | d + 1, k + 1, i, he, hk => by
    have hi : i < l.length := by omega
    have e := over_f l[i] p nm
    rw [← rdT l i hi] at e
    rw [List.drop_eq_getElem_cons hi, List.any_cons, ← rdT l i hi]
    cases c : hit p nm (rd_T78 l (i : Int)) with
    | true =>
      refine ⟨(i : Int), (slices_IndexFunc_api_Tenant_api_Tenant_at_tenants_twice_1.l0.eq_2 _ _ _ _ _ _).trans (ifp (by omega) (ifp (by omega) (ifp (by omega) (bnd (e.trans (congrArg some c)) (ifp rfl rfl))))), ?_⟩
      rw [Bool.true_or]; exact decide_eq_true (by omega)
    | false =>
      obtain ⟨r, h1, h2⟩ := idx l p nm hl d k (i + 1) (by omega) (by omega)
      refine ⟨r, (slices_IndexFunc_api_Tenant_api_Tenant_at_tenants_twice_1.l0.eq_2 _ _ _ _ _ _).trans (ifp (by omega) (ifp (by omega) (ifp (by omega) (bnd (e.trans (congrArg some c)) (ifn (by decide) ?_))))), ?_⟩
      · rw [w64 (by omega) (by omega)]; exact h1
      · rw [Bool.false_or]; exact h2
theorem twice_f (l : List S78) (p : Int) (nm : ByteArray) (k : Nat) (hl : l.length < 1000000) (hk : l.length < k) : tenants_twice.f k l p nm = some (l.any (hit p nm)) := by
  obtain ⟨r, h1, h2⟩ := idx l p nm hl l.length k 0 (by simp) hk
  rw [List.drop_zero] at h2
  have h3 : slices_IndexFunc_api_Tenant_api_Tenant_at_tenants_twice_1.f k l p nm = some r := h1
  have h4 : slices_ContainsFunc_api_Tenant_api_Tenant_at_tenants_twice_1.f k l p nm = some (l.any (hit p nm)) := bnd h3 (congrArg some h2)
  exact bnd h4 rfl

/-! ### which lists may be -/
def okB (pre : List S78) (s : S78) : Bool := decide (s.f0 = (pre.length : Int) + 1) && (decide ((pre.length = 0 → 0 ≤ s.f1) ∧ (1 ≤ pre.length → 1 ≤ s.f1)) && (decide (s.f1 ≤ (pre.length : Int)) && (decide (1 ≤ (s.f2.size : Int)) && (decide ((s.f2.size : Int) ≤ 300) && !(pre.any (hit s.f1 s.f2))))))
theorem okB_iff (pre : List S78) (s : S78) : okB pre s = true ↔ s.f0 = (pre.length : Int) + 1 ∧ ((pre.length = 0 → 0 ≤ s.f1) ∧ (1 ≤ pre.length → 1 ≤ s.f1)) ∧ s.f1 ≤ (pre.length : Int) ∧ 1 ≤ (s.f2.size : Int) ∧ (s.f2.size : Int) ≤ 300 ∧ pre.any (hit s.f1 s.f2) = false := by
  unfold okB
  rw [Bool.and_eq_true, Bool.and_eq_true, Bool.and_eq_true, Bool.and_eq_true, Bool.and_eq_true, decide_eq_true_iff, decide_eq_true_iff, decide_eq_true_iff, decide_eq_true_iff, decide_eq_true_iff, Bool.not_eq_true']
def mayF : List S78 → List S78 → Bool
  | _, [] => true
  | pre, s :: r => okB pre s && mayF (pre ++ [s]) r
def mayB (l : List S78) : Bool := decide (l.length ≤ 8) && mayF [] l
theorem mayF_append : ∀ (r pre : List S78) (s : S78), mayF pre (r ++ [s]) = (mayF pre r && okB (pre ++ r) s)
  | [], pre, s => by simp [mayF]
  | x :: r, pre, s => by
    show (okB pre x && mayF (pre ++ [x]) (r ++ [s])) = _
    rw [mayF_append r (pre ++ [x]) s]
    show _ = ((okB pre x && mayF (pre ++ [x]) r) && okB (pre ++ x :: r) s)
    rw [Bool.and_assoc, List.append_assoc]; rfl
theorem take_snoc (l : List S78) (i : Nat) (h : i < l.length) : l.take (i + 1) = l.take i ++ [l[i]] := (List.take_append_getElem h).symm
theorem named_f (a : ByteArray) : tenants_named.f a = some (decide (1 ≤ (a.size : Int)) && decide ((a.size : Int) ≤ 300)) := by
  unfold tenants_named.f
  by_cases c : (a.size : Int) ≥ 1
  · rw [if_pos c, decide_eq_true (show 1 ≤ (a.size : Int) from c), Bool.true_and]
  · rw [if_neg c, decide_eq_false (show ¬ 1 ≤ (a.size : Int) from c), Bool.false_and]
theorem mn1 (i : Nat) (x : Int) : x < mn (i : Int) 1 ↔ ¬ ((i = 0 → 0 ≤ x) ∧ (1 ≤ i → 1 ≤ x)) := by
  unfold mn
  split <;> omega
theorem step_no {l : List S78} {i : Nat} {hi : i < l.length} {r : Option Bool} (h : r = some false) (hn : okB (l.take i) l[i] = false) : r = some (mayF (l.take i) (l.drop i)) := by
  rw [List.drop_eq_getElem_cons hi, h]
  show _ = some (okB (l.take i) l[i] && _)
  rw [hn]; rfl
theorem step_yes {l : List S78} {i : Nat} {hi : i < l.length} {r : Option Bool} (h : r = some (mayF (l.take (i + 1)) (l.drop (i + 1)))) (hn : okB (l.take i) l[i] = true) : r = some (mayF (l.take i) (l.drop i)) := by
  rw [List.drop_eq_getElem_cons hi, h, take_snoc l i hi]
  show _ = some (okB (l.take i) l[i] && _)
  rw [hn]; rfl
theorem len_take (l : List S78) (i : Nat) (hi : i < l.length) : (l.take i).length = i := by rw [List.length_take]; omega
theorem mayl (l : List S78) (hl : l.length ≤ 8) : ∀ (d k i : Nat), i + d = l.length → d + 10 ≤ k → tenants_May.l0 k l l (l.length : Int) (i : Int) = some (mayF (l.take i) (l.drop i))
  | 0, k + 1, i, he, hk => by
    rw [List.drop_eq_nil_of_le (by omega)]
    exact (tenants_May.l0.eq_2 _ _ _ _ _).trans (ifn (by omega) rfl)
  | d + 1, k + 1, i, he, hk => by
    have hi : i < l.length := by omega
    have hlen := len_take l i hi
    have hok := okB_iff (l.take i) l[i]
    rw [hlen] at hok
    have hm := mn1 i l[i].f1
    refine (tenants_May.l0.eq_2 _ _ _ _ _).trans (ifp (by omega) (ifp (by omega) (ifp (by omega) ?_)))
    rw [rdT l i hi, w64 (by omega) (by omega)]
    by_cases c1 : l[i].f0 = (i : Int) + 1
    · rw [if_pos c1]
      by_cases c2 : l[i].f1 < mn (i : Int) 1
      · exact step_no (if_pos c2) (Bool.eq_false_iff.2 fun h => hm.1 c2 (hok.1 h).2.1)
      · rw [if_neg c2]
        by_cases c3 : l[i].f1 > (i : Int)
        · exact step_no (if_pos c3) (Bool.eq_false_iff.2 fun h => by have := (hok.1 h).2.2.1; omega)
        · rw [if_neg c3, named_f, Option.bind_some]
          by_cases c4 : 1 ≤ (l[i].f2.size : Int) ∧ (l[i].f2.size : Int) ≤ 300
          · rw [decide_eq_true c4.1, decide_eq_true c4.2]
            have ht : tenants_twice.f k (l.take (i : Int).toNat) l[i].f1 l[i].f2 = some ((l.take i).any (hit l[i].f1 l[i].f2)) := by
              rw [Int.toNat_natCast]; exact twice_f _ _ _ _ (by omega) (by omega)
            cases c5 : (l.take i).any (hit l[i].f1 l[i].f2) with
            | true => exact step_no (ifp rfl (ifp (by omega) (bnd (ht.trans (congrArg some c5)) (if_pos rfl)))) (Bool.eq_false_iff.2 fun h => by have := (hok.1 h).2.2.2.2.2; rw [c5] at this; cases this)
            | false => exact step_yes (ifp rfl (ifp (by omega) (bnd (ht.trans (congrArg some c5)) (ifn (by decide) (mayl l hl d k (i + 1) (by omega) (by omega)))))) (hok.2 ⟨c1, Decidable.of_not_not (fun z => c2 (hm.2 z)), by omega, c4.1, c4.2, c5⟩)
          · refine step_no ?_ (Bool.eq_false_iff.2 fun h => c4 ⟨(hok.1 h).2.2.2.1, (hok.1 h).2.2.2.2.1⟩)
            have : (decide (1 ≤ (l[i].f2.size : Int)) && decide ((l[i].f2.size : Int) ≤ 300)) = false := by simpa using c4
            rw [this]; rfl
    · exact step_no (if_neg c1) (Bool.eq_false_iff.2 fun h => c1 (hok.1 h).1)
theorem may_f (l : List S78) (k : Nat) (hk : 20 ≤ k) : tenants_May.f k l = some (mayB l) := by
  unfold tenants_May.f mayB
  by_cases c : (l.length : Int) > 8
  · rw [if_pos c, decide_eq_false (by omega)]; rfl
  · rw [if_neg c, decide_eq_true (by omega)]
    exact mayl l (by omega) l.length k 0 (by omega) (by omega)

/-! ### the same, as the reference tells it -/
/-! ### one more -/
def inB (l : List S78) (a : Int) : Bool := decide (1 ≤ a) && decide (a ≤ (l.length : Int))
theorem there_f (l : List S78) (a : Int) : tenants_there.f l a = some (inB l a) := by
  unfold tenants_there.f inB
  by_cases c : a ≥ 1
  · rw [if_pos c, decide_eq_true (show 1 ≤ a from c), Bool.true_and]
  · rw [if_neg c, decide_eq_false (show ¬ 1 ≤ a from c), Bool.false_and]
theorem inB_iff (l : List S78) (a : Int) : inB l a = true ↔ 1 ≤ a ∧ a ≤ (l.length : Int) := by
  unfold inB; rw [Bool.and_eq_true, decide_eq_true_iff, decide_eq_true_iff]
theorem mayB_len {l : List S78} (h : mayB l = true) : l.length ≤ 8 := by
  unfold mayB at h; rw [Bool.and_eq_true] at h; exact of_decide_eq_true h.1
def snoc (l : List S78) (p : Int) (nm : ByteArray) : List S78 := l ++ [⟨(l.length : Int) + 1, p, nm⟩]
/-- What one more makes: the list, its number, what is wrong. -/
def addR (l : List S78) (p : Int) (nm : ByteArray) : List S78 × Int × Int :=
  if mayB l = true then
    if inB l p = true then
      if 1 ≤ (nm.size : Int) ∧ (nm.size : Int) ≤ 300 then
        if l.any (hit p nm) = true then ([], 0, 13) else if l.length = 8 then ([], 0, 12) else (snoc l p nm, (l.length : Int) + 1, 0)
      else ([], 0, 2)
    else ([], 0, 9)
  else ([], 0, 2)
def errRows (c : Int) : List S72 := if c = 0 then [] else [⟨c, ⟨#[116, 101, 110, 97, 110, 116, 115]⟩⟩]
theorem num_f (c : Int) : chatelainelaw0_Num.f (errRows c) = some c := by
  unfold errRows
  by_cases h : c = 0
  · subst h; rfl
  · rw [if_neg h]; show (if c = 0 then none else some c) = _; rw [if_neg h]
theorem add_f (l : List S78) (p : Int) (nm : ByteArray) (k : Nat) (hk : 30 ≤ k) : tenants_Add.f k l p nm = some ((addR l p nm).1, (addR l p nm).2.1, errRows (addR l p nm).2.2) := by
  unfold tenants_Add.f addR
  rw [may_f l k (by omega), Option.bind_some]
  cases c1 : mayB l with
  | false => exact ifn (by decide) rfl
  | true =>
    have hl := mayB_len c1
    refine ifp rfl ?_
    rw [there_f, Option.bind_some]
    cases c2 : inB l p with
    | false => exact ifn (by decide) rfl
    | true =>
      refine ifp rfl ?_
      rw [named_f, Option.bind_some]
      by_cases c3 : 1 ≤ (nm.size : Int) ∧ (nm.size : Int) ≤ 300
      · rw [decide_eq_true c3.1, decide_eq_true c3.2]
        refine ifp rfl ?_
        rw [twice_f l p nm k (by omega) (by omega), Option.bind_some]
        cases c4 : l.any (hit p nm) with
        | true => refine (if_pos rfl).trans ?_; simp only [if_true, if_pos c3]; rfl
        | false =>
          refine ifn (by decide) ?_
          by_cases c5 : l.length = 8
          · refine ifp (by omega) ?_; simp only [if_true, if_pos c3, if_pos c5]; rfl
          · refine ifn (by omega) ?_
            simp only [if_true, if_pos c3, if_neg c5]
            have e : api_Tenant_49.f l = some l := bnd rfl (ifp (by simp; omega) rfl)
            refine bnd e (ifp (by omega) ?_)
            rw [w64 (by omega) (by omega)]; rfl
      · have : (decide (1 ≤ (nm.size : Int)) && decide ((nm.size : Int) ≤ 300)) = false := by simpa using c3
        rw [this]
        refine ifn (by decide) ?_
        simp only [if_true, if_neg c3]; rfl
/-! ### paths -/
def par (l : List S78) (a : Int) : Int := (rd_T78 l (a - 1)).f1
def pth (l : List S78) : Nat → Int → List Int
  | 0, _ => []
  | n + 1, a => if 1 ≤ a ∧ a ≤ (l.length : Int) then a :: pth l n (par l a) else []
def path (l : List S78) (a : Int) : List Int := if mayB l = true then pth l 9 a else []
theorem mayF_at : ∀ (r pre : List S78), mayF pre r = true → ∀ i (h : i < r.length), okB (pre ++ r.take i) r[i] = true
  | x :: r, pre, h, i, hi => by
    have h' : (okB pre x && mayF (pre ++ [x]) r) = true := h
    rw [Bool.and_eq_true] at h'
    cases i with
    | zero => simpa using h'.1
    | succ i =>
      have := mayF_at r (pre ++ [x]) h'.2 i (by simpa using hi)
      simpa using this
theorem may_at {l : List S78} (h : mayB l = true) (i : Nat) (hi : i < l.length) : okB (l.take i) l[i] = true := by
  unfold mayB at h; rw [Bool.and_eq_true] at h
  simpa using mayF_at l [] h.2 i hi
theorem par_lt {l : List S78} (h : mayB l = true) {a : Int} (h1 : 1 ≤ a) (h2 : a ≤ (l.length : Int)) : 0 ≤ par l a ∧ par l a < a ∧ (1 < a → 1 ≤ par l a) ∧ (a = 1 → par l a = 0) := by
  obtain ⟨i, rfl⟩ : ∃ i : Nat, a = (i : Int) + 1 := ⟨(a - 1).toNat, by omega⟩
  have hi : i < l.length := by omega
  have hm := (okB_iff _ _).1 (may_at h i hi)
  rw [len_take l i hi] at hm
  have e : par l ((i : Int) + 1) = l[i].f1 := by
    unfold par; rw [show (i : Int) + 1 - 1 = (i : Int) by omega, rdT l i hi]
  rw [e]; omega
theorem pth_more {l : List S78} (h : mayB l = true) : ∀ (n m : Nat) (a : Int), a.toNat ≤ n → a.toNat ≤ m → pth l n a = pth l m a
  | 0, 0, _, _, _ => rfl
  | 0, m + 1, a, h1, _ => by
    show [] = if 1 ≤ a ∧ a ≤ (l.length : Int) then a :: pth l m (par l a) else []
    rw [if_neg (by omega)]
  | n + 1, 0, a, _, h1 => by
    show (if 1 ≤ a ∧ a ≤ (l.length : Int) then a :: pth l n (par l a) else []) = []
    rw [if_neg (by omega)]
  | n + 1, m + 1, a, h1, h2 => by
    show (if 1 ≤ a ∧ a ≤ (l.length : Int) then a :: pth l n (par l a) else []) = if 1 ≤ a ∧ a ≤ (l.length : Int) then a :: pth l m (par l a) else []
    by_cases c : 1 ≤ a ∧ a ≤ (l.length : Int)
    · have := par_lt h c.1 c.2
      rw [if_pos c, if_pos c, pth_more h n m (par l a) (by omega) (by omega)]
    · rw [if_neg c, if_neg c]
theorem path_cons {l : List S78} (h : mayB l = true) {a : Int} (h1 : 1 ≤ a) (h2 : a ≤ (l.length : Int)) : path l a = a :: path l (par l a) := by
  have hp := par_lt h h1 h2
  have hl := mayB_len h
  unfold path
  rw [if_pos h, if_pos h]
  show (if 1 ≤ a ∧ a ≤ (l.length : Int) then a :: pth l 8 (par l a) else []) = _
  rw [if_pos ⟨h1, h2⟩, pth_more h 8 9 (par l a) (by omega) (by omega)]
theorem path_nil {l : List S78} {a : Int} (h1 : ¬ (1 ≤ a ∧ a ≤ (l.length : Int))) : path l a = [] := by
  unfold path
  split
  · show (if 1 ≤ a ∧ a ≤ (l.length : Int) then a :: pth l 8 (par l a) else []) = _
    rw [if_neg h1]
  · rfl
theorem path_no {l : List S78} (h : mayB l = false) (a : Int) : path l a = [] := by
  unfold path; rw [if_neg (by rw [h]; decide)]
theorem path_l0 {l : List S78} (h : mayB l = true) : ∀ (d k : Nat) (a : Int) (acc : List Int), (a ≤ (l.length : Int) → a.toNat ≤ d) → d < k → acc.length + d < 1000 → tenants_Path.l0 k l a acc = some (acc ++ path l a)
  | d, k + 1, a, acc, ha, hk, hac => by
    have hl := mayB_len h
    refine (tenants_Path.l0.eq_2 _ _ _ _).trans (bnd (there_f l a) ?_)
    cases c : inB l a with
    | false =>
      refine ifn (by decide) ?_
      rw [path_nil (fun z => by rw [(inB_iff l a).2 z] at c; cases c), List.append_nil]
    | true =>
      obtain ⟨h1, h2⟩ := (inB_iff l a).1 c
      have hp := par_lt h h1 h2
      have had := ha h2
      obtain ⟨d, rfl⟩ : ∃ e, d = e + 1 := ⟨d - 1, by omega⟩
      refine ifp rfl (ifp (by omega) ?_)
      rw [w64 (by omega) (by omega)]
      refine ifp (by omega) (ifp (by omega) ?_)
      have := path_l0 h d k (par l a) (acc ++ [a]) (fun _ => by omega) (by omega) (by simp; omega)
      rw [path_cons h h1 h2]
      rw [List.append_assoc] at this; exact this
theorem path_f (l : List S78) (a : Int) (k : Nat) (hk : 30 ≤ k) : tenants_Path.f k l a = some (path l a) := by
  unfold tenants_Path.f
  rw [may_f l k (by omega), Option.bind_some]
  cases c : mayB l with
  | false => refine ifn (by decide) ?_; rw [path_no c]
  | true => exact ifp rfl (path_l0 c 8 k a [] (fun z => by have := mayB_len c; omega) (by omega) (by simp))
theorem path_len (l : List S78) (a : Int) : (path l a).length ≤ 9 := by
  have : ∀ n (a : Int), (pth l n a).length ≤ n := by
    intro n
    induction n with
    | zero => intro a; exact Nat.le_refl _
    | succ n ih =>
      intro a
      show (if 1 ≤ a ∧ a ≤ (l.length : Int) then a :: pth l n (par l a) else []).length ≤ n + 1
      split
      · rw [List.length_cons]; exact Nat.succ_le_succ (ih _)
      · exact Nat.zero_le _
  unfold path
  split
  · exact this 9 a
  · exact Nat.zero_le _
theorem idxI (l : List Int) (x : Int) (hl : l.length < 1000000) : ∀ (d k i : Nat), i + d = l.length → d < k → ∃ r, slices_Index_int_int.l0 k l x (l.length : Int) (i : Int) = some r ∧ decide (r ≥ 0) = decide (x ∈ l.drop i)
  | 0, k + 1, i, he, hk => by
    refine ⟨-1, (slices_Index_int_int.l0.eq_2 _ _ _ _ _).trans (ifn (by omega) rfl), ?_⟩
    rw [List.drop_eq_nil_of_le (by omega)]; rfl
  | d + 1, k + 1, i, he, hk => by
    have hi : i < l.length := by omega
    rw [List.drop_eq_getElem_cons hi, ← rdI l i hi]
    by_cases c : x = rd l (i : Int)
    · refine ⟨(i : Int), (slices_Index_int_int.l0.eq_2 _ _ _ _ _).trans (ifp (by omega) (ifp (by omega) (ifp (by omega) (ifp c rfl)))), ?_⟩
      rw [decide_eq_true (show (i : Int) ≥ 0 by omega), decide_eq_true (by rw [c]; exact List.mem_cons_self)]
    · obtain ⟨r, h1, h2⟩ := idxI l x hl d k (i + 1) (by omega) (by omega)
      refine ⟨r, (slices_Index_int_int.l0.eq_2 _ _ _ _ _).trans (ifp (by omega) (ifp (by omega) (ifp (by omega) (ifn c ?_)))), ?_⟩
      · rw [w64 (by omega) (by omega)]; exact h1
      · rw [h2]; exact decide_eq_decide.2 ⟨fun z => List.mem_cons_of_mem _ z, fun z => (List.mem_cons.1 z).resolve_left c⟩
theorem above_f (l : List S78) (a b : Int) (k : Nat) (hk : 40 ≤ k) : tenants_Above.f k l a b = some (decide (a ∈ path l b)) := by
  have hp := path_len l b
  obtain ⟨r, h1, h2⟩ := idxI (path l b) a (by omega) (path l b).length k 0 (by omega) (by omega)
  rw [List.drop_zero] at h2
  have h3 : slices_Index_int_int.f k (path l b) a = some r := h1
  have h4 : slices_Contains_int_int.f k (path l b) a = some (decide (a ∈ path l b)) := bnd h3 (congrArg some h2)
  exact bnd (path_f l b k (by omega)) (bnd h4 rfl)
/-! ### the same; gone over -/
theorem sameI (l : List Int) (hl : l.length < 1000000) : ∀ (d k i : Nat), i + d = l.length → d < k → chatelainelaw0_SameInts.l0 k l l (i : Int) = some true
  | 0, k + 1, i, he, hk => (chatelainelaw0_SameInts.l0.eq_2 _ _ _ _).trans (ifn (by omega) rfl)
  | d + 1, k + 1, i, he, hk => by
    refine (chatelainelaw0_SameInts.l0.eq_2 _ _ _ _).trans (ifp (by omega) (ifp (by omega) (ifp (by omega) (ifp rfl ?_))))
    rw [w64 (by omega) (by omega)]
    exact sameI l hl d k (i + 1) (by omega) (by omega)
theorem samei_f (l : List Int) (k : Nat) (hl : l.length < 1000000) (hk : l.length < k) : chatelainelaw0_SameInts.f k l l = some true := ifp rfl (sameI l hl l.length k 0 (by omega) hk)
/-! ### all of them answer -/
def r0 : S78 := ⟨1, 0, ⟨#[114]⟩⟩
theorem mayB_root : mayB [r0] = true := by rfl
theorem tenant_awake (k : Nat) (hk : 50 ≤ k) : chatelainelaw16_awake.f k = some true := by
  have a1 : addR [r0] 1 ⟨#[97]⟩ = ([r0, ⟨2, 1, ⟨#[97]⟩⟩], 2, 0) := by rfl
  have a2 : addR [r0, ⟨2, 1, ⟨#[97]⟩⟩] 1 ⟨#[97]⟩ = ([], 0, 13) := by
    unfold addR
    rw [if_pos (show mayB [r0, ⟨2, 1, ⟨#[97]⟩⟩] = true by rfl), if_pos (by rfl), if_pos (by decide), if_pos (by simp [hit])]
  have p1 : path [r0, ⟨2, 1, ⟨#[97]⟩⟩] 1 = [1] := by rfl
  have p2 : path [r0, ⟨2, 1, ⟨#[97]⟩⟩] 2 = [2, 1] := by rfl
  have m2 : mayB [r0, ⟨2, 1, ⟨#[97]⟩⟩] = true := by rfl
  have e1 := add_f [r0] 1 ⟨#[97]⟩ k (by omega)
  have e2 := add_f [r0, ⟨2, 1, ⟨#[97]⟩⟩] 1 ⟨#[97]⟩ k (by omega)
  rw [a1] at e1; rw [a2] at e2
  have e3 := above_f [r0, ⟨2, 1, ⟨#[97]⟩⟩] 1 2 k (by omega)
  have e4 := above_f [r0, ⟨2, 1, ⟨#[97]⟩⟩] 2 1 k (by omega)
  have e5 := path_f [r0, ⟨2, 1, ⟨#[97]⟩⟩] 2 k (by omega)
  have e6 := may_f [r0, ⟨2, 1, ⟨#[97]⟩⟩] k (by omega)
  rw [p2] at e3 e5; rw [p1] at e4; rw [m2] at e6
  exact bnd rfl (bnd e1 (bnd e2 (ifp rfl (ifp rfl (bnd (num_f 13) (ifp rfl (bnd e3 (ifp rfl (bnd e4 (ifn (by decide) (bnd e5 (bnd (samei_f [2, 1] k (by decide) (by simp; omega)) (ifp rfl (bnd e6 rfl))))))))))))))
end Go.Proofs.YthliabidnboklaaDoor.TenB
