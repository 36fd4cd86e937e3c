-- By a program of this session (wip/myprint.sh) out of the translation; Lean checks it.
import Derived.Test.YthliabidnboklaaDoorProg
import Derived.Deep.Slices
import Derived.ChangeArms
import Derived.SizedLaws
import Derived.Below
import Derived.Deep.Draws
import Derived.Deep.AppendLies
import Derived.Maps.AppendAt
import Derived.OwnWalk
import Derived.Laws.BytesArg
import Derived.Laws.MakeOwn
import Derived.Laws.OwnMore
import Derived.Deep.OwnRows
import Derived.Tactics
import Derived.Lib.ConvBytes
import Derived.Laws.Slices
import Derived.WalkKit
import Derived.KernelRfl
import Derived.RowKit3
import Derived.Deep.LoopGhost
import Derived.Deep.QuietTactic
import Derived.BigQuiet
import Derived.WideLaws
import Derived.Deep.DeepCutAuto
import Derived.Deep.CutBlock
import Derived.Deep.RegionHeld3
import Derived.Laws.Rows
import Derived.Lib.AppendStr
import Derived.ArgAppend
import Derived.Laws.IdiomCopy
import Derived.OrdersHeld
import Derived.Laws.BitsLemmas
import Derived.RowKit
import Derived.WalkSpells
import Derived.Lib.SliceRun
import Derived.Test.YthliabidnboklaaDoorErrs4
import Derived.Test.YthliabidnboklaaDoorWWords
import Derived.Test.YthliabidnboklaaDoorWLast
import Derived.Test.YthliabidnboklaaDoorWTab
import Derived.Test.YthliabidnboklaaDoorWFour
import Derived.Test.YthliabidnboklaaDoorWQPut
import Derived.Test.YthliabidnboklaaDoorWApart
import Derived.Test.YthliabidnboklaaDoorWArr
import Derived.Test.YthliabidnboklaaDoorWZeros
import Derived.Test.YthliabidnboklaaDoorWFoot
import Derived.Test.YthliabidnboklaaDoorWKept
import Derived.Test.YthliabidnboklaaDoorWShare
import Derived.Test.YthliabidnboklaaDoorWN
import Derived.Test.YthliabidnboklaaDoorWFootNe
import Derived.Test.YthliabidnboklaaDoorWAt
import Derived.Test.YthliabidnboklaaDoorWEqStruct
import Derived.Test.YthliabidnboklaaDoorWRepsOne
import Derived.Test.YthliabidnboklaaDoorWInv
import Derived.Test.YthliabidnboklaaDoorWInvWords
import Derived.Test.YthliabidnboklaaDoorWGuard
import Derived.Test.YthliabidnboklaaDoorWNEv
import Derived.Test.YthliabidnboklaaDoorWMore
namespace Go.Proofs.YthliabidnboklaaDoor.PKey
open Go.RowKit Go.Proofs.YthliabidnboklaaDoorW.PrintWords Go.Proofs.YthliabidnboklaaDoorW.PrintLast Go.Proofs.YthliabidnboklaaDoorW.PrintMore
attribute [local go_sem] max2_int min2_int max_two min_two max_three min_three max_four min_four   -- for this text's walks alone
set_option linter.unusedVariables false
set_option linter.unusedSimpArgs false



def errW : Option Int → Value
  | none => .nilIface
  | some c => .iface 0 (.int .i64 c)
theorem errW_none : errW none = .nilIface := rfl
theorem errW_some (c : Int) : errW (some c) = .iface 0 (.int .i64 c) := rfl

/-! ### words of this session's own -/
theorem own_goesV {P : Program} {ops : Array Oper} {Q : Exit → Act → World → Prop} {oi : Oper} {N : Option Tmp} {a : Act} {w : World} {K : Act → World → Prop} {f : FuncId} {fn : Func} {o : Operand} {ys : Array Operand} {ts : Array TypeId} (hf : P.funcs[f]? = some fn) (hname : (fn.name == "runtime.NumGoroutine") = false) (hb : fn.body.isSome = true) (args : Array Value)
    (hw : Region.wanted oi (yielded ops a.tmps) = true) (hN : oi.dst = N) (hop : oi.op = .call { callee := .value o, args := ys, argTypes := ts }) (ho : a.eval o = .func (.func f) #[] #[]) (hargs : ys.map a.eval = args)
    (h : Calls P f args w fun e w' => ∃ v, e = .returned v ∧ K (a.put N v) w') : if Region.wanted oi (yielded ops a.tmps) = true then Oper.wp P oi a w K Q else K (a.put N undef) w := by
  refine call_ f args hw hN ?_ h
  have he := enters_ hf hname hb args w
  unfold execOp
  simp [hop, resolve, ho, Deferred.ofValue, invoke, hargs, he]
theorem own_C_none {α : Type} {d : Kd α} {w : World} {A : Option Addr} {n : Nat} {xs : List α} (hA : A = none) (h : d.C w A n xs) : xs = [] := by
  obtain ⟨h1, _, h3⟩ := h
  cases Nat.eq_zero_or_pos n with
  | inl h0 => exact List.eq_nil_of_length_eq_zero (h1.trans h0)
  | inr h0 => obtain ⟨ad, ha, _⟩ := h3 h0; rw [hA] at ha; cases ha
theorem own_shr_le {k : IntKind} {x y j : Int} (h : shr k x y = j) (h0 : 0 ≤ x) : 0 ≤ j ∧ j ≤ x := by rw [← h]; unfold shr; exact ⟨Int.ediv_nonneg h0 (Int.le_of_lt (Int.pow_pos (by decide))), Int.ediv_le_self _ h0⟩
theorem own_ite {c : Prop} [Decidable c] {a b : Prop} (h : if c then a else b) : if c then a else b := h
theorem own_upon {P : Program} {o : Oper} {a : Act} {nx : Act → World → Prop} {Q : Exit → Act → World → Prop} {r : Result Next} (h : Oper.upon P o a nx Q r) : Oper.upon P o a nx Q r := h
theorem own_cond {P : Program} {c : Operand} {x y : Code} {Q : Exit → Act → World → Prop} {a : Act} {w : World} (h : (Code.cond c x y).wp P Q a w) : (Code.cond c x y).wp P Q a w := h
theorem own_condT {P : Program} {c : Operand} {x y : Code} {Q : Exit → Act → World → Prop} {a : Act} {w : World} (hc : a.eval c = .bool true) (h : x.wp P Q a w) : (Code.cond c x y).wp P Q a w := wp_cond_split hc (fun _ => h) (fun e => by cases e)
theorem own_condF {P : Program} {c : Operand} {x y : Code} {Q : Exit → Act → World → Prop} {a : Act} {w : World} (hc : a.eval c = .bool false) (h : y.wp P Q a w) : (Code.cond c x y).wp P Q a w := wp_cond_split hc (fun e => by cases e) (fun _ => h)
theorem own_iteT {α : Sort _} {a b : α} : (if true = true then a else b) = a := if_pos rfl
theorem own_iteF {α : Sort _} {a b : α} : (if false = true then a else b) = b := if_neg (by decide)
/-! ### arguments opened, kind by kind -/
def Fits (P : Program) (t : TypeId) {H : Type} (d : DataW H) : Prop := ∀ n ∈ d.weights P t, n ≤ 140737488351232
theorem Fits.of_each {P : Program} {ts : List TypeId} {H : Type} {ds : List (DataW H)} {j : Nat} {t : TypeId} {d : DataW H} (h : (DataW.weightsEach P ts ds).all (· ≤ reachBytes) = true) (ht : ts[j]? = some t) (hd : ds[j]? = some d) : Fits P t d := fun n hn => by
  have := List.all_eq_true.1 h _ (DataW.weights_mem_each ht hd n hn)
  exact of_decide_eq_true this
theorem weights_mem_all {H : Type} {P : Program} {e : TypeId} {d : DataW H} {n : Nat} (hn : n ∈ d.weights P e) : ∀ {l : List (DataW H)}, d ∈ l → n ∈ DataW.weightsAll P e l
  | x :: r, h => by
    simp only [DataW.weightsAll, List.mem_append]
    rcases List.mem_cons.1 h with z | z
    · subst z; exact .inl hn
    · exact .inr (weights_mem_all hn z)
def Opens (P : Program) {α : Type} (d : Kd α) (Q : α → Prop) (t : TypeId) : Prop :=
  ∀ (H : Type) (enc : TypeId × Value → H) (w : World) (fuel : Nat) (cs : List Value) (x : DataW H × List MemPlace), DataW.trod enc P w 0 (fun _ => true) true fuel t cs = some x → Fits P t x.1 → ∃ p, d.K w p cs ∧ Q p
theorem Opens.int {P : Program} {t : TypeId} {k : IntKind} (hu : P.underlying t = some (.int k)) : Opens P (Kd.int k) (fun n => (Lit.int k n).wf = true) t := fun _ _ _ _ _ _ h _ => by
  obtain ⟨n, rfl, _, hw⟩ := DataW.trod_int hu h
  exact ⟨n, rfl, hw⟩
theorem Opens.bool {P : Program} {t : TypeId} (hu : P.underlying t = some .bool) : Opens P Kd.bool (fun _ => True) t := fun _ _ _ _ _ _ h _ => by
  obtain ⟨b, rfl, _⟩ := DataW.trod_bool hu h
  exact ⟨b, rfl, trivial⟩
theorem Opens.string {P : Program} {t : TypeId} (hu : P.underlying t = some .string) : Opens P Kd.string (fun s => s.size ≤ 140737488351232) t := fun _ _ _ _ _ _ h hf => by
  obtain ⟨s, rfl, rfl, hs⟩ := DataW.trod_string hu h
  exact ⟨s, rfl, by simpa using hf s.data.toList.length (by simp [DataW.weights])⟩
theorem opens_list {α : Type} (d : Kd α) (Q : α → Prop) (w : World) (a : Addr) (sz : Nat) (hsz : d.sz = sz) : ∀ len, (∀ i, i < len → ∃ p cs, d.K w p cs ∧ Q p ∧ ∀ j u, cs[j]? = some u → w.cell? (a.add (i * sz + j)) = some u) →
    ∃ xs : List α, xs.length = len ∧ (∀ x ∈ xs, Q x) ∧ ∀ j p, xs[j]? = some p → ∃ c, c.length = sz ∧ d.K w p c ∧ ∀ i u, c[i]? = some u → w.cell? (a.add (j * sz + i)) = some u
  | 0, _ => ⟨[], rfl, fun _ h => (List.not_mem_nil h).elim, fun _ _ h => by simp at h⟩
  | len + 1, h => by
    obtain ⟨xs, hl, hq, hx⟩ := opens_list d Q w a sz hsz len (fun i hi => h i (Nat.lt_succ_of_lt hi))
    obtain ⟨p, cs, hk, hp, hc⟩ := h len (Nat.lt_succ_self len)
    refine ⟨xs ++ [p], by rw [List.length_append, hl]; rfl, fun x hm => ?_, fun j q hj => ?_⟩
    · rcases List.mem_append.1 hm with z | z
      · exact hq x z
      · rw [List.mem_singleton.1 z]; exact hp
    · rcases Nat.lt_or_ge j xs.length with z | z
      · rw [List.getElem?_append_left z] at hj
        exact hx j q hj
      · rw [List.getElem?_append_right z] at hj
        obtain ⟨hj1, hj2⟩ := List.getElem?_eq_some_iff.1 hj
        have hj0 : j - xs.length = 0 := by simpa using hj1
        have e : j = len := by omega
        subst e
        have hq' : q = p := by rw [← hj2]; simp [hj0]
        subst hq'
        exact ⟨cs, (d.K_len hk).trans hsz, hk, hc⟩
theorem Opens.slice {P : Program} {α : Type} {d : Kd α} {Q : α → Prop} {t e : TypeId} (hu : P.underlying t = some (.slice e)) (hc : P.cellsOf e = d.sz) {B : Nat} (hB : P.bytesOf e = B) (h : Opens P d Q e) : Opens P (Kd.slice e d) (fun xs => xs.length ≤ maxLen ∧ xs.length * B ≤ 140737488351232 ∧ ∀ x ∈ xs, Q x) t := fun H enc w fuel cs x hx hf => by
  rcases Go.Deep.open_slice hu hx with ⟨rfl, _⟩ | ⟨a, len, cap, m, n, D, Pl, rfl, _, hl, hm, hmm, rfl, hi⟩
  · exact ⟨[], ⟨none, 0, rfl, Nat.le_refl _, Kd.C_nil _ _⟩, Nat.zero_le _, by simp, fun _ z => by cases z⟩
  · have hmc : m = cap := hmm
    obtain ⟨xs, h1, h2, h3⟩ := opens_list d Q w a (P.cellsOf e) hc.symm len (fun i hil => by
      obtain ⟨cs', hcs, ht⟩ := hi i (by omega)
      obtain ⟨p, hk, hq⟩ := h H enc w n cs' _ ht (fun q hq => hf q (by
        simp only [DataW.weights, hu, List.mem_cons, List.mem_append]
        exact .inr (.inl (weights_mem_all hq (List.mem_map.2 ⟨i, List.mem_range.2 hil, rfl⟩)))))
      obtain ⟨_, hcl, hat⟩ := World.cells?_some hcs
      refine ⟨p, cs', hk, hq, fun j u hj => ?_⟩
      have hjl : j < P.cellsOf e := by have := (List.getElem?_eq_some_iff.1 hj).1; omega
      have := hat j hjl
      rw [← Go.Deep.add_add, this, hj])
    subst h1
    have hw : xs.length * B ≤ 140737488351232 := by
      refine Nat.le_trans ?_ (hf _ (by simp only [DataW.weights, hu, List.mem_cons]; exact .inl rfl))
      rw [hB]
      exact Nat.mul_le_mul_right _ (by simp)
    refine ⟨xs, ⟨some a, cap, rfl, hl, rfl, Nat.le_trans (Nat.le_trans hl hm) (by decide), fun _ => ⟨a, rfl, fun j p hj => ?_⟩⟩, Nat.le_trans hl hm, hw, h2⟩
    obtain ⟨c, c1, c2, c3⟩ := h3 j p hj
    rw [hc] at c1 c3
    exact ⟨c, c1, c2, c3⟩
/-- Types in line: each one's cells, one behind the other. -/
def Segs {H : Type} (enc : TypeId × Value → H) (P : Program) (w : World) (n : Nat) : List TypeId → List Value → Prop
  | [], cs => cs = []
  | t :: ts, cs => (∃ y, DataW.trod enc P w 0 (fun _ => true) true n t (cs.take (P.cellsOf t)) = some y ∧ Fits P t y.1) ∧ Segs enc P w n ts (cs.drop (P.cellsOf t))
def OpensL (P : Program) {α : Type} (d : Kd α) (Q : α → Prop) (ts : List TypeId) : Prop :=
  ∀ (H : Type) (enc : TypeId × Value → H) (w : World) (n : Nat) (cs : List Value), Segs enc P w n ts cs → ∃ p, d.K w p cs ∧ Q p
theorem OpensL.one {P : Program} {α : Type} {d : Kd α} {Q : α → Prop} {t : TypeId} (h : Opens P d Q t) : OpensL P d Q [t] := fun H enc w n cs hs => by
  obtain ⟨⟨y, hy, hf⟩, hd⟩ := hs
  obtain ⟨p, hk, hq⟩ := h H enc w n _ y hy hf
  refine ⟨p, ?_, hq⟩
  have e : cs.take (P.cellsOf t) = cs := by
    have := List.take_append_drop (P.cellsOf t) cs
    rw [show cs.drop (P.cellsOf t) = [] from hd, List.append_nil] at this
    exact this
  rw [e] at hk; exact hk
theorem OpensL.cons {P : Program} {α β : Type} {a : Kd α} {b : Kd β} {Qa : α → Prop} {Qb : β → Prop} {t : TypeId} {ts : List TypeId} (h : Opens P a Qa t) (hs : OpensL P b Qb ts) : OpensL P (Kd.pair a b) (fun x => Qa x.1 ∧ Qb x.2) (t :: ts) := fun H enc w n cs hg => by
  obtain ⟨⟨y, hy, hf⟩, hd⟩ := hg
  obtain ⟨p, hk, hq⟩ := h H enc w n _ y hy hf
  obtain ⟨r, hk2, hq2⟩ := hs H enc w n _ hd
  exact ⟨(p, r), ⟨_, _, (List.take_append_drop _ _).symm, hk, hk2⟩, hq, hq2⟩
def okOff (P : Program) : Nat → List Field → Option Nat
  | off, [] => some off
  | off, f :: r => if f.offset = off then okOff P (off + P.cellsOf f.type) r else none
theorem segs_of {H : Type} (enc : TypeId × Value → H) (P : Program) (w : World) (n : Nat) (cs : List Value) : ∀ (fs : List Field) (off : Nat), okOff P off fs = some cs.length →
    (∀ f ∈ fs, ∃ y, DataW.trod enc P w 0 (fun _ => true) true n f.type ((cs.drop f.offset).take (P.cellsOf f.type)) = some y ∧ Fits P f.type y.1) → Segs enc P w n (fs.map (·.type)) (cs.drop off)
  | [], off, ho, _ => by
    have e : off = cs.length := Option.some.inj ho
    show cs.drop off = []
    rw [e, List.drop_length]
  | f :: r, off, ho, h => by
    unfold okOff at ho
    by_cases c : f.offset = off
    · rw [if_pos c] at ho
      obtain ⟨y, hy⟩ := h f List.mem_cons_self
      rw [c] at hy
      refine ⟨⟨y, hy.1, hy.2⟩, ?_⟩
      have := segs_of enc P w n cs r (off + P.cellsOf f.type) ho (fun g hg => h g (List.mem_cons_of_mem _ hg))
      rw [List.drop_drop]; exact this
    · rw [if_neg c] at ho; cases ho
theorem Opens.struct {P : Program} {α : Type} {d : Kd α} {Q : α → Prop} {t : TypeId} {fs : Array Field} (hu : P.underlying t = some (.struct fs)) (hoff : okOff P 0 fs.toList = some (P.cellsOf t)) (h : OpensL P d Q (fs.toList.map (·.type))) : Opens P d Q t := fun H enc w fuel cs x hx hfit => by
  obtain ⟨xs, n, _, rfl, hl, hxl, hf⟩ := DataW.trod_struct hu hx
  have hs := segs_of enc P w n cs fs.toList 0 (by rw [hoff, hl]) (fun f hm => by
    obtain ⟨i, hi⟩ := List.mem_iff_getElem?.1 hm
    have hi2 : fs[i]? = some f := by simpa using hi
    have hlt : i < xs.length := by
      have := (Array.getElem?_eq_some_iff.1 hi2).1
      omega
    refine ⟨xs[i], (hf i f hi2).trans (List.getElem?_eq_getElem hlt), fun q hq => hfit q ?_⟩
    simp only [DataW.weights, hu]
    exact DataW.weights_mem_each (j := i) (by simp [hi2]) (by simp [hlt]) q hq)
  exact h H enc w n cs hs
theorem Opens.iso {P : Program} {α β : Type} {d : Kd α} {Q : α → Prop} {t : TypeId} (f : β → α) (g : α → β) (hfg : ∀ x, f (g x) = x) (h : Opens P d Q t) : Opens P (Kd.iso d f) (fun y => Q (f y)) t := fun H enc w fuel cs x hx hf => by
  obtain ⟨p, hk, hq⟩ := h H enc w fuel cs x hx hf
  refine ⟨g p, ?_, ?_⟩
  · show d.K w (f (g p)) cs
    rw [hfg]; exact hk
  · show Q (f (g p))
    rw [hfg]; exact hq

theorem info5 : (Tryd.prog.info? 5).map (fun i => (i.zero, i.size, i.bytes)) = some (some (.int .u8 0), 1, 1) := by kernel_rfl
theorem info62 : (Tryd.prog.info? 62).map (fun i => (i.zero, i.size, i.bytes)) = some (some (.agg #[(.int .i64 0), (.int .i64 0), (.int .i64 0), (.slice none 0 0)]), 4, 48) := by kernel_rfl
-- the values' own types
def rd_L2 (xs : List (List Int)) (i : Int) : (List Int) := xs.getD i.toNat ([] : List Int)
theorem at_L2 {w : World} {A : Option Addr} {n : Nat} {xs : List (List Int)} (h : Kd.C (Kd.slice 5 (Kd.int .u8)) w A n xs) (i : Int) (h0 : 0 ≤ i) (h1 : i < n) : ∃ ad A0 c0, A = some ad ∧ w.cell? (ad.add i.toNat) = some (.slice A0 (rd_L2 xs i).length c0) ∧ (rd_L2 xs i).length ≤ c0 ∧ (Kd.int .u8).C w A0 (rd_L2 xs i).length (rd_L2 xs i) := by
  obtain ⟨ad, c, e, _, hK, hc0⟩ := Kd.C_get h ([] : List Int) i h0 h1
  have hc : ∀ j u, c[j]? = some u → w.cell? (ad.add (i.toNat * 1 + j)) = some u := hc0
  obtain ⟨A0, c0, rfl, l0, g0⟩ := hK
  exact ⟨ad, A0, c0, e, by have hq := hc 0 _ rfl; rwa [Nat.mul_one, Nat.add_zero] at hq, l0, g0⟩

/-! #### struct type 62 -/
structure S62 where
  f0 : Int
  f1 : Int
  f2 : Int
  f3 : (List Int)
def z62 : S62 := ⟨(0 : Int), (0 : Int), (0 : Int), ([] : List Int)⟩
def k62 : Kd S62 := Kd.iso (Kd.pair (Kd.int .i64) (Kd.pair (Kd.int .i64) (Kd.pair (Kd.int .i64) (Kd.slice 5 (Kd.int .u8))))) (fun x : S62 => (x.f0, x.f1, x.f2, x.f3))
theorem k62_heap : Kd.Heap k62 := Kd.heap_iso _ (Kd.heap_pair (Kd.heap_int .i64) (Kd.heap_pair (Kd.heap_int .i64) (Kd.heap_pair (Kd.heap_int .i64) (Kd.heap_slice 5 (Kd.heap_int .u8)))))
theorem k62_open {w : World} {x : S62} {cs : List Value} (h : k62.K w x cs) : ∃ A3 c3, cs = [.int .i64 x.f0, .int .i64 x.f1, .int .i64 x.f2, .slice A3 x.f3.length c3] ∧ x.f3.length ≤ c3 ∧ (Kd.int .u8).C w A3 x.f3.length x.f3 := by
  obtain ⟨_, _, rfl, rfl, ⟨_, _, rfl, rfl, ⟨_, _, rfl, rfl, ⟨A3, c3, rfl, l3, g3⟩⟩⟩⟩ := h
  exact ⟨A3, c3, rfl, l3, g3⟩
theorem k62_openM {w : World} {base : Nat} {ok : Nat → Prop} {x : S62} {cs : List Value} (h : k62.M w base ok x cs) : ∃ v3, cs = [.int .i64 x.f0, .int .i64 x.f1, .int .i64 x.f2, v3] ∧ (Kd.int .u8).R 5 w base ok v3 x.f3 := by
  obtain ⟨_, _, rfl, rfl, ⟨_, _, rfl, rfl, ⟨_, _, rfl, rfl, ⟨v3, rfl, g3⟩⟩⟩⟩ := h
  exact ⟨v3, rfl, g3⟩
theorem k62_mk (w : World) (x : S62) {A3 : Option Addr} {c3 : Nat} (l3 : x.f3.length ≤ c3) (g3 : (Kd.int .u8).C w A3 x.f3.length x.f3) : k62.K w x [.int .i64 x.f0, .int .i64 x.f1, .int .i64 x.f2, .slice A3 x.f3.length c3] := ⟨[.int .i64 x.f0], [.int .i64 x.f1, .int .i64 x.f2, .slice A3 x.f3.length c3], rfl, rfl, ⟨[.int .i64 x.f1], [.int .i64 x.f2, .slice A3 x.f3.length c3], rfl, rfl, ⟨[.int .i64 x.f2], [.slice A3 x.f3.length c3], rfl, rfl, ⟨A3, c3, rfl, l3, g3⟩⟩⟩⟩
theorem k62_mkM (w : World) (base : Nat) (ok : Nat → Prop) (x : S62) {v3 : Value} (g3 : (Kd.int .u8).R 5 w base ok v3 x.f3) : k62.M w base ok x [.int .i64 x.f0, .int .i64 x.f1, .int .i64 x.f2, v3] := ⟨[.int .i64 x.f0], [.int .i64 x.f1, .int .i64 x.f2, v3], rfl, rfl, ⟨[.int .i64 x.f1], [.int .i64 x.f2, v3], rfl, rfl, ⟨[.int .i64 x.f2], [v3], rfl, rfl, ⟨v3, rfl, g3⟩⟩⟩⟩
theorem k62_openF {W : World} {ok : Nat → Prop} {x : S62} {cs : List Value} (h : Kd.FK k62 W ok x cs) : ∃ A3 c3, cs = [.int .i64 x.f0, .int .i64 x.f1, .int .i64 x.f2, .slice A3 x.f3.length c3] ∧ x.f3.length ≤ c3 ∧ Kd.F (Kd.int .u8) W ok A3 x.f3.length x.f3 := by
  obtain ⟨A3, c3, rfl, l3, _⟩ := k62_open (Kd.FK_now h)
  exact ⟨A3, c3, rfl, l3, (fun W' hW => by obtain ⟨A3_, c3_, he, l3_, g3_⟩ := k62_open (h W' hW); injection (Option.some.inj (show some (Value.slice A3 x.f3.length c3) = some (Value.slice A3_ x.f3.length c3_) from congrArg (fun l => l[3]?) he)) with ha_ _ _; rw [ha_]; exact g3_)⟩
theorem k62_mkF (W : World) (ok : Nat → Prop) (x : S62) {A3 : Option Addr} {c3 : Nat} (l3 : x.f3.length ≤ c3) (g3 : Kd.F (Kd.int .u8) W ok A3 x.f3.length x.f3) : Kd.FK k62 W ok x [.int .i64 x.f0, .int .i64 x.f1, .int .i64 x.f2, .slice A3 x.f3.length c3] := fun W2 hW => k62_mk W2 x l3 (g3 W2 hW)
def rd_T62 (xs : List S62) (i : Int) : S62 := xs.getD i.toNat z62
theorem at_T62 {w : World} {A : Option Addr} {n : Nat} {xs : List S62} (h : Kd.C k62 w A n xs) (i : Int) (h0 : 0 ≤ i) (h1 : i < n) : ∃ ad A3 c3, A = some ad ∧ w.cell? (ad.add (i.toNat * 4)) = some (.int .i64 (rd_T62 xs i).f0) ∧ w.cell? ⟨(ad.add (i.toNat * 4)).block, (ad.add (i.toNat * 4)).off + 1, none⟩ = some (.int .i64 (rd_T62 xs i).f1) ∧ w.cell? ⟨(ad.add (i.toNat * 4)).block, (ad.add (i.toNat * 4)).off + 2, none⟩ = some (.int .i64 (rd_T62 xs i).f2) ∧ w.cell? ⟨(ad.add (i.toNat * 4)).block, (ad.add (i.toNat * 4)).off + 3, none⟩ = some (.slice A3 (rd_T62 xs i).f3.length c3) ∧ (rd_T62 xs i).f3.length ≤ c3 ∧ (Kd.int .u8).C w A3 (rd_T62 xs i).f3.length (rd_T62 xs i).f3 := by
  obtain ⟨ad, c, e, _, hK, hc0⟩ := Kd.C_get h z62 i h0 h1
  have hc : ∀ j u, c[j]? = some u → w.cell? (ad.add (i.toNat * 4 + j)) = some u := hc0
  obtain ⟨A3, c3, rfl, l3, g3⟩ := k62_open hK
  exact ⟨ad, A3, c3, e, hc 0 _ rfl, by rw [← add_field _ _ 1 (by omega)]; exact hc 1 _ rfl, by rw [← add_field _ _ 2 (by omega)]; exact hc 2 _ rfl, by rw [← add_field _ _ 3 (by omega)]; exact hc 3 _ rfl, l3, g3⟩

/-! #### struct type 72 -/
structure S72 where
  f0 : Int
  f1 : ByteArray
def z72 : S72 := ⟨(0 : Int), (⟨#[]⟩ : ByteArray)⟩
def k72 : Kd S72 := Kd.iso (Kd.pair (Kd.int .i64) Kd.string) (fun x : S72 => (x.f0, x.f1))
theorem k72_heap : Kd.Heap k72 := Kd.heap_iso _ (Kd.heap_pair (Kd.heap_int .i64) Kd.heap_string)
theorem k72_open {w : World} {x : S72} {cs : List Value} (h : k72.K w x cs) : cs = [.int .i64 x.f0, .string x.f1] := by
  obtain ⟨_, _, rfl, rfl, rfl⟩ := h
  exact rfl
theorem k72_openM {w : World} {base : Nat} {ok : Nat → Prop} {x : S72} {cs : List Value} (h : k72.M w base ok x cs) : cs = [.int .i64 x.f0, .string x.f1] := by
  obtain ⟨_, _, rfl, rfl, rfl⟩ := h
  exact rfl
theorem k72_mk (w : World) (x : S72)  : k72.K w x [.int .i64 x.f0, .string x.f1] := ⟨[.int .i64 x.f0], [.string x.f1], rfl, rfl, rfl⟩
theorem k72_mkM (w : World) (base : Nat) (ok : Nat → Prop) (x : S72)  : k72.M w base ok x [.int .i64 x.f0, .string x.f1] := ⟨[.int .i64 x.f0], [.string x.f1], rfl, rfl, rfl⟩
theorem k72_mkF (W : World) (ok : Nat → Prop) (x : S72) : Kd.FK k72 W ok x [.int .i64 x.f0, .string x.f1] := fun W2 _ => k72_mk W2 x
def rd_T72 (xs : List S72) (i : Int) : S72 := xs.getD i.toNat z72
theorem at_T72 {w : World} {A : Option Addr} {n : Nat} {xs : List S72} (h : Kd.C k72 w A n xs) (i : Int) (h0 : 0 ≤ i) (h1 : i < n) : ∃ ad , A = some ad ∧ w.cell? (ad.add (i.toNat * 2)) = some (.int .i64 (rd_T72 xs i).f0) ∧ w.cell? ⟨(ad.add (i.toNat * 2)).block, (ad.add (i.toNat * 2)).off + 1, none⟩ = some (.string (rd_T72 xs i).f1) := by
  obtain ⟨ad, c, e, _, hK, hc0⟩ := Kd.C_get h z72 i h0 h1
  have hc : ∀ j u, c[j]? = some u → w.cell? (ad.add (i.toNat * 2 + j)) = some u := hc0
  obtain rfl := k72_open hK
  exact ⟨ad, e, hc 0 _ rfl, by rw [← add_field _ _ 1 (by omega)]; exact hc 1 _ rfl⟩

def rd_L6 (xs : List (List S62)) (i : Int) : (List S62) := xs.getD i.toNat ([] : List S62)
theorem at_L6 {w : World} {A : Option Addr} {n : Nat} {xs : List (List S62)} (h : Kd.C (Kd.slice 62 k62) w A n xs) (i : Int) (h0 : 0 ≤ i) (h1 : i < n) : ∃ ad A0 c0, A = some ad ∧ w.cell? (ad.add i.toNat) = some (.slice A0 (rd_L6 xs i).length c0) ∧ (rd_L6 xs i).length ≤ c0 ∧ k62.C w A0 (rd_L6 xs i).length (rd_L6 xs i) := by
  obtain ⟨ad, c, e, _, hK, hc0⟩ := Kd.C_get h ([] : List S62) i h0 h1
  have hc : ∀ j u, c[j]? = some u → w.cell? (ad.add (i.toNat * 1 + j)) = some u := hc0
  obtain ⟨A0, c0, rfl, l0, g0⟩ := hK
  exact ⟨ad, A0, c0, e, by have hq := hc 0 _ rfl; rwa [Nat.mul_one, Nat.add_zero] at hq, l0, g0⟩

/-! #### struct type 58 -/
structure S58 where
  f0 : Int
  f1 : Int
  f2 : Int
  f3 : (List S62)
def z58 : S58 := ⟨(0 : Int), (0 : Int), (0 : Int), ([] : List S62)⟩
def k58 : Kd S58 := Kd.iso (Kd.pair (Kd.int .i64) (Kd.pair (Kd.int .i64) (Kd.pair (Kd.int .i64) (Kd.slice 62 k62)))) (fun x : S58 => (x.f0, x.f1, x.f2, x.f3))
theorem k58_heap : Kd.Heap k58 := Kd.heap_iso _ (Kd.heap_pair (Kd.heap_int .i64) (Kd.heap_pair (Kd.heap_int .i64) (Kd.heap_pair (Kd.heap_int .i64) (Kd.heap_slice 62 k62_heap))))
theorem k58_open {w : World} {x : S58} {cs : List Value} (h : k58.K w x cs) : ∃ A3 c3, cs = [.int .i64 x.f0, .int .i64 x.f1, .int .i64 x.f2, .slice A3 x.f3.length c3] ∧ x.f3.length ≤ c3 ∧ k62.C w A3 x.f3.length x.f3 := by
  obtain ⟨_, _, rfl, rfl, ⟨_, _, rfl, rfl, ⟨_, _, rfl, rfl, ⟨A3, c3, rfl, l3, g3⟩⟩⟩⟩ := h
  exact ⟨A3, c3, rfl, l3, g3⟩
theorem k58_openM {w : World} {base : Nat} {ok : Nat → Prop} {x : S58} {cs : List Value} (h : k58.M w base ok x cs) : ∃ v3, cs = [.int .i64 x.f0, .int .i64 x.f1, .int .i64 x.f2, v3] ∧ k62.R 62 w base ok v3 x.f3 := by
  obtain ⟨_, _, rfl, rfl, ⟨_, _, rfl, rfl, ⟨_, _, rfl, rfl, ⟨v3, rfl, g3⟩⟩⟩⟩ := h
  exact ⟨v3, rfl, g3⟩
theorem k58_mk (w : World) (x : S58) {A3 : Option Addr} {c3 : Nat} (l3 : x.f3.length ≤ c3) (g3 : k62.C w A3 x.f3.length x.f3) : k58.K w x [.int .i64 x.f0, .int .i64 x.f1, .int .i64 x.f2, .slice A3 x.f3.length c3] := ⟨[.int .i64 x.f0], [.int .i64 x.f1, .int .i64 x.f2, .slice A3 x.f3.length c3], rfl, rfl, ⟨[.int .i64 x.f1], [.int .i64 x.f2, .slice A3 x.f3.length c3], rfl, rfl, ⟨[.int .i64 x.f2], [.slice A3 x.f3.length c3], rfl, rfl, ⟨A3, c3, rfl, l3, g3⟩⟩⟩⟩
theorem k58_mkM (w : World) (base : Nat) (ok : Nat → Prop) (x : S58) {v3 : Value} (g3 : k62.R 62 w base ok v3 x.f3) : k58.M w base ok x [.int .i64 x.f0, .int .i64 x.f1, .int .i64 x.f2, v3] := ⟨[.int .i64 x.f0], [.int .i64 x.f1, .int .i64 x.f2, v3], rfl, rfl, ⟨[.int .i64 x.f1], [.int .i64 x.f2, v3], rfl, rfl, ⟨[.int .i64 x.f2], [v3], rfl, rfl, ⟨v3, rfl, g3⟩⟩⟩⟩
theorem k58_openF {W : World} {ok : Nat → Prop} {x : S58} {cs : List Value} (h : Kd.FK k58 W ok x cs) : ∃ A3 c3, cs = [.int .i64 x.f0, .int .i64 x.f1, .int .i64 x.f2, .slice A3 x.f3.length c3] ∧ x.f3.length ≤ c3 ∧ Kd.F k62 W ok A3 x.f3.length x.f3 := by
  obtain ⟨A3, c3, rfl, l3, _⟩ := k58_open (Kd.FK_now h)
  exact ⟨A3, c3, rfl, l3, (fun W' hW => by obtain ⟨A3_, c3_, he, l3_, g3_⟩ := k58_open (h W' hW); injection (Option.some.inj (show some (Value.slice A3 x.f3.length c3) = some (Value.slice A3_ x.f3.length c3_) from congrArg (fun l => l[3]?) he)) with ha_ _ _; rw [ha_]; exact g3_)⟩
theorem k58_mkF (W : World) (ok : Nat → Prop) (x : S58) {A3 : Option Addr} {c3 : Nat} (l3 : x.f3.length ≤ c3) (g3 : Kd.F k62 W ok A3 x.f3.length x.f3) : Kd.FK k58 W ok x [.int .i64 x.f0, .int .i64 x.f1, .int .i64 x.f2, .slice A3 x.f3.length c3] := fun W2 hW => k58_mk W2 x l3 (g3 W2 hW)
def rd_T58 (xs : List S58) (i : Int) : S58 := xs.getD i.toNat z58
theorem at_T58 {w : World} {A : Option Addr} {n : Nat} {xs : List S58} (h : Kd.C k58 w A n xs) (i : Int) (h0 : 0 ≤ i) (h1 : i < n) : ∃ ad A3 c3, A = some ad ∧ w.cell? (ad.add (i.toNat * 4)) = some (.int .i64 (rd_T58 xs i).f0) ∧ w.cell? ⟨(ad.add (i.toNat * 4)).block, (ad.add (i.toNat * 4)).off + 1, none⟩ = some (.int .i64 (rd_T58 xs i).f1) ∧ w.cell? ⟨(ad.add (i.toNat * 4)).block, (ad.add (i.toNat * 4)).off + 2, none⟩ = some (.int .i64 (rd_T58 xs i).f2) ∧ w.cell? ⟨(ad.add (i.toNat * 4)).block, (ad.add (i.toNat * 4)).off + 3, none⟩ = some (.slice A3 (rd_T58 xs i).f3.length c3) ∧ (rd_T58 xs i).f3.length ≤ c3 ∧ k62.C w A3 (rd_T58 xs i).f3.length (rd_T58 xs i).f3 := by
  obtain ⟨ad, c, e, _, hK, hc0⟩ := Kd.C_get h z58 i h0 h1
  have hc : ∀ j u, c[j]? = some u → w.cell? (ad.add (i.toNat * 4 + j)) = some u := hc0
  obtain ⟨A3, c3, rfl, l3, g3⟩ := k58_open hK
  exact ⟨ad, A3, c3, e, hc 0 _ rfl, by rw [← add_field _ _ 1 (by omega)]; exact hc 1 _ rfl, by rw [← add_field _ _ 2 (by omega)]; exact hc 2 _ rfl, by rw [← add_field _ _ 3 (by omega)]; exact hc 3 _ rfl, l3, g3⟩

/-! ### errors as rows: none, or one Fault -/
def eRow : Value → Value
  | .nilIface => .slice none 0 0
  | .iface 69 (.pointer (some a)) => .slice (some a) 1 1
  | _ => .bool false
theorem eRow_inv {v : Value} {w : World} {base size n : Nat} {e : TypeId} {xs : List Value} (h : w.ownsRow base e size (eRow v) n xs) : (v = .nilIface ∧ n = 0) ∨ ∃ (g : Nat) (cur : Array Value), v = .iface 69 (.pointer (some ⟨g, 0, none⟩)) ∧ n = 1 ∧ base ≤ g ∧ w.heap[g]? = some (.cells cur e (0, 0)) ∧ cur.size = size ∧ cur.toList.take size = xs := by
  obtain ⟨_, h⟩ := h
  unfold eRow at h
  split at h
  · rcases h with ⟨_, h⟩ | ⟨g, cap, cur, h, _⟩
    · exact .inl ⟨rfl, h⟩
    · cases h
  · rcases h with ⟨h, _⟩ | ⟨g, cap, cur, h, hb, hh, _, _, hs, ht⟩
    · cases h
    · injection h with h1 h2 h3
      injection h1 with h1
      subst h1; subst h2; subst h3
      exact .inr ⟨g, cur, rfl, rfl, hb, hh, by omega, by rw [Nat.one_mul] at ht; exact ht⟩
  · rcases h with ⟨h, _⟩ | ⟨g, cap, cur, h, _⟩ <;> cases h
theorem eRow_none {α : Type} {d : Kd α} {e base : Nat} {ok : Nat → Prop} {w : World} {v : Value} {xs : List α} (h : d.R e w base ok (eRow v) xs) (hx : xs.isEmpty = true) : v = .nilIface := by
  obtain ⟨inner, ho⟩ := Kd.R_own h
  rcases eRow_inv ho with ⟨h1, _⟩ | ⟨_, _, _, h1, _⟩
  · exact h1
  · rw [List.isEmpty_iff.1 hx] at h1; cases h1
theorem eRow_some {α : Type} {d : Kd α} {e base : Nat} {ok : Nat → Prop} {w : World} {v : Value} {xs : List α} (h : d.R e w base ok (eRow v) xs) (hx : ¬ xs.isEmpty = true) : ∃ g : Nat, v = .iface 69 (.pointer (some ⟨g, 0, none⟩)) := by
  obtain ⟨inner, ho⟩ := Kd.R_own h
  rcases eRow_inv ho with ⟨_, h1⟩ | ⟨g, _, h1, _⟩
  · exact absurd (List.isEmpty_iff.2 (List.eq_nil_of_length_eq_zero h1)) hx
  · exact ⟨g, h1⟩
theorem eRow_box {W : World} {g base : Nat} {c : Int} {s : ByteArray} {ok : Nat → Prop} (hb : W.heap[g]? = some (.cells #[.int .i64 c, .string s] 72 (0, 0))) (hg : base ≤ g) (hok : ok g) : Kd.R k72 72 W base ok (eRow (.iface 69 (.pointer (some ⟨g, 0, none⟩)))) [(⟨c, s⟩ : S72)] :=
  ⟨fun k hk => by have h : some g = some k := hk; injection h with h; subst h; exact hok, [.int .i64 c, .string s], ⟨rfl, .inr ⟨g, 1, _, rfl, hg, hb, Nat.le_refl _, by unfold maxLen; decide, rfl, rfl⟩⟩, Reps.c2 (k72_mkM _ _ _ ⟨c, s⟩) (Reps.none _ _)⟩
/-- What an error is, out of its fact. -/
theorem eRow_one {base : Nat} {ok : Nat → Prop} {w : World} {v : Value} {xs : List S72} (h : Kd.R k72 72 w base ok (eRow v) xs) : (v = .nilIface ∧ xs = []) ∨ ∃ (g : Nat) (x : S72), xs = [x] ∧ v = .iface 69 (.pointer (some ⟨g, 0, none⟩)) ∧ w.heap[g]? = some (.cells #[.int .i64 x.f0, .string x.f1] 72 (0, 0)) := by
  obtain ⟨_, inner, ho, hr⟩ := h
  rcases eRow_inv ho with ⟨h1, h2⟩ | ⟨g, cur, h1, h2, _, h4, h5, h6⟩
  · exact .inl ⟨h1, List.eq_nil_of_length_eq_zero h2⟩
  · obtain ⟨x, rfl⟩ := List.length_eq_one_iff.1 h2
    refine .inr ⟨g, x, rfl, h1, ?_⟩
    have hx := hr.2 0 x rfl
    have hx2 : List.take 2 (List.drop (0 * 2) inner) = [Value.int IntKind.i64 x.f0, Value.string x.f1] := k72_openM hx
    have h5' : cur.toList.length = 2 := h5
    have h6' : List.take 2 cur.toList = inner := h6
    rw [List.take_of_length_le (by omega)] at h6'
    subst h6'
    rw [Nat.zero_mul, List.drop_zero, List.take_of_length_le (by omega)] at hx2
    rw [h4, show cur = #[Value.int IntKind.i64 x.f0, Value.string x.f1] from Array.toList_inj.1 hx2]
/-- An error's value tells this row. -/
def ErrIs (w : World) (u : Value) (l : List S72) : Prop := ∃ base ok, Kd.R k72 72 w base ok (eRow u) l
theorem ErrIs.of {base : Nat} {ok : Nat → Prop} {w : World} {u : Value} {l : List S72} (h : Kd.R k72 72 w base ok (eRow u) l) : ErrIs w u l := ⟨base, ok, h⟩

end Go.Proofs.YthliabidnboklaaDoor.PKey
