-- By a program of this session (wip/myprint.sh) out of the translation; Lean checks it.
import Derived.Test.YtggiddekbocokaaDoorProg
import Derived.Deep.Slices
import Derived.ChangeArms
import Derived.SizedLaws
import Derived.Below
import Derived.Deep.Draws
import Derived.Deep.AppendLies
import Derived.Maps.AppendAt
import Derived.OwnWalk
import Derived.Laws.BytesArg
import Derived.Laws.MakeOwn
import Derived.Laws.OwnMore
import Derived.Deep.OwnRows
import Derived.Tactics
import Derived.Lib.ConvBytes
import Derived.Laws.Slices
import Derived.WalkKit
import Derived.KernelRfl
import Derived.RowKit3
import Derived.Deep.LoopGhost
import Derived.Deep.QuietTactic
import Derived.BigQuiet
import Derived.WideLaws
import Derived.Deep.DeepCutAuto
import Derived.Deep.CutBlock
import Derived.Deep.RegionHeld3
import Derived.Laws.Rows
import Derived.Lib.AppendStr
import Derived.ArgAppend
import Derived.Laws.IdiomCopy
import Derived.OrdersHeld
import Derived.Laws.BitsLemmas
import Derived.RowKit
import Derived.WalkSpells
import Derived.Lib.SliceRun
import Derived.Test.YtggiddekbocokaaDoorErrs4
import Derived.Test.YtggiddekbocokaaDoorWWords
import Derived.Test.YtggiddekbocokaaDoorWLast
import Derived.Test.YtggiddekbocokaaDoorWTab
import Derived.Test.YtggiddekbocokaaDoorWFour
import Derived.Test.YtggiddekbocokaaDoorWQPut
import Derived.Test.YtggiddekbocokaaDoorWApart
import Derived.Test.YtggiddekbocokaaDoorWArr
import Derived.Test.YtggiddekbocokaaDoorWZeros
import Derived.Test.YtggiddekbocokaaDoorWFoot
import Derived.Test.YtggiddekbocokaaDoorWKept
import Derived.Test.YtggiddekbocokaaDoorWShare
import Derived.Test.YtggiddekbocokaaDoorWN
import Derived.Test.YtggiddekbocokaaDoorWFootNe
import Derived.Test.YtggiddekbocokaaDoorWAt
import Derived.Test.YtggiddekbocokaaDoorWEqStruct
import Derived.Test.YtggiddekbocokaaDoorWRepsOne
import Derived.Test.YtggiddekbocokaaDoorWInv
import Derived.Test.YtggiddekbocokaaDoorWInvWords
import Derived.Test.YtggiddekbocokaaDoorWGuard
import Derived.Test.YtggiddekbocokaaDoorWNEv
import Derived.Test.YtggiddekbocokaaDoorWMore
namespace Go.Proofs.YtggiddekbocokaaDoor.PLP
open Go.RowKit Go.Proofs.YtggiddekbocokaaDoorW.PrintWords Go.Proofs.YtggiddekbocokaaDoorW.PrintLast Go.Proofs.YtggiddekbocokaaDoorW.PrintMore
attribute [local go_sem] max2_int min2_int max_two min_two max_three min_three max_four min_four   -- for this text's walks alone
set_option linter.unusedVariables false
set_option linter.unusedSimpArgs false



def errW : Option Int → Value
  | none => .nilIface
  | some c => .iface 0 (.int .i64 c)
theorem errW_none : errW none = .nilIface := rfl
theorem errW_some (c : Int) : errW (some c) = .iface 0 (.int .i64 c) := rfl

/-! ### words of this session's own -/
theorem own_goesV {P : Program} {ops : Array Oper} {Q : Exit → Act → World → Prop} {oi : Oper} {N : Option Tmp} {a : Act} {w : World} {K : Act → World → Prop} {f : FuncId} {fn : Func} {o : Operand} {ys : Array Operand} {ts : Array TypeId} (hf : P.funcs[f]? = some fn) (hname : (fn.name == "runtime.NumGoroutine") = false) (hb : fn.body.isSome = true) (args : Array Value)
    (hw : Region.wanted oi (yielded ops a.tmps) = true) (hN : oi.dst = N) (hop : oi.op = .call { callee := .value o, args := ys, argTypes := ts }) (ho : a.eval o = .func (.func f) #[] #[]) (hargs : ys.map a.eval = args)
    (h : Calls P f args w fun e w' => ∃ v, e = .returned v ∧ K (a.put N v) w') : if Region.wanted oi (yielded ops a.tmps) = true then Oper.wp P oi a w K Q else K (a.put N undef) w := by
  refine call_ f args hw hN ?_ h
  have he := enters_ hf hname hb args w
  unfold execOp
  simp [hop, resolve, ho, Deferred.ofValue, invoke, hargs, he]
theorem own_C_none {α : Type} {d : Kd α} {w : World} {A : Option Addr} {n : Nat} {xs : List α} (hA : A = none) (h : d.C w A n xs) : xs = [] := by
  obtain ⟨h1, _, h3⟩ := h
  cases Nat.eq_zero_or_pos n with
  | inl h0 => exact List.eq_nil_of_length_eq_zero (h1.trans h0)
  | inr h0 => obtain ⟨ad, ha, _⟩ := h3 h0; rw [hA] at ha; cases ha
theorem own_shr_le {k : IntKind} {x y j : Int} (h : shr k x y = j) (h0 : 0 ≤ x) : 0 ≤ j ∧ j ≤ x := by rw [← h]; unfold shr; exact ⟨Int.ediv_nonneg h0 (Int.le_of_lt (Int.pow_pos (by decide))), Int.ediv_le_self _ h0⟩
theorem own_ite {c : Prop} [Decidable c] {a b : Prop} (h : if c then a else b) : if c then a else b := h
theorem own_upon {P : Program} {o : Oper} {a : Act} {nx : Act → World → Prop} {Q : Exit → Act → World → Prop} {r : Result Next} (h : Oper.upon P o a nx Q r) : Oper.upon P o a nx Q r := h
theorem own_cond {P : Program} {c : Operand} {x y : Code} {Q : Exit → Act → World → Prop} {a : Act} {w : World} (h : (Code.cond c x y).wp P Q a w) : (Code.cond c x y).wp P Q a w := h
theorem own_condT {P : Program} {c : Operand} {x y : Code} {Q : Exit → Act → World → Prop} {a : Act} {w : World} (hc : a.eval c = .bool true) (h : x.wp P Q a w) : (Code.cond c x y).wp P Q a w := wp_cond_split hc (fun _ => h) (fun e => by cases e)
theorem own_condF {P : Program} {c : Operand} {x y : Code} {Q : Exit → Act → World → Prop} {a : Act} {w : World} (hc : a.eval c = .bool false) (h : y.wp P Q a w) : (Code.cond c x y).wp P Q a w := wp_cond_split hc (fun e => by cases e) (fun _ => h)
theorem own_iteT {α : Sort _} {a b : α} : (if true = true then a else b) = a := if_pos rfl
theorem own_iteF {α : Sort _} {a b : α} : (if false = true then a else b) = b := if_neg (by decide)
/-! ### arguments opened, kind by kind -/
def Fits (P : Program) (t : TypeId) {H : Type} (d : DataW H) : Prop := ∀ n ∈ d.weights P t, n ≤ 140737488351232
theorem Fits.of_each {P : Program} {ts : List TypeId} {H : Type} {ds : List (DataW H)} {j : Nat} {t : TypeId} {d : DataW H} (h : (DataW.weightsEach P ts ds).all (· ≤ reachBytes) = true) (ht : ts[j]? = some t) (hd : ds[j]? = some d) : Fits P t d := fun n hn => by
  have := List.all_eq_true.1 h _ (DataW.weights_mem_each ht hd n hn)
  exact of_decide_eq_true this
theorem weights_mem_all {H : Type} {P : Program} {e : TypeId} {d : DataW H} {n : Nat} (hn : n ∈ d.weights P e) : ∀ {l : List (DataW H)}, d ∈ l → n ∈ DataW.weightsAll P e l
  | x :: r, h => by
    simp only [DataW.weightsAll, List.mem_append]
    rcases List.mem_cons.1 h with z | z
    · subst z; exact .inl hn
    · exact .inr (weights_mem_all hn z)
def Opens (P : Program) {α : Type} (d : Kd α) (Q : α → Prop) (t : TypeId) : Prop :=
  ∀ (H : Type) (enc : TypeId × Value → H) (w : World) (fuel : Nat) (cs : List Value) (x : DataW H × List MemPlace), DataW.trod enc P w 0 (fun _ => true) true fuel t cs = some x → Fits P t x.1 → ∃ p, d.K w p cs ∧ Q p
theorem Opens.int {P : Program} {t : TypeId} {k : IntKind} (hu : P.underlying t = some (.int k)) : Opens P (Kd.int k) (fun n => (Lit.int k n).wf = true) t := fun _ _ _ _ _ _ h _ => by
  obtain ⟨n, rfl, _, hw⟩ := DataW.trod_int hu h
  exact ⟨n, rfl, hw⟩
theorem Opens.bool {P : Program} {t : TypeId} (hu : P.underlying t = some .bool) : Opens P Kd.bool (fun _ => True) t := fun _ _ _ _ _ _ h _ => by
  obtain ⟨b, rfl, _⟩ := DataW.trod_bool hu h
  exact ⟨b, rfl, trivial⟩
theorem Opens.string {P : Program} {t : TypeId} (hu : P.underlying t = some .string) : Opens P Kd.string (fun s => s.size ≤ 140737488351232) t := fun _ _ _ _ _ _ h hf => by
  obtain ⟨s, rfl, rfl, hs⟩ := DataW.trod_string hu h
  exact ⟨s, rfl, by simpa using hf s.data.toList.length (by simp [DataW.weights])⟩
theorem opens_list {α : Type} (d : Kd α) (Q : α → Prop) (w : World) (a : Addr) (sz : Nat) (hsz : d.sz = sz) : ∀ len, (∀ i, i < len → ∃ p cs, d.K w p cs ∧ Q p ∧ ∀ j u, cs[j]? = some u → w.cell? (a.add (i * sz + j)) = some u) →
    ∃ xs : List α, xs.length = len ∧ (∀ x ∈ xs, Q x) ∧ ∀ j p, xs[j]? = some p → ∃ c, c.length = sz ∧ d.K w p c ∧ ∀ i u, c[i]? = some u → w.cell? (a.add (j * sz + i)) = some u
  | 0, _ => ⟨[], rfl, fun _ h => (List.not_mem_nil h).elim, fun _ _ h => by simp at h⟩
  | len + 1, h => by
    obtain ⟨xs, hl, hq, hx⟩ := opens_list d Q w a sz hsz len (fun i hi => h i (Nat.lt_succ_of_lt hi))
    obtain ⟨p, cs, hk, hp, hc⟩ := h len (Nat.lt_succ_self len)
    refine ⟨xs ++ [p], by rw [List.length_append, hl]; rfl, fun x hm => ?_, fun j q hj => ?_⟩
    · rcases List.mem_append.1 hm with z | z
      · exact hq x z
      · rw [List.mem_singleton.1 z]; exact hp
    · rcases Nat.lt_or_ge j xs.length with z | z
      · rw [List.getElem?_append_left z] at hj
        exact hx j q hj
      · rw [List.getElem?_append_right z] at hj
        obtain ⟨hj1, hj2⟩ := List.getElem?_eq_some_iff.1 hj
        have hj0 : j - xs.length = 0 := by simpa using hj1
        have e : j = len := by omega
        subst e
        have hq' : q = p := by rw [← hj2]; simp [hj0]
        subst hq'
        exact ⟨cs, (d.K_len hk).trans hsz, hk, hc⟩
theorem Opens.slice {P : Program} {α : Type} {d : Kd α} {Q : α → Prop} {t e : TypeId} (hu : P.underlying t = some (.slice e)) (hc : P.cellsOf e = d.sz) {B : Nat} (hB : P.bytesOf e = B) (h : Opens P d Q e) : Opens P (Kd.slice e d) (fun xs => xs.length ≤ maxLen ∧ xs.length * B ≤ 140737488351232 ∧ ∀ x ∈ xs, Q x) t := fun H enc w fuel cs x hx hf => by
  rcases Go.Deep.open_slice hu hx with ⟨rfl, _⟩ | ⟨a, len, cap, m, n, D, Pl, rfl, _, hl, hm, hmm, rfl, hi⟩
  · exact ⟨[], ⟨none, 0, rfl, Nat.le_refl _, Kd.C_nil _ _⟩, Nat.zero_le _, by simp, fun _ z => by cases z⟩
  · have hmc : m = cap := hmm
    obtain ⟨xs, h1, h2, h3⟩ := opens_list d Q w a (P.cellsOf e) hc.symm len (fun i hil => by
      obtain ⟨cs', hcs, ht⟩ := hi i (by omega)
      obtain ⟨p, hk, hq⟩ := h H enc w n cs' _ ht (fun q hq => hf q (by
        simp only [DataW.weights, hu, List.mem_cons, List.mem_append]
        exact .inr (.inl (weights_mem_all hq (List.mem_map.2 ⟨i, List.mem_range.2 hil, rfl⟩)))))
      obtain ⟨_, hcl, hat⟩ := World.cells?_some hcs
      refine ⟨p, cs', hk, hq, fun j u hj => ?_⟩
      have hjl : j < P.cellsOf e := by have := (List.getElem?_eq_some_iff.1 hj).1; omega
      have := hat j hjl
      rw [← Go.Deep.add_add, this, hj])
    subst h1
    have hw : xs.length * B ≤ 140737488351232 := by
      refine Nat.le_trans ?_ (hf _ (by simp only [DataW.weights, hu, List.mem_cons]; exact .inl rfl))
      rw [hB]
      exact Nat.mul_le_mul_right _ (by simp)
    refine ⟨xs, ⟨some a, cap, rfl, hl, rfl, Nat.le_trans (Nat.le_trans hl hm) (by decide), fun _ => ⟨a, rfl, fun j p hj => ?_⟩⟩, Nat.le_trans hl hm, hw, h2⟩
    obtain ⟨c, c1, c2, c3⟩ := h3 j p hj
    rw [hc] at c1 c3
    exact ⟨c, c1, c2, c3⟩
/-- Types in line: each one's cells, one behind the other. -/
def Segs {H : Type} (enc : TypeId × Value → H) (P : Program) (w : World) (n : Nat) : List TypeId → List Value → Prop
  | [], cs => cs = []
  | t :: ts, cs => (∃ y, DataW.trod enc P w 0 (fun _ => true) true n t (cs.take (P.cellsOf t)) = some y ∧ Fits P t y.1) ∧ Segs enc P w n ts (cs.drop (P.cellsOf t))
def OpensL (P : Program) {α : Type} (d : Kd α) (Q : α → Prop) (ts : List TypeId) : Prop :=
  ∀ (H : Type) (enc : TypeId × Value → H) (w : World) (n : Nat) (cs : List Value), Segs enc P w n ts cs → ∃ p, d.K w p cs ∧ Q p
theorem OpensL.one {P : Program} {α : Type} {d : Kd α} {Q : α → Prop} {t : TypeId} (h : Opens P d Q t) : OpensL P d Q [t] := fun H enc w n cs hs => by
  obtain ⟨⟨y, hy, hf⟩, hd⟩ := hs
  obtain ⟨p, hk, hq⟩ := h H enc w n _ y hy hf
  refine ⟨p, ?_, hq⟩
  have e : cs.take (P.cellsOf t) = cs := by
    have := List.take_append_drop (P.cellsOf t) cs
    rw [show cs.drop (P.cellsOf t) = [] from hd, List.append_nil] at this
    exact this
  rw [e] at hk; exact hk
theorem OpensL.cons {P : Program} {α β : Type} {a : Kd α} {b : Kd β} {Qa : α → Prop} {Qb : β → Prop} {t : TypeId} {ts : List TypeId} (h : Opens P a Qa t) (hs : OpensL P b Qb ts) : OpensL P (Kd.pair a b) (fun x => Qa x.1 ∧ Qb x.2) (t :: ts) := fun H enc w n cs hg => by
  obtain ⟨⟨y, hy, hf⟩, hd⟩ := hg
  obtain ⟨p, hk, hq⟩ := h H enc w n _ y hy hf
  obtain ⟨r, hk2, hq2⟩ := hs H enc w n _ hd
  exact ⟨(p, r), ⟨_, _, (List.take_append_drop _ _).symm, hk, hk2⟩, hq, hq2⟩
def okOff (P : Program) : Nat → List Field → Option Nat
  | off, [] => some off
  | off, f :: r => if f.offset = off then okOff P (off + P.cellsOf f.type) r else none
theorem segs_of {H : Type} (enc : TypeId × Value → H) (P : Program) (w : World) (n : Nat) (cs : List Value) : ∀ (fs : List Field) (off : Nat), okOff P off fs = some cs.length →
    (∀ f ∈ fs, ∃ y, DataW.trod enc P w 0 (fun _ => true) true n f.type ((cs.drop f.offset).take (P.cellsOf f.type)) = some y ∧ Fits P f.type y.1) → Segs enc P w n (fs.map (·.type)) (cs.drop off)
  | [], off, ho, _ => by
    have e : off = cs.length := Option.some.inj ho
    show cs.drop off = []
    rw [e, List.drop_length]
  | f :: r, off, ho, h => by
    unfold okOff at ho
    by_cases c : f.offset = off
    · rw [if_pos c] at ho
      obtain ⟨y, hy⟩ := h f List.mem_cons_self
      rw [c] at hy
      refine ⟨⟨y, hy.1, hy.2⟩, ?_⟩
      have := segs_of enc P w n cs r (off + P.cellsOf f.type) ho (fun g hg => h g (List.mem_cons_of_mem _ hg))
      rw [List.drop_drop]; exact this
    · rw [if_neg c] at ho; cases ho
theorem Opens.struct {P : Program} {α : Type} {d : Kd α} {Q : α → Prop} {t : TypeId} {fs : Array Field} (hu : P.underlying t = some (.struct fs)) (hoff : okOff P 0 fs.toList = some (P.cellsOf t)) (h : OpensL P d Q (fs.toList.map (·.type))) : Opens P d Q t := fun H enc w fuel cs x hx hfit => by
  obtain ⟨xs, n, _, rfl, hl, hxl, hf⟩ := DataW.trod_struct hu hx
  have hs := segs_of enc P w n cs fs.toList 0 (by rw [hoff, hl]) (fun f hm => by
    obtain ⟨i, hi⟩ := List.mem_iff_getElem?.1 hm
    have hi2 : fs[i]? = some f := by simpa using hi
    have hlt : i < xs.length := by
      have := (Array.getElem?_eq_some_iff.1 hi2).1
      omega
    refine ⟨xs[i], (hf i f hi2).trans (List.getElem?_eq_getElem hlt), fun q hq => hfit q ?_⟩
    simp only [DataW.weights, hu]
    exact DataW.weights_mem_each (j := i) (by simp [hi2]) (by simp [hlt]) q hq)
  exact h H enc w n cs hs
theorem Opens.iso {P : Program} {α β : Type} {d : Kd α} {Q : α → Prop} {t : TypeId} (f : β → α) (g : α → β) (hfg : ∀ x, f (g x) = x) (h : Opens P d Q t) : Opens P (Kd.iso d f) (fun y => Q (f y)) t := fun H enc w fuel cs x hx hf => by
  obtain ⟨p, hk, hq⟩ := h H enc w fuel cs x hx hf
  refine ⟨g p, ?_, ?_⟩
  · show d.K w (f (g p)) cs
    rw [hfg]; exact hk
  · show Q (f (g p))
    rw [hfg]; exact hq
/-! ### rows with spare room that is marked: a row of the call's own, and the same row three places longer -/
def lendV : Value → Value
  | .slice A n c => .slice A (n + 3) c
  | v => v
section
variable {d : Kd Int} {e e' : Nat} {w w1 W W2 : World} {base g N : Nat} {ok ok' : Nat → Prop} {u v : Value} {xs : List Int} {S : Nat → Prop}
def Kd.LI (d : Kd Int) (e : Nat) (w : World) (base : Nat) (ok : Nat → Prop) (v : Value) (xs : List Int) : Prop := d.R e w base ok v xs ∧ d.R e w base ok (lendV v) (xs ++ [-777, -777, -777])
theorem Kd.LI_R  (h : Kd.LI d e w base ok v xs) : d.R e w base ok v xs := h.1
theorem Kd.LI_mono  (h : Kd.LI d e w base ok v xs) (hok : ∀ k, ok k → ok' k) : Kd.LI d e w base ok' v xs := ⟨Kd.R_mono h.1 hok, Kd.R_mono h.2 hok⟩
theorem Kd.LI_bound  (h : Kd.LI d e w base ok v xs)  : Kd.LI d e w base (fun k => ok k ∧ base ≤ k ∧ k < w.heap.size ∧ ∃ q, q ∈ e :: d.E ∧ ∃ cells, w.heap[k]? = some (.cells cells q (0, 0))) v xs := ⟨Kd.R_bound h.1, Kd.R_bound h.2⟩
theorem Kd.LI_step  (h : Kd.LI d e w base ok v xs) (hm : ∀ k, ok k → k < w.heap.size → w1.heap[k]? = w.heap[k]?) : Kd.LI d e w1 base ok v xs := ⟨Kd.R_step h.1 hm, Kd.R_step h.2 hm⟩
theorem Kd.LI_lower  (h : Kd.LI d e w base ok v xs) {base' : Nat} (hb : base' ≤ base) : Kd.LI d e w base' ok v xs := ⟨Kd.R_lower h.1 hb, Kd.R_lower h.2 hb⟩
theorem Kd.LI_below  (h : Kd.LI d e w base ok v xs) (hb : Below w.heap.size w w1) : Kd.LI d e w1 base ok v xs := ⟨Kd.R_below h.1 hb, Kd.R_below h.2 hb⟩
theorem Kd.LI_alloc  (h : Kd.LI d e w base ok v xs) (o : Obj) : Kd.LI d e (w.alloc o) base ok v xs := ⟨Kd.R_alloc h.1 o, Kd.R_alloc h.2 o⟩
theorem Kd.LI_drew  (h : Kd.LI d e w base ok v xs)  : Kd.LI d e w.drew base ok v xs := ⟨Kd.R_drew h.1, Kd.R_drew h.2⟩
theorem Kd.LI_drewN  (h : Kd.LI d e w base ok v xs) (m : Nat) : Kd.LI d e (w.drewN m) base ok v xs := ⟨Kd.R_drewN h.1 m, Kd.R_drewN h.2 m⟩
theorem Kd.LI_grown  (h : Kd.LI d e w base ok v xs) {row : Option Nat} (hg : w.grownBy w1 row) (hok : ∀ k, ok k → some k ≠ row) : Kd.LI d e w1 base ok v xs := ⟨Kd.R_grown h.1 hg hok, Kd.R_grown h.2 hg hok⟩
theorem Kd.LI_far  (h : Kd.LI d e w base ok v xs) {p : Addr} (hok : ∀ k, ok k → k ≠ p.block) (z : Value) : Kd.LI d e (w.setCell p z) base ok v xs := ⟨Kd.R_far h.1 hok z, Kd.R_far h.2 hok z⟩
theorem Kd.LI_keep  (h : Kd.LI d e w base ok v xs) (hk : KeepBut w w1 g none) (hok : ∀ k, ok k → k ≠ g) : Kd.LI d e w1 base ok v xs := ⟨Kd.R_keep h.1 hk hok, Kd.R_keep h.2 hk hok⟩
theorem Kd.LI_types  (h : Kd.LI d e w base ok v xs) {t : Nat} {cells : Array Value} (hb : w.heap[g]? = some (.cells cells t (0, 0))) (ht : ∀ q, q ∈ e :: d.E → q ≠ t) : Kd.LI d e w base (fun k => ok k ∧ k ≠ g) v xs := ⟨Kd.R_types h.1 hb ht, Kd.R_types h.2 hb ht⟩
theorem Kd.LI_set  (h : Kd.LI d e w base ok v xs) {t : Nat} {cells : Array Value} (hb : w.heap[g]? = some (.cells cells t (0, 0))) (ht : ∀ q, q ∈ e :: d.E → q ≠ t) (j : Nat) (z : Value) : Kd.LI d e (w.setCell ⟨g, j, none⟩ z) base ok v xs := ⟨Kd.R_set h.1 hb ht j z, Kd.R_set h.2 hb ht j z⟩
theorem Kd.LI_over'  (h : Kd.LI d e w base ok v xs) (hty : ∀ k, u.ownBlock = some k → ∃ cells, w.heap[k]? = some (.cells cells e' (0, 0))) (ht : ∀ q, q ∈ e :: d.E → q ≠ e') (hg : w.grownBy w1 u.ownBlock) : Kd.LI d e w1 base ok v xs := ⟨Kd.R_over' h.1 hty ht hg, Kd.R_over' h.2 hty ht hg⟩
theorem Kd.LI_apart'  (h : Kd.LI d e w base ok v xs) (hty : ∀ k, u.ownBlock = some k → ∃ cells, w.heap[k]? = some (.cells cells e' (0, 0))) (ht : ∀ q, q ∈ e :: d.E → q ≠ e') : Kd.LI d e w base (fun k => ok k ∧ some k ≠ u.ownBlock) v xs := ⟨Kd.R_apart' h.1 hty ht, Kd.R_apart' h.2 hty ht⟩
theorem Kd.LI_elder'  (h : Kd.LI d e w base ok v xs) (hbase : ∀ k, u.ownBlock = some k → w.heap.size ≤ k) (hb : Below w.heap.size w w1) : Kd.LI d e w1 base (fun k => ok k ∧ some k ≠ u.ownBlock) v xs := ⟨Kd.R_elder' h.1 hbase hb, Kd.R_elder' h.2 hbase hb⟩
theorem Kd.LI_new'  (h : Kd.LI d e w W.heap.size ok v xs) (hlt : ∀ k, u.ownBlock = some k → k < W.heap.size) : Kd.LI d e w W.heap.size (fun k => ok k ∧ some k ≠ u.ownBlock) v xs := ⟨Kd.R_new' h.1 hlt, Kd.R_new' h.2 hlt⟩
theorem Kd.LI_elderB  (h : Kd.LI d e w base ok v xs) (a : Nat) (ha : w.heap.size ≤ a) : Kd.LI d e w base (fun k => ok k ∧ k ≠ a) v xs := ⟨Kd.R_elderB h.1 a ha, Kd.R_elderB h.2 a ha⟩
theorem Kd.LI_newB  (h : Kd.LI d e w W.heap.size ok v xs) {o : Obj} (hb : W.heap[g]? = some o) : Kd.LI d e w W.heap.size (fun k => ok k ∧ k ≠ g) v xs := ⟨Kd.R_newB h.1 hb, Kd.R_newB h.2 hb⟩
theorem Kd.LI_newM  (h : Kd.LI d e w W.heap.size ok v xs) {M : Nat → Prop} (hle : w1.heap.size ≤ W.heap.size) (hM : ∀ k, w1.heap.size ≤ k → M k) : Kd.LI d e w W.heap.size (fun k => M k ∧ ok k) v xs := ⟨Kd.R_newM h.1 hle hM, Kd.R_newM h.2 hle hM⟩
theorem Kd.LI_old  (h : Kd.LI d e w base ok v xs) (hb : Below w.heap.size w w1) : Kd.LI d e w1 base (fun k => ok k ∧ k < w.heap.size) v xs := ⟨Kd.R_old h.1 hb, Kd.R_old h.2 hb⟩
theorem Kd.LI_oldK  (h : Kd.LI d e w base (fun k => ok k ∧ k ≠ g) v xs) (hk : KeepBut w w1 g none) : Kd.LI d e w1 base (fun k => ok k ∧ k < w.heap.size) v xs := ⟨Kd.R_oldK h.1 hk, Kd.R_oldK h.2 hk⟩
theorem Kd.LI_told  (h : Kd.LI d e w base (fun k => ok k ∧ k < N) v xs) (hbase : ∀ k, u.ownBlock = some k → N ≤ k) : Kd.LI d e w base (fun k => (ok k ∧ some k ≠ u.ownBlock) ∧ k < N) v xs := ⟨Kd.R_told h.1 hbase, Kd.R_told h.2 hbase⟩
theorem Kd.LI_keptB  (h : Kd.LI d e w base ok v xs) (hk : Kept w W2 S) (hne : ∀ k, ok k → ¬ S k) : Kd.LI d e W2 base (fun k => ok k ∧ (¬ S k ∧ k < w.heap.size)) v xs := ⟨Kd.R_keptB h.1 hk hne, Kd.R_keptB h.2 hk hne⟩
theorem Kd.LI_kept  (h : Kd.LI d e w base ok v xs) (hk : Kept w W2 S) (hne : ∀ k, ok k → ¬ S k) : Kd.LI d e W2 base ok v xs := ⟨Kd.R_kept h.1 hk hne, Kd.R_kept h.2 hk hne⟩
theorem Kd.LI_after  (h : Kd.LI d e w base (fun k => ok k ∧ some k ≠ u.ownBlock) v xs) {v1 : Value} (hg : w.grownBy w1 u.ownBlock) (hat : v1.ownBlock = u.ownBlock ∨ ∃ b, v1.ownBlock = some b ∧ w.heap.size ≤ b) : Kd.LI d e w1 base (fun k => ok k ∧ some k ≠ v1.ownBlock) v xs := ⟨Kd.R_after h.1 hg hat, Kd.R_after h.2 hg hat⟩
theorem Kd.LI_at  {m : Nat} (hq : w.drewN m = w1) (h : Kd.LI d e w base ok v xs) : Kd.LI d e w1 base ok v xs := ⟨Kd.R_at hq h.1, Kd.R_at hq h.2⟩
theorem Kd.LI_typed  (h : Kd.LI d e w base ok v xs)  : ∀ k, v.ownBlock = some k → ∃ cells, w.heap[k]? = some (.cells cells e (0, 0)) := Kd.R_typed h.1
theorem Kd.LI_lt  (h : Kd.LI d e w base ok v xs)  : ∀ k, v.ownBlock = some k → k < w.heap.size := Kd.R_lt h.1
theorem Kd.LI_base  (h : Kd.LI d e w base ok v xs)  : ∀ k, v.ownBlock = some k → base ≤ k := Kd.R_base h.1
theorem Kd.LI_away  (h : Kd.LI d e w base ok v xs) (hok : ∀ k, ok k → k ≠ g) : some g ≠ v.ownBlock := Kd.R_away h.1 hok
theorem Kd.LI_slice  (h : Kd.LI d e w base ok v xs)  : ∃ A c, v = .slice A xs.length c := Kd.R_slice h.1
theorem Kd.LI_reads  (h : Kd.LI d e w base ok v xs)  : ∃ A c, v = .slice A xs.length c ∧ xs.length ≤ c ∧ d.C w A xs.length xs := Kd.R_reads h.1
theorem Kd.LI_ne  (h : Kd.LI d e w base ok v xs) {t : Nat} {cells : Array Value} (hb : w.heap[g]? = some (.cells cells t (0, 0))) (ht : e ≠ t) : some g ≠ v.ownBlock := Kd.R_ne h.1 hb ht
theorem Kd.LI_reads'  {A : Option Addr} {n c : Nat} (h : Kd.LI d e w base ok (.slice A n c) xs) : n = xs.length ∧ n ≤ c ∧ d.C w A xs.length xs := Kd.R_reads' h.1
theorem Kd.LI_V  {base' : Nat} (h : Kd.LI d e w base ok v xs) : Kd.V d e w base' ok v xs := Kd.R_V h.1
theorem Kd.LI_F  {A : Option Addr} {n c : Nat} (h : Kd.LI d e w base ok (.slice A n c) xs) : Kd.F d w ok A n xs := Kd.R_F h.1
theorem Kd.LI_spare  {A : Option Addr} {n c : Nat} (h : Kd.LI d e w base ok (.slice A n c) xs) : n + 3 ≤ c ∧ d.C w A (xs.length + 3) (xs ++ [-777, -777, -777]) := by
  have h2 := Kd.R_reads' (show d.R e w base ok (.slice A (n + 3) c) (xs ++ [-777, -777, -777]) from h.2)
  exact ⟨h2.2.1, by simpa using h2.2.2⟩
def Kd.LB (d : Kd Int) (e : Nat) (w : World) (base : Nat) (ok : Nat → Prop) (v : Value) (xs : List Int) : Prop := d.R e w base ok v xs ∧ d.R e w base ok (lendV v) (xs ++ [119, 119, 119])
theorem Kd.LB_R  (h : Kd.LB d e w base ok v xs) : d.R e w base ok v xs := h.1
theorem Kd.LB_mono  (h : Kd.LB d e w base ok v xs) (hok : ∀ k, ok k → ok' k) : Kd.LB d e w base ok' v xs := ⟨Kd.R_mono h.1 hok, Kd.R_mono h.2 hok⟩
theorem Kd.LB_bound  (h : Kd.LB d e w base ok v xs)  : Kd.LB d e w base (fun k => ok k ∧ base ≤ k ∧ k < w.heap.size ∧ ∃ q, q ∈ e :: d.E ∧ ∃ cells, w.heap[k]? = some (.cells cells q (0, 0))) v xs := ⟨Kd.R_bound h.1, Kd.R_bound h.2⟩
theorem Kd.LB_step  (h : Kd.LB d e w base ok v xs) (hm : ∀ k, ok k → k < w.heap.size → w1.heap[k]? = w.heap[k]?) : Kd.LB d e w1 base ok v xs := ⟨Kd.R_step h.1 hm, Kd.R_step h.2 hm⟩
theorem Kd.LB_lower  (h : Kd.LB d e w base ok v xs) {base' : Nat} (hb : base' ≤ base) : Kd.LB d e w base' ok v xs := ⟨Kd.R_lower h.1 hb, Kd.R_lower h.2 hb⟩
theorem Kd.LB_below  (h : Kd.LB d e w base ok v xs) (hb : Below w.heap.size w w1) : Kd.LB d e w1 base ok v xs := ⟨Kd.R_below h.1 hb, Kd.R_below h.2 hb⟩
theorem Kd.LB_alloc  (h : Kd.LB d e w base ok v xs) (o : Obj) : Kd.LB d e (w.alloc o) base ok v xs := ⟨Kd.R_alloc h.1 o, Kd.R_alloc h.2 o⟩
theorem Kd.LB_drew  (h : Kd.LB d e w base ok v xs)  : Kd.LB d e w.drew base ok v xs := ⟨Kd.R_drew h.1, Kd.R_drew h.2⟩
theorem Kd.LB_drewN  (h : Kd.LB d e w base ok v xs) (m : Nat) : Kd.LB d e (w.drewN m) base ok v xs := ⟨Kd.R_drewN h.1 m, Kd.R_drewN h.2 m⟩
theorem Kd.LB_grown  (h : Kd.LB d e w base ok v xs) {row : Option Nat} (hg : w.grownBy w1 row) (hok : ∀ k, ok k → some k ≠ row) : Kd.LB d e w1 base ok v xs := ⟨Kd.R_grown h.1 hg hok, Kd.R_grown h.2 hg hok⟩
theorem Kd.LB_far  (h : Kd.LB d e w base ok v xs) {p : Addr} (hok : ∀ k, ok k → k ≠ p.block) (z : Value) : Kd.LB d e (w.setCell p z) base ok v xs := ⟨Kd.R_far h.1 hok z, Kd.R_far h.2 hok z⟩
theorem Kd.LB_keep  (h : Kd.LB d e w base ok v xs) (hk : KeepBut w w1 g none) (hok : ∀ k, ok k → k ≠ g) : Kd.LB d e w1 base ok v xs := ⟨Kd.R_keep h.1 hk hok, Kd.R_keep h.2 hk hok⟩
theorem Kd.LB_types  (h : Kd.LB d e w base ok v xs) {t : Nat} {cells : Array Value} (hb : w.heap[g]? = some (.cells cells t (0, 0))) (ht : ∀ q, q ∈ e :: d.E → q ≠ t) : Kd.LB d e w base (fun k => ok k ∧ k ≠ g) v xs := ⟨Kd.R_types h.1 hb ht, Kd.R_types h.2 hb ht⟩
theorem Kd.LB_set  (h : Kd.LB d e w base ok v xs) {t : Nat} {cells : Array Value} (hb : w.heap[g]? = some (.cells cells t (0, 0))) (ht : ∀ q, q ∈ e :: d.E → q ≠ t) (j : Nat) (z : Value) : Kd.LB d e (w.setCell ⟨g, j, none⟩ z) base ok v xs := ⟨Kd.R_set h.1 hb ht j z, Kd.R_set h.2 hb ht j z⟩
theorem Kd.LB_over'  (h : Kd.LB d e w base ok v xs) (hty : ∀ k, u.ownBlock = some k → ∃ cells, w.heap[k]? = some (.cells cells e' (0, 0))) (ht : ∀ q, q ∈ e :: d.E → q ≠ e') (hg : w.grownBy w1 u.ownBlock) : Kd.LB d e w1 base ok v xs := ⟨Kd.R_over' h.1 hty ht hg, Kd.R_over' h.2 hty ht hg⟩
theorem Kd.LB_apart'  (h : Kd.LB d e w base ok v xs) (hty : ∀ k, u.ownBlock = some k → ∃ cells, w.heap[k]? = some (.cells cells e' (0, 0))) (ht : ∀ q, q ∈ e :: d.E → q ≠ e') : Kd.LB d e w base (fun k => ok k ∧ some k ≠ u.ownBlock) v xs := ⟨Kd.R_apart' h.1 hty ht, Kd.R_apart' h.2 hty ht⟩
theorem Kd.LB_elder'  (h : Kd.LB d e w base ok v xs) (hbase : ∀ k, u.ownBlock = some k → w.heap.size ≤ k) (hb : Below w.heap.size w w1) : Kd.LB d e w1 base (fun k => ok k ∧ some k ≠ u.ownBlock) v xs := ⟨Kd.R_elder' h.1 hbase hb, Kd.R_elder' h.2 hbase hb⟩
theorem Kd.LB_new'  (h : Kd.LB d e w W.heap.size ok v xs) (hlt : ∀ k, u.ownBlock = some k → k < W.heap.size) : Kd.LB d e w W.heap.size (fun k => ok k ∧ some k ≠ u.ownBlock) v xs := ⟨Kd.R_new' h.1 hlt, Kd.R_new' h.2 hlt⟩
theorem Kd.LB_elderB  (h : Kd.LB d e w base ok v xs) (a : Nat) (ha : w.heap.size ≤ a) : Kd.LB d e w base (fun k => ok k ∧ k ≠ a) v xs := ⟨Kd.R_elderB h.1 a ha, Kd.R_elderB h.2 a ha⟩
theorem Kd.LB_newB  (h : Kd.LB d e w W.heap.size ok v xs) {o : Obj} (hb : W.heap[g]? = some o) : Kd.LB d e w W.heap.size (fun k => ok k ∧ k ≠ g) v xs := ⟨Kd.R_newB h.1 hb, Kd.R_newB h.2 hb⟩
theorem Kd.LB_newM  (h : Kd.LB d e w W.heap.size ok v xs) {M : Nat → Prop} (hle : w1.heap.size ≤ W.heap.size) (hM : ∀ k, w1.heap.size ≤ k → M k) : Kd.LB d e w W.heap.size (fun k => M k ∧ ok k) v xs := ⟨Kd.R_newM h.1 hle hM, Kd.R_newM h.2 hle hM⟩
theorem Kd.LB_old  (h : Kd.LB d e w base ok v xs) (hb : Below w.heap.size w w1) : Kd.LB d e w1 base (fun k => ok k ∧ k < w.heap.size) v xs := ⟨Kd.R_old h.1 hb, Kd.R_old h.2 hb⟩
theorem Kd.LB_oldK  (h : Kd.LB d e w base (fun k => ok k ∧ k ≠ g) v xs) (hk : KeepBut w w1 g none) : Kd.LB d e w1 base (fun k => ok k ∧ k < w.heap.size) v xs := ⟨Kd.R_oldK h.1 hk, Kd.R_oldK h.2 hk⟩
theorem Kd.LB_told  (h : Kd.LB d e w base (fun k => ok k ∧ k < N) v xs) (hbase : ∀ k, u.ownBlock = some k → N ≤ k) : Kd.LB d e w base (fun k => (ok k ∧ some k ≠ u.ownBlock) ∧ k < N) v xs := ⟨Kd.R_told h.1 hbase, Kd.R_told h.2 hbase⟩
theorem Kd.LB_keptB  (h : Kd.LB d e w base ok v xs) (hk : Kept w W2 S) (hne : ∀ k, ok k → ¬ S k) : Kd.LB d e W2 base (fun k => ok k ∧ (¬ S k ∧ k < w.heap.size)) v xs := ⟨Kd.R_keptB h.1 hk hne, Kd.R_keptB h.2 hk hne⟩
theorem Kd.LB_kept  (h : Kd.LB d e w base ok v xs) (hk : Kept w W2 S) (hne : ∀ k, ok k → ¬ S k) : Kd.LB d e W2 base ok v xs := ⟨Kd.R_kept h.1 hk hne, Kd.R_kept h.2 hk hne⟩
theorem Kd.LB_after  (h : Kd.LB d e w base (fun k => ok k ∧ some k ≠ u.ownBlock) v xs) {v1 : Value} (hg : w.grownBy w1 u.ownBlock) (hat : v1.ownBlock = u.ownBlock ∨ ∃ b, v1.ownBlock = some b ∧ w.heap.size ≤ b) : Kd.LB d e w1 base (fun k => ok k ∧ some k ≠ v1.ownBlock) v xs := ⟨Kd.R_after h.1 hg hat, Kd.R_after h.2 hg hat⟩
theorem Kd.LB_at  {m : Nat} (hq : w.drewN m = w1) (h : Kd.LB d e w base ok v xs) : Kd.LB d e w1 base ok v xs := ⟨Kd.R_at hq h.1, Kd.R_at hq h.2⟩
theorem Kd.LB_typed  (h : Kd.LB d e w base ok v xs)  : ∀ k, v.ownBlock = some k → ∃ cells, w.heap[k]? = some (.cells cells e (0, 0)) := Kd.R_typed h.1
theorem Kd.LB_lt  (h : Kd.LB d e w base ok v xs)  : ∀ k, v.ownBlock = some k → k < w.heap.size := Kd.R_lt h.1
theorem Kd.LB_base  (h : Kd.LB d e w base ok v xs)  : ∀ k, v.ownBlock = some k → base ≤ k := Kd.R_base h.1
theorem Kd.LB_away  (h : Kd.LB d e w base ok v xs) (hok : ∀ k, ok k → k ≠ g) : some g ≠ v.ownBlock := Kd.R_away h.1 hok
theorem Kd.LB_slice  (h : Kd.LB d e w base ok v xs)  : ∃ A c, v = .slice A xs.length c := Kd.R_slice h.1
theorem Kd.LB_reads  (h : Kd.LB d e w base ok v xs)  : ∃ A c, v = .slice A xs.length c ∧ xs.length ≤ c ∧ d.C w A xs.length xs := Kd.R_reads h.1
theorem Kd.LB_ne  (h : Kd.LB d e w base ok v xs) {t : Nat} {cells : Array Value} (hb : w.heap[g]? = some (.cells cells t (0, 0))) (ht : e ≠ t) : some g ≠ v.ownBlock := Kd.R_ne h.1 hb ht
theorem Kd.LB_reads'  {A : Option Addr} {n c : Nat} (h : Kd.LB d e w base ok (.slice A n c) xs) : n = xs.length ∧ n ≤ c ∧ d.C w A xs.length xs := Kd.R_reads' h.1
theorem Kd.LB_V  {base' : Nat} (h : Kd.LB d e w base ok v xs) : Kd.V d e w base' ok v xs := Kd.R_V h.1
theorem Kd.LB_F  {A : Option Addr} {n c : Nat} (h : Kd.LB d e w base ok (.slice A n c) xs) : Kd.F d w ok A n xs := Kd.R_F h.1
theorem Kd.LB_spare  {A : Option Addr} {n c : Nat} (h : Kd.LB d e w base ok (.slice A n c) xs) : n + 3 ≤ c ∧ d.C w A (xs.length + 3) (xs ++ [119, 119, 119]) := by
  have h2 := Kd.R_reads' (show d.R e w base ok (.slice A (n + 3) c) (xs ++ [119, 119, 119]) from h.2)
  exact ⟨h2.2.1, by simpa using h2.2.2⟩
def Kd.Z (d : Kd Int) (e : Nat) (w : World) (base : Nat) (ok : Nat → Prop) (v : Value) (xs : List Int) : Prop := d.R e w base ok v xs ∧ (xs = [] → v = .slice none 0 0)
theorem Kd.Z_R  (h : Kd.Z d e w base ok v xs) : d.R e w base ok v xs := h.1
theorem Kd.Z_mono  (h : Kd.Z d e w base ok v xs) (hok : ∀ k, ok k → ok' k) : Kd.Z d e w base ok' v xs := ⟨Kd.R_mono h.1 hok, h.2⟩
theorem Kd.Z_bound  (h : Kd.Z d e w base ok v xs)  : Kd.Z d e w base (fun k => ok k ∧ base ≤ k ∧ k < w.heap.size ∧ ∃ q, q ∈ e :: d.E ∧ ∃ cells, w.heap[k]? = some (.cells cells q (0, 0))) v xs := ⟨Kd.R_bound h.1, h.2⟩
theorem Kd.Z_step  (h : Kd.Z d e w base ok v xs) (hm : ∀ k, ok k → k < w.heap.size → w1.heap[k]? = w.heap[k]?) : Kd.Z d e w1 base ok v xs := ⟨Kd.R_step h.1 hm, h.2⟩
theorem Kd.Z_lower  (h : Kd.Z d e w base ok v xs) {base' : Nat} (hb : base' ≤ base) : Kd.Z d e w base' ok v xs := ⟨Kd.R_lower h.1 hb, h.2⟩
theorem Kd.Z_below  (h : Kd.Z d e w base ok v xs) (hb : Below w.heap.size w w1) : Kd.Z d e w1 base ok v xs := ⟨Kd.R_below h.1 hb, h.2⟩
theorem Kd.Z_alloc  (h : Kd.Z d e w base ok v xs) (o : Obj) : Kd.Z d e (w.alloc o) base ok v xs := ⟨Kd.R_alloc h.1 o, h.2⟩
theorem Kd.Z_drew  (h : Kd.Z d e w base ok v xs)  : Kd.Z d e w.drew base ok v xs := ⟨Kd.R_drew h.1, h.2⟩
theorem Kd.Z_drewN  (h : Kd.Z d e w base ok v xs) (m : Nat) : Kd.Z d e (w.drewN m) base ok v xs := ⟨Kd.R_drewN h.1 m, h.2⟩
theorem Kd.Z_grown  (h : Kd.Z d e w base ok v xs) {row : Option Nat} (hg : w.grownBy w1 row) (hok : ∀ k, ok k → some k ≠ row) : Kd.Z d e w1 base ok v xs := ⟨Kd.R_grown h.1 hg hok, h.2⟩
theorem Kd.Z_far  (h : Kd.Z d e w base ok v xs) {p : Addr} (hok : ∀ k, ok k → k ≠ p.block) (z : Value) : Kd.Z d e (w.setCell p z) base ok v xs := ⟨Kd.R_far h.1 hok z, h.2⟩
theorem Kd.Z_keep  (h : Kd.Z d e w base ok v xs) (hk : KeepBut w w1 g none) (hok : ∀ k, ok k → k ≠ g) : Kd.Z d e w1 base ok v xs := ⟨Kd.R_keep h.1 hk hok, h.2⟩
theorem Kd.Z_types  (h : Kd.Z d e w base ok v xs) {t : Nat} {cells : Array Value} (hb : w.heap[g]? = some (.cells cells t (0, 0))) (ht : ∀ q, q ∈ e :: d.E → q ≠ t) : Kd.Z d e w base (fun k => ok k ∧ k ≠ g) v xs := ⟨Kd.R_types h.1 hb ht, h.2⟩
theorem Kd.Z_set  (h : Kd.Z d e w base ok v xs) {t : Nat} {cells : Array Value} (hb : w.heap[g]? = some (.cells cells t (0, 0))) (ht : ∀ q, q ∈ e :: d.E → q ≠ t) (j : Nat) (z : Value) : Kd.Z d e (w.setCell ⟨g, j, none⟩ z) base ok v xs := ⟨Kd.R_set h.1 hb ht j z, h.2⟩
theorem Kd.Z_over'  (h : Kd.Z d e w base ok v xs) (hty : ∀ k, u.ownBlock = some k → ∃ cells, w.heap[k]? = some (.cells cells e' (0, 0))) (ht : ∀ q, q ∈ e :: d.E → q ≠ e') (hg : w.grownBy w1 u.ownBlock) : Kd.Z d e w1 base ok v xs := ⟨Kd.R_over' h.1 hty ht hg, h.2⟩
theorem Kd.Z_apart'  (h : Kd.Z d e w base ok v xs) (hty : ∀ k, u.ownBlock = some k → ∃ cells, w.heap[k]? = some (.cells cells e' (0, 0))) (ht : ∀ q, q ∈ e :: d.E → q ≠ e') : Kd.Z d e w base (fun k => ok k ∧ some k ≠ u.ownBlock) v xs := ⟨Kd.R_apart' h.1 hty ht, h.2⟩
theorem Kd.Z_elder'  (h : Kd.Z d e w base ok v xs) (hbase : ∀ k, u.ownBlock = some k → w.heap.size ≤ k) (hb : Below w.heap.size w w1) : Kd.Z d e w1 base (fun k => ok k ∧ some k ≠ u.ownBlock) v xs := ⟨Kd.R_elder' h.1 hbase hb, h.2⟩
theorem Kd.Z_new'  (h : Kd.Z d e w W.heap.size ok v xs) (hlt : ∀ k, u.ownBlock = some k → k < W.heap.size) : Kd.Z d e w W.heap.size (fun k => ok k ∧ some k ≠ u.ownBlock) v xs := ⟨Kd.R_new' h.1 hlt, h.2⟩
theorem Kd.Z_elderB  (h : Kd.Z d e w base ok v xs) (a : Nat) (ha : w.heap.size ≤ a) : Kd.Z d e w base (fun k => ok k ∧ k ≠ a) v xs := ⟨Kd.R_elderB h.1 a ha, h.2⟩
theorem Kd.Z_newB  (h : Kd.Z d e w W.heap.size ok v xs) {o : Obj} (hb : W.heap[g]? = some o) : Kd.Z d e w W.heap.size (fun k => ok k ∧ k ≠ g) v xs := ⟨Kd.R_newB h.1 hb, h.2⟩
theorem Kd.Z_newM  (h : Kd.Z d e w W.heap.size ok v xs) {M : Nat → Prop} (hle : w1.heap.size ≤ W.heap.size) (hM : ∀ k, w1.heap.size ≤ k → M k) : Kd.Z d e w W.heap.size (fun k => M k ∧ ok k) v xs := ⟨Kd.R_newM h.1 hle hM, h.2⟩
theorem Kd.Z_old  (h : Kd.Z d e w base ok v xs) (hb : Below w.heap.size w w1) : Kd.Z d e w1 base (fun k => ok k ∧ k < w.heap.size) v xs := ⟨Kd.R_old h.1 hb, h.2⟩
theorem Kd.Z_oldK  (h : Kd.Z d e w base (fun k => ok k ∧ k ≠ g) v xs) (hk : KeepBut w w1 g none) : Kd.Z d e w1 base (fun k => ok k ∧ k < w.heap.size) v xs := ⟨Kd.R_oldK h.1 hk, h.2⟩
theorem Kd.Z_told  (h : Kd.Z d e w base (fun k => ok k ∧ k < N) v xs) (hbase : ∀ k, u.ownBlock = some k → N ≤ k) : Kd.Z d e w base (fun k => (ok k ∧ some k ≠ u.ownBlock) ∧ k < N) v xs := ⟨Kd.R_told h.1 hbase, h.2⟩
theorem Kd.Z_keptB  (h : Kd.Z d e w base ok v xs) (hk : Kept w W2 S) (hne : ∀ k, ok k → ¬ S k) : Kd.Z d e W2 base (fun k => ok k ∧ (¬ S k ∧ k < w.heap.size)) v xs := ⟨Kd.R_keptB h.1 hk hne, h.2⟩
theorem Kd.Z_kept  (h : Kd.Z d e w base ok v xs) (hk : Kept w W2 S) (hne : ∀ k, ok k → ¬ S k) : Kd.Z d e W2 base ok v xs := ⟨Kd.R_kept h.1 hk hne, h.2⟩
theorem Kd.Z_after  (h : Kd.Z d e w base (fun k => ok k ∧ some k ≠ u.ownBlock) v xs) {v1 : Value} (hg : w.grownBy w1 u.ownBlock) (hat : v1.ownBlock = u.ownBlock ∨ ∃ b, v1.ownBlock = some b ∧ w.heap.size ≤ b) : Kd.Z d e w1 base (fun k => ok k ∧ some k ≠ v1.ownBlock) v xs := ⟨Kd.R_after h.1 hg hat, h.2⟩
theorem Kd.Z_at  {m : Nat} (hq : w.drewN m = w1) (h : Kd.Z d e w base ok v xs) : Kd.Z d e w1 base ok v xs := ⟨Kd.R_at hq h.1, h.2⟩
theorem Kd.Z_typed  (h : Kd.Z d e w base ok v xs)  : ∀ k, v.ownBlock = some k → ∃ cells, w.heap[k]? = some (.cells cells e (0, 0)) := Kd.R_typed h.1
theorem Kd.Z_lt  (h : Kd.Z d e w base ok v xs)  : ∀ k, v.ownBlock = some k → k < w.heap.size := Kd.R_lt h.1
theorem Kd.Z_base  (h : Kd.Z d e w base ok v xs)  : ∀ k, v.ownBlock = some k → base ≤ k := Kd.R_base h.1
theorem Kd.Z_away  (h : Kd.Z d e w base ok v xs) (hok : ∀ k, ok k → k ≠ g) : some g ≠ v.ownBlock := Kd.R_away h.1 hok
theorem Kd.Z_slice  (h : Kd.Z d e w base ok v xs)  : ∃ A c, v = .slice A xs.length c := Kd.R_slice h.1
theorem Kd.Z_reads  (h : Kd.Z d e w base ok v xs)  : ∃ A c, v = .slice A xs.length c ∧ xs.length ≤ c ∧ d.C w A xs.length xs := Kd.R_reads h.1
theorem Kd.Z_ne  (h : Kd.Z d e w base ok v xs) {t : Nat} {cells : Array Value} (hb : w.heap[g]? = some (.cells cells t (0, 0))) (ht : e ≠ t) : some g ≠ v.ownBlock := Kd.R_ne h.1 hb ht
theorem Kd.Z_reads'  {A : Option Addr} {n c : Nat} (h : Kd.Z d e w base ok (.slice A n c) xs) : n = xs.length ∧ n ≤ c ∧ d.C w A xs.length xs := Kd.R_reads' h.1
theorem Kd.Z_V  {base' : Nat} (h : Kd.Z d e w base ok v xs) : Kd.V d e w base' ok v xs := Kd.R_V h.1
theorem Kd.Z_F  {A : Option Addr} {n c : Nat} (h : Kd.Z d e w base ok (.slice A n c) xs) : Kd.F d w ok A n xs := Kd.R_F h.1
theorem Kd.Z_none (h : Kd.Z d e w base ok v xs) (he : xs.isEmpty = true) : v = .slice none 0 0 := h.2 (List.isEmpty_iff.mp he)
theorem Kd.Z_some (h : Kd.Z d e w base ok v xs) (he : ¬ xs.isEmpty = true) : ∃ g c, v = .slice (some ⟨g, 0, none⟩) xs.length c := by
  obtain ⟨g, c, e, _⟩ := Kd.R_form h.1 (by cases xs with | nil => exact absurd rfl he | cons _ _ => simp)
  exact ⟨g, c, e⟩
end
theorem own_append_fits {P : Program} (w : World) {ops : Array Oper} {rest : List Oper} {o : Oper} {a : Act} {Q : Exit → Act → World → Prop}
    (hg : o.guard = none) (s x : Operand) (t : TypeId) (hop : o.op = Op.call { callee := Callee.builtin Builtin.append, args := #[s, x], argTypes := #[t, t] })
    (k : IntKind) (base : Nat) (e : TypeId) (i : TypeInfo) (h1 : P.underlying t = some (.slice e)) (h2 : P.info? e = some i) (h4 : i.size = 1)
    (g n cap : Nat) (xs : List Value) (hs : a.eval s = .slice (some ⟨g, 0, none⟩) n cap) (hown : w.ownsRow base e 1 (.slice (some ⟨g, 0, none⟩) n cap) n xs) (A : Option Addr) (m c : Nat) (ys : List Int) (hx : a.eval x = .slice A m c) (hC : (Kd.int k).C w A m ys) (b1 : n + m ≤ cap)
    (hK : ∀ w', w'.ownsRow base e 1 (.slice (some ⟨g, 0, none⟩) (n + m) cap) (n + m) (xs ++ nums k ys) → w.grownBy w' (some g) → wpList P ops Q rest (a.put o.dst (.slice (some ⟨g, 0, none⟩) (n + m) cap)) w') :
    wpList P ops Q (o :: rest) a w := by
  have hm : ys.length = m := hC.1
  have hrun : ∃ w1, (Builtin.append_ #[t, t] o.type #[.slice (some ⟨g, 0, none⟩) n cap, .slice A m c]).run P w = .ok (.slice (some ⟨g, 0, none⟩) (n + m) cap) w1 ∧ w1.ownsRow base e 1 (.slice (some ⟨g, 0, none⟩) (n + m) cap) (n + m) (xs ++ nums k ys) ∧ w.grownBy w1 (some g) := by
    rcases A with _ | ad
    · have h0 : m = 0 := by
        rcases Nat.eq_zero_or_pos m with h0 | h0
        · exact h0
        · obtain ⟨ad, h, _⟩ := hC.2.2 h0
          cases h
      subst h0
      obtain rfl : ys = [] := List.eq_nil_of_length_eq_zero hm
      refine ⟨w, ?_, by simpa [nums] using hown, World.grownBy.refl w _⟩
      rcases hown.2 with ⟨h, _⟩ | ⟨g', cap', cur, h, _, _, hnc, _⟩
      · simp at h
      · simp only [Value.slice.injEq, Option.some.injEq, Addr.mk.injEq, and_true, true_and] at h
        obtain ⟨rfl, rfl⟩ := h
        simp [Builtin.append_, run_underlying h1, sizeOf, typeInfo, h2, Builtin.lenOf, Builtin.firstCells, hnc, storeCells]
    · have hc : ∀ j u, (nums k ys)[j]? = some u → w.cell? (ad.add j) = some u := by
        intro j u hu
        have hj : j < ys.length := by have := (List.getElem?_eq_some_iff.1 hu).1; simpa [nums] using this
        obtain ⟨ad', e', hcell⟩ := (Kd.reads_of_C (d := (0 : Int)) hC).2.2 (by omega)
        obtain rfl := Option.some.inj e'
        have h3 := hcell j (by omega)
        have h4 : (nums k ys)[j]? = some (Value.int k (ys.getD j 0)) := by simp [nums, List.getElem?_eq_getElem hj, List.getD_eq_getElem?_getD]
        rw [h4] at hu
        rw [← Option.some.inj hu]
        exact h3
      obtain ⟨w', r0, r1, r2⟩ := run_append_fits (P := P) w base t o.type e i 1 h1 h2 h4 g n cap xs hown ad m c (nums k ys) (by rw [nums_length]; omega) hc (fun u hu => by obtain ⟨_, _, rfl⟩ := List.mem_map.1 hu; rfl) b1
      exact ⟨w', r0, r1, r2⟩
  obtain ⟨w', hrun, r1, r2⟩ := hrun
  refine wpList_plain hg fun K hK' => ?_
  unfold Oper.wp
  simp [execOp, hop, resolve, invoke, builtin, hs, hx, hrun, Result.andThen]
  exact hK' _ _ (hK w' r1 r2)
theorem lend_own {k : IntKind} {e g base n : Nat} {w : World} {cells : Array Value} {xs : List Int} {m : Nat} (hm : xs.length = m) (hn : m ≤ n) (hmax : n ≤ maxLen) (hb : base ≤ g) (hg : w.heap[g]? = some (.cells cells e (0, 0))) (hs : cells.size = n) (ht : cells.toList.take m = nums k xs) : (Kd.int k).R e w base (fun _ => True) (.slice (some ⟨g, 0, none⟩) m n) xs := by
  subst hm
  refine Kd.R_of_own ⟨by simp [encs], .inr ⟨g, n, cells, rfl, hb, hg, hn, hmax, by omega, ?_⟩⟩ (fun _ _ => trivial)
  rw [Nat.mul_one, ht]
  rfl
theorem lend_take {cur : Array Value} {n : Nat} {xs : List Value} {s : Value} (hs : cur.size = n + 3) (ht : cur.toList.take n = xs) :
    ((((cur.setIfInBounds n s).setIfInBounds (n + 1) s).setIfInBounds (n + 2) s).toList.take n = xs) ∧ ((((cur.setIfInBounds n s).setIfInBounds (n + 1) s).setIfInBounds (n + 2) s).toList.take (n + 3) = xs ++ [s, s, s]) := by
  have hl : cur.toList.length = n + 3 := by rw [Array.length_toList]; exact hs
  have hx : xs.length = n := by rw [← ht, List.length_take]; omega
  simp only [Array.toList_setIfInBounds]
  constructor
  · rw [List.take_set_of_le (by omega), List.take_set_of_le (by omega), List.take_set_of_le (by omega)]
    exact ht
  · apply List.ext_getElem?
    intro j
    rw [List.getElem?_take]
    by_cases h0 : j < n
    · rw [if_pos (by omega), List.getElem?_set_ne (by omega), List.getElem?_set_ne (by omega), List.getElem?_set_ne (by omega), List.getElem?_append_left (by omega), ← ht, List.getElem?_take, if_pos h0]
    · rw [List.getElem?_append_right (by omega), hx]
      by_cases h1 : j = n
      · subst h1
        rw [if_pos (by omega), List.getElem?_set_ne (by omega), List.getElem?_set_ne (by omega), List.getElem?_set_self (by omega)]
        simp
      · by_cases h2 : j = n + 1
        · subst h2
          rw [if_pos (by omega), List.getElem?_set_ne (by omega), List.getElem?_set_self (by simp; omega)]
          simp
        · by_cases h3 : j = n + 2
          · subst h3
            rw [if_pos (by omega), List.getElem?_set_self (by simp; omega)]
            simp
          · rw [if_neg (by omega), List.getElem?_eq_none (by simp; omega)]
theorem own_conv {P : Program} {ops : Array Oper} {rest : List Oper} {o : Oper} {a : Act} {Q : Exit → Act → World → Prop} {w0 W : World} (base e : Nat) (hgd : o.guard = none) {N' : Tmp} (_hd : o.dst = some N') {ok : Nat → Prop} (src dst : TypeId) (x : Operand) (s : ByteArray) (hm : s.size < 140737488355328)
    (ho : o.op = .convert src dst x) (hx : a.eval x = .string s) (hs : P.underlying src = some .string) (hd2 : P.underlying dst = some (.slice e)) (he : P.underlying e = some (.int .u8)) (hfresh : ok W.heap.size) (HB : Below base w0 W) (hbase : base ≤ W.heap.size)
    (h : ∀ v1 w1, Kd.V (Kd.int .u8) e w1 base ok v1 (bytesOf s) → Below base w0 w1 → W.grownBy w1 none → (∃ b, v1.ownBlock = some b ∧ W.heap.size ≤ b) → wpList P ops Q rest (a.put o.dst v1) w1) :
    wpList P ops Q (o :: rest) a W := by
  refine wpList_plain hgd fun K hK' => ?_
  have hrun := Lib.run_convert_string_bytes (P := P) W src dst e s hs hd2 he
  have hg : W.grownBy (Lib.bytesWorld W e s) none := ⟨rfl, rfl, rfl, by rw [Lib.bytesWorld_size]; omega, fun k hk _ => Lib.bytesWorld_at_old W e s k hk⟩
  have hV : Kd.V (Kd.int .u8) e (Lib.bytesWorld W e s) base ok (.slice (some ⟨W.heap.size, 0, none⟩) s.size (grownCap W s.size 0 e)) (bytesOf s) := by
    refine ⟨some ⟨W.heap.size, 0, none⟩, grownCap W s.size 0 e, by rw [bytesOf_length], by rw [bytesOf_length]; exact grownCap_ge _ _ _ _, fun W' hW => ?_⟩
    have hb : W'.heap[W.heap.size]? = some (.cells (Lib.bytesCells W e s) e ((Lib.bytesCells W e s).size, (Lib.bytesCells W e s).size + 1)) := by
      rw [hW _ hfresh (by rw [Lib.bytesWorld_size]; omega)]
      exact Lib.bytesWorld_at_new W e s
    refine Kd.C_of_reads (d := (0 : Int)) ⟨rfl, by rw [bytesOf_length]; omega, fun _ => ⟨_, rfl, fun j hj => ?_⟩⟩
    rw [bytesOf_length] at hj
    rw [add_plain, cell_of_row _ _ _ _ _ _ hb]
    have h2 := Lib.bytesWorld_cell W e s j hj
    rw [cell_of_row _ _ _ _ _ _ (Lib.bytesWorld_at_new W e s)] at h2
    rw [h2]
    have hj2 : j < s.data.toList.length := by rw [data_length]; exact hj
    simp [bytesOf, List.getD_eq_getElem?_getD, List.getElem?_eq_getElem hj2]
  unfold Oper.wp
  simp [execOp, ho, hx, hrun, Result.andThen]
  exact hK' _ _ (h _ _ hV (HB.grown hg hbase (by simp)) hg ⟨_, rfl, Nat.le_refl _⟩)

theorem info3 : (Tryd.prog.info? 3).map (fun i => (i.zero, i.size, i.bytes)) = some (some (.int .i64 0), 1, 8) := by kernel_rfl
theorem info5 : (Tryd.prog.info? 5).map (fun i => (i.zero, i.size, i.bytes)) = some (some (.int .u8 0), 1, 1) := by kernel_rfl
theorem info22 : (Tryd.prog.info? 22).map (fun i => (i.zero, i.size, i.bytes)) = some (some (.slice none 0 0), 1, 24) := by kernel_rfl
theorem info30 : (Tryd.prog.info? 30).map (fun i => (i.zero, i.size, i.bytes)) = some (some (.slice none 0 0), 1, 24) := by kernel_rfl
-- the values' own types
/-! #### struct type 67 -/
structure S67 where
  f0 : Int
  f1 : ByteArray
def z67 : S67 := ⟨(0 : Int), (⟨#[]⟩ : ByteArray)⟩
def k67 : Kd S67 := Kd.iso (Kd.pair (Kd.int .i64) Kd.string) (fun x : S67 => (x.f0, x.f1))
theorem k67_open {w : World} {x : S67} {cs : List Value} (h : k67.K w x cs) : cs = [.int .i64 x.f0, .string x.f1] := by
  obtain ⟨_, _, rfl, rfl, rfl⟩ := h
  exact rfl
theorem k67_openM {w : World} {base : Nat} {ok : Nat → Prop} {x : S67} {cs : List Value} (h : k67.M w base ok x cs) : cs = [.int .i64 x.f0, .string x.f1] := by
  obtain ⟨_, _, rfl, rfl, rfl⟩ := h
  exact rfl
theorem k67_mk (w : World) (x : S67)  : k67.K w x [.int .i64 x.f0, .string x.f1] := ⟨[.int .i64 x.f0], [.string x.f1], rfl, rfl, rfl⟩
theorem k67_mkM (w : World) (base : Nat) (ok : Nat → Prop) (x : S67)  : k67.M w base ok x [.int .i64 x.f0, .string x.f1] := ⟨[.int .i64 x.f0], [.string x.f1], rfl, rfl, rfl⟩
theorem k67_mkF (W : World) (ok : Nat → Prop) (x : S67) : Kd.FK k67 W ok x [.int .i64 x.f0, .string x.f1] := fun W2 _ => k67_mk W2 x
def rd_T67 (xs : List S67) (i : Int) : S67 := xs.getD i.toNat z67
theorem at_T67 {w : World} {A : Option Addr} {n : Nat} {xs : List S67} (h : Kd.C k67 w A n xs) (i : Int) (h0 : 0 ≤ i) (h1 : i < n) : ∃ ad , A = some ad ∧ w.cell? (ad.add (i.toNat * 2)) = some (.int .i64 (rd_T67 xs i).f0) ∧ w.cell? ⟨(ad.add (i.toNat * 2)).block, (ad.add (i.toNat * 2)).off + 1, none⟩ = some (.string (rd_T67 xs i).f1) := by
  obtain ⟨ad, c, e, _, hK, hc0⟩ := Kd.C_get h z67 i h0 h1
  have hc : ∀ j u, c[j]? = some u → w.cell? (ad.add (i.toNat * 2 + j)) = some u := hc0
  obtain rfl := k67_open hK
  exact ⟨ad, e, hc 0 _ rfl, by rw [← add_field _ _ 1 (by omega)]; exact hc 1 _ rfl⟩

def rd_L3 (xs : List (List Int)) (i : Int) : (List Int) := xs.getD i.toNat ([] : List Int)
theorem at_L3 {w : World} {A : Option Addr} {n : Nat} {xs : List (List Int)} (h : Kd.C (Kd.slice 3 (Kd.int .i64)) w A n xs) (i : Int) (h0 : 0 ≤ i) (h1 : i < n) : ∃ ad A0 c0, A = some ad ∧ w.cell? (ad.add i.toNat) = some (.slice A0 (rd_L3 xs i).length c0) ∧ (rd_L3 xs i).length ≤ c0 ∧ (Kd.int .i64).C w A0 (rd_L3 xs i).length (rd_L3 xs i) := by
  obtain ⟨ad, c, e, _, hK, hc0⟩ := Kd.C_get h ([] : List Int) i h0 h1
  have hc : ∀ j u, c[j]? = some u → w.cell? (ad.add (i.toNat * 1 + j)) = some u := hc0
  obtain ⟨A0, c0, rfl, l0, g0⟩ := hK
  exact ⟨ad, A0, c0, e, by have hq := hc 0 _ rfl; rwa [Nat.mul_one, Nat.add_zero] at hq, l0, g0⟩

def rd_L5 (xs : List (List Int)) (i : Int) : (List Int) := xs.getD i.toNat ([] : List Int)
theorem at_L5 {w : World} {A : Option Addr} {n : Nat} {xs : List (List Int)} (h : Kd.C (Kd.slice 5 (Kd.int .u8)) w A n xs) (i : Int) (h0 : 0 ≤ i) (h1 : i < n) : ∃ ad A0 c0, A = some ad ∧ w.cell? (ad.add i.toNat) = some (.slice A0 (rd_L5 xs i).length c0) ∧ (rd_L5 xs i).length ≤ c0 ∧ (Kd.int .u8).C w A0 (rd_L5 xs i).length (rd_L5 xs i) := by
  obtain ⟨ad, c, e, _, hK, hc0⟩ := Kd.C_get h ([] : List Int) i h0 h1
  have hc : ∀ j u, c[j]? = some u → w.cell? (ad.add (i.toNat * 1 + j)) = some u := hc0
  obtain ⟨A0, c0, rfl, l0, g0⟩ := hK
  exact ⟨ad, A0, c0, e, by have hq := hc 0 _ rfl; rwa [Nat.mul_one, Nat.add_zero] at hq, l0, g0⟩

def rd_L6 (xs : List (List S67)) (i : Int) : (List S67) := xs.getD i.toNat ([] : List S67)
theorem at_L6 {w : World} {A : Option Addr} {n : Nat} {xs : List (List S67)} (h : Kd.C (Kd.slice 67 k67) w A n xs) (i : Int) (h0 : 0 ≤ i) (h1 : i < n) : ∃ ad A0 c0, A = some ad ∧ w.cell? (ad.add i.toNat) = some (.slice A0 (rd_L6 xs i).length c0) ∧ (rd_L6 xs i).length ≤ c0 ∧ k67.C w A0 (rd_L6 xs i).length (rd_L6 xs i) := by
  obtain ⟨ad, c, e, _, hK, hc0⟩ := Kd.C_get h ([] : List S67) i h0 h1
  have hc : ∀ j u, c[j]? = some u → w.cell? (ad.add (i.toNat * 1 + j)) = some u := hc0
  obtain ⟨A0, c0, rfl, l0, g0⟩ := hK
  exact ⟨ad, A0, c0, e, by have hq := hc 0 _ rfl; rwa [Nat.mul_one, Nat.add_zero] at hq, l0, g0⟩

/-! ### errors as rows: none, or one Fault -/
def eRow : Value → Value
  | .nilIface => .slice none 0 0
  | .iface 63 (.pointer (some a)) => .slice (some a) 1 1
  | _ => .bool false
theorem eRow_inv {v : Value} {w : World} {base size n : Nat} {e : TypeId} {xs : List Value} (h : w.ownsRow base e size (eRow v) n xs) : (v = .nilIface ∧ n = 0) ∨ ∃ (g : Nat) (cur : Array Value), v = .iface 63 (.pointer (some ⟨g, 0, none⟩)) ∧ n = 1 ∧ base ≤ g ∧ w.heap[g]? = some (.cells cur e (0, 0)) ∧ cur.size = size ∧ cur.toList.take size = xs := by
  obtain ⟨_, h⟩ := h
  unfold eRow at h
  split at h
  · rcases h with ⟨_, h⟩ | ⟨g, cap, cur, h, _⟩
    · exact .inl ⟨rfl, h⟩
    · cases h
  · rcases h with ⟨h, _⟩ | ⟨g, cap, cur, h, hb, hh, _, _, hs, ht⟩
    · cases h
    · injection h with h1 h2 h3
      injection h1 with h1
      subst h1; subst h2; subst h3
      exact .inr ⟨g, cur, rfl, rfl, hb, hh, by omega, by rw [Nat.one_mul] at ht; exact ht⟩
  · rcases h with ⟨h, _⟩ | ⟨g, cap, cur, h, _⟩ <;> cases h
theorem eRow_none {α : Type} {d : Kd α} {e base : Nat} {ok : Nat → Prop} {w : World} {v : Value} {xs : List α} (h : d.R e w base ok (eRow v) xs) (hx : xs.isEmpty = true) : v = .nilIface := by
  obtain ⟨inner, ho⟩ := Kd.R_own h
  rcases eRow_inv ho with ⟨h1, _⟩ | ⟨_, _, _, h1, _⟩
  · exact h1
  · rw [List.isEmpty_iff.1 hx] at h1; cases h1
theorem eRow_some {α : Type} {d : Kd α} {e base : Nat} {ok : Nat → Prop} {w : World} {v : Value} {xs : List α} (h : d.R e w base ok (eRow v) xs) (hx : ¬ xs.isEmpty = true) : ∃ g : Nat, v = .iface 63 (.pointer (some ⟨g, 0, none⟩)) := by
  obtain ⟨inner, ho⟩ := Kd.R_own h
  rcases eRow_inv ho with ⟨_, h1⟩ | ⟨g, _, h1, _⟩
  · exact absurd (List.isEmpty_iff.2 (List.eq_nil_of_length_eq_zero h1)) hx
  · exact ⟨g, h1⟩
theorem eRow_box {W : World} {g base : Nat} {c : Int} {s : ByteArray} {ok : Nat → Prop} (hb : W.heap[g]? = some (.cells #[.int .i64 c, .string s] 67 (0, 0))) (hg : base ≤ g) (hok : ok g) : Kd.R k67 67 W base ok (eRow (.iface 63 (.pointer (some ⟨g, 0, none⟩)))) [(⟨c, s⟩ : S67)] :=
  ⟨fun k hk => by have h : some g = some k := hk; injection h with h; subst h; exact hok, [.int .i64 c, .string s], ⟨rfl, .inr ⟨g, 1, _, rfl, hg, hb, Nat.le_refl _, by unfold maxLen; decide, rfl, rfl⟩⟩, Reps.c2 (k67_mkM _ _ _ ⟨c, s⟩) (Reps.none _ _)⟩
/-- What an error is, out of its fact. -/
theorem eRow_one {base : Nat} {ok : Nat → Prop} {w : World} {v : Value} {xs : List S67} (h : Kd.R k67 67 w base ok (eRow v) xs) : (v = .nilIface ∧ xs = []) ∨ ∃ (g : Nat) (x : S67), xs = [x] ∧ v = .iface 63 (.pointer (some ⟨g, 0, none⟩)) ∧ w.heap[g]? = some (.cells #[.int .i64 x.f0, .string x.f1] 67 (0, 0)) := by
  obtain ⟨_, inner, ho, hr⟩ := h
  rcases eRow_inv ho with ⟨h1, h2⟩ | ⟨g, cur, h1, h2, _, h4, h5, h6⟩
  · exact .inl ⟨h1, List.eq_nil_of_length_eq_zero h2⟩
  · obtain ⟨x, rfl⟩ := List.length_eq_one_iff.1 h2
    refine .inr ⟨g, x, rfl, h1, ?_⟩
    have hx := hr.2 0 x rfl
    have hx2 : List.take 2 (List.drop (0 * 2) inner) = [Value.int IntKind.i64 x.f0, Value.string x.f1] := k67_openM hx
    have h5' : cur.toList.length = 2 := h5
    have h6' : List.take 2 cur.toList = inner := h6
    rw [List.take_of_length_le (by omega)] at h6'
    subst h6'
    rw [Nat.zero_mul, List.drop_zero, List.take_of_length_le (by omega)] at hx2
    rw [h4, show cur = #[Value.int IntKind.i64 x.f0, Value.string x.f1] from Array.toList_inj.1 hx2]
/-- An error's value tells this row. -/
def ErrIs (w : World) (u : Value) (l : List S67) : Prop := ∃ base ok, Kd.R k67 67 w base ok (eRow u) l
theorem ErrIs.of {base : Nat} {ok : Nat → Prop} {w : World} {u : Value} {l : List S67} (h : Kd.R k67 67 w base ok (eRow u) l) : ErrIs w u l := ⟨base, ok, h⟩

end Go.Proofs.YtggiddekbocokaaDoor.PLP
