-- By a program of this session (wip/myprint.sh) out of the translation; Lean checks it.
import Derived.Test.YthliabidnboklaaDoorProg
import Derived.Below
import Derived.Deep.Draws
import Derived.Deep.AppendLies
import Derived.Maps.AppendAt
import Derived.OwnWalk
import Derived.Laws.BytesArg
import Derived.Laws.MakeOwn
import Derived.Laws.OwnMore
import Derived.Deep.OwnRows
import Derived.Tactics
import Derived.Lib.ConvBytes
import Derived.Laws.Slices
import Derived.WalkKit
import Derived.KernelRfl
import Derived.RowKit3
import Derived.Deep.LoopGhost
import Derived.Deep.QuietTactic
import Derived.BigQuiet
import Derived.WideLaws
import Derived.Deep.DeepCutAuto
import Derived.Deep.CutBlock
import Derived.Deep.RegionHeld3
import Derived.Laws.Rows
import Derived.Lib.AppendStr
import Derived.ArgAppend
import Derived.Laws.IdiomCopy
import Derived.OrdersHeld
import Derived.Laws.BitsLemmas
import Derived.RowKit
import Derived.WalkSpells
import Derived.Lib.SliceRun
import Derived.Test.YthliabidnboklaaDoorErrs4
import Derived.Test.YthliabidnboklaaDoorWWords
import Derived.Test.YthliabidnboklaaDoorWLast
import Derived.Test.YthliabidnboklaaDoorWTab
import Derived.Test.YthliabidnboklaaDoorWFour
import Derived.Test.YthliabidnboklaaDoorWQPut
import Derived.Test.YthliabidnboklaaDoorWApart
import Derived.Test.YthliabidnboklaaDoorWArr
import Derived.Test.YthliabidnboklaaDoorWZeros
import Derived.Test.YthliabidnboklaaDoorWFoot
import Derived.Test.YthliabidnboklaaDoorWKept
import Derived.Test.YthliabidnboklaaDoorWShare
import Derived.Test.YthliabidnboklaaDoorWN
import Derived.Test.YthliabidnboklaaDoorWFootNe
import Derived.Test.YthliabidnboklaaDoorWAt
import Derived.Test.YthliabidnboklaaDoorWEqStruct
import Derived.Test.YthliabidnboklaaDoorWRepsOne
import Derived.Test.YthliabidnboklaaDoorWInv
import Derived.Test.YthliabidnboklaaDoorWInvWords
import Derived.Test.YthliabidnboklaaDoorWGuard
import Derived.Test.YthliabidnboklaaDoorWNEv
import Derived.Test.YthliabidnboklaaDoorWMore
namespace Go.Proofs.YthliabidnboklaaDoor.PNon
open Go.RowKit Go.Proofs.YthliabidnboklaaDoorW.PrintWords Go.Proofs.YthliabidnboklaaDoorW.PrintLast Go.Proofs.YthliabidnboklaaDoorW.PrintMore
attribute [local go_sem] max2_int min2_int max_two min_two max_three min_three max_four min_four   -- for this text's walks alone
set_option linter.unusedVariables false
set_option linter.unusedSimpArgs false



def errW : Option Int → Value
  | none => .nilIface
  | some c => .iface 0 (.int .i64 c)
theorem errW_none : errW none = .nilIface := rfl
theorem errW_some (c : Int) : errW (some c) = .iface 0 (.int .i64 c) := rfl

/-! ### words of this session's own -/
theorem own_goesV {P : Program} {ops : Array Oper} {Q : Exit → Act → World → Prop} {oi : Oper} {N : Option Tmp} {a : Act} {w : World} {K : Act → World → Prop} {f : FuncId} {fn : Func} {o : Operand} {ys : Array Operand} {ts : Array TypeId} (hf : P.funcs[f]? = some fn) (hname : (fn.name == "runtime.NumGoroutine") = false) (hb : fn.body.isSome = true) (args : Array Value)
    (hw : Region.wanted oi (yielded ops a.tmps) = true) (hN : oi.dst = N) (hop : oi.op = .call { callee := .value o, args := ys, argTypes := ts }) (ho : a.eval o = .func (.func f) #[] #[]) (hargs : ys.map a.eval = args)
    (h : Calls P f args w fun e w' => ∃ v, e = .returned v ∧ K (a.put N v) w') : if Region.wanted oi (yielded ops a.tmps) = true then Oper.wp P oi a w K Q else K (a.put N undef) w := by
  refine call_ f args hw hN ?_ h
  have he := enters_ hf hname hb args w
  unfold execOp
  simp [hop, resolve, ho, Deferred.ofValue, invoke, hargs, he]
theorem own_C_none {α : Type} {d : Kd α} {w : World} {A : Option Addr} {n : Nat} {xs : List α} (hA : A = none) (h : d.C w A n xs) : xs = [] := by
  obtain ⟨h1, _, h3⟩ := h
  cases Nat.eq_zero_or_pos n with
  | inl h0 => exact List.eq_nil_of_length_eq_zero (h1.trans h0)
  | inr h0 => obtain ⟨ad, ha, _⟩ := h3 h0; rw [hA] at ha; cases ha
theorem own_shr_le {k : IntKind} {x y j : Int} (h : shr k x y = j) (h0 : 0 ≤ x) : 0 ≤ j ∧ j ≤ x := by rw [← h]; unfold shr; exact ⟨Int.ediv_nonneg h0 (Int.le_of_lt (Int.pow_pos (by decide))), Int.ediv_le_self _ h0⟩

theorem info3 : (Tryd.prog.info? 3).map (fun i => (i.zero, i.size, i.bytes)) = some (some (.int .i64 0), 1, 8) := by kernel_rfl
-- the values' own types
/-! #### struct type 72 -/
structure S72 where
  f0 : Int
  f1 : ByteArray
def z72 : S72 := ⟨(0 : Int), (⟨#[]⟩ : ByteArray)⟩
def k72 : Kd S72 := Kd.iso (Kd.pair (Kd.int .i64) Kd.string) (fun x : S72 => (x.f0, x.f1))
theorem k72_open {w : World} {x : S72} {cs : List Value} (h : k72.K w x cs) : cs = [.int .i64 x.f0, .string x.f1] := by
  obtain ⟨_, _, rfl, rfl, rfl⟩ := h
  exact rfl
theorem k72_openM {w : World} {base : Nat} {ok : Nat → Prop} {x : S72} {cs : List Value} (h : k72.M w base ok x cs) : cs = [.int .i64 x.f0, .string x.f1] := by
  obtain ⟨_, _, rfl, rfl, rfl⟩ := h
  exact rfl
theorem k72_mk (w : World) (x : S72)  : k72.K w x [.int .i64 x.f0, .string x.f1] := ⟨[.int .i64 x.f0], [.string x.f1], rfl, rfl, rfl⟩
theorem k72_mkM (w : World) (base : Nat) (ok : Nat → Prop) (x : S72)  : k72.M w base ok x [.int .i64 x.f0, .string x.f1] := ⟨[.int .i64 x.f0], [.string x.f1], rfl, rfl, rfl⟩
theorem k72_mkF (W : World) (ok : Nat → Prop) (x : S72) : Kd.FK k72 W ok x [.int .i64 x.f0, .string x.f1] := fun W2 _ => k72_mk W2 x
def rd_T72 (xs : List S72) (i : Int) : S72 := xs.getD i.toNat z72
theorem at_T72 {w : World} {A : Option Addr} {n : Nat} {xs : List S72} (h : Kd.C k72 w A n xs) (i : Int) (h0 : 0 ≤ i) (h1 : i < n) : ∃ ad , A = some ad ∧ w.cell? (ad.add (i.toNat * 2)) = some (.int .i64 (rd_T72 xs i).f0) ∧ w.cell? ⟨(ad.add (i.toNat * 2)).block, (ad.add (i.toNat * 2)).off + 1, none⟩ = some (.string (rd_T72 xs i).f1) := by
  obtain ⟨ad, c, e, _, hK, hc0⟩ := Kd.C_get h z72 i h0 h1
  have hc : ∀ j u, c[j]? = some u → w.cell? (ad.add (i.toNat * 2 + j)) = some u := hc0
  obtain rfl := k72_open hK
  exact ⟨ad, e, hc 0 _ rfl, by rw [← add_field _ _ 1 (by omega)]; exact hc 1 _ rfl⟩

/-! ### errors as rows: none, or one Fault -/
def eRow : Value → Value
  | .nilIface => .slice none 0 0
  | .iface 69 (.pointer (some a)) => .slice (some a) 1 1
  | _ => .bool false
theorem eRow_inv {v : Value} {w : World} {base size n : Nat} {e : TypeId} {xs : List Value} (h : w.ownsRow base e size (eRow v) n xs) : (v = .nilIface ∧ n = 0) ∨ ∃ (g : Nat) (cur : Array Value), v = .iface 69 (.pointer (some ⟨g, 0, none⟩)) ∧ n = 1 ∧ base ≤ g ∧ w.heap[g]? = some (.cells cur e (0, 0)) ∧ cur.size = size ∧ cur.toList.take size = xs := by
  obtain ⟨_, h⟩ := h
  unfold eRow at h
  split at h
  · rcases h with ⟨_, h⟩ | ⟨g, cap, cur, h, _⟩
    · exact .inl ⟨rfl, h⟩
    · cases h
  · rcases h with ⟨h, _⟩ | ⟨g, cap, cur, h, hb, hh, _, _, hs, ht⟩
    · cases h
    · injection h with h1 h2 h3
      injection h1 with h1
      subst h1; subst h2; subst h3
      exact .inr ⟨g, cur, rfl, rfl, hb, hh, by omega, by rw [Nat.one_mul] at ht; exact ht⟩
  · rcases h with ⟨h, _⟩ | ⟨g, cap, cur, h, _⟩ <;> cases h
theorem eRow_none {α : Type} {d : Kd α} {e base : Nat} {ok : Nat → Prop} {w : World} {v : Value} {xs : List α} (h : d.R e w base ok (eRow v) xs) (hx : xs.isEmpty = true) : v = .nilIface := by
  obtain ⟨inner, ho⟩ := Kd.R_own h
  rcases eRow_inv ho with ⟨h1, _⟩ | ⟨_, _, _, h1, _⟩
  · exact h1
  · rw [List.isEmpty_iff.1 hx] at h1; cases h1
theorem eRow_some {α : Type} {d : Kd α} {e base : Nat} {ok : Nat → Prop} {w : World} {v : Value} {xs : List α} (h : d.R e w base ok (eRow v) xs) (hx : ¬ xs.isEmpty = true) : ∃ g : Nat, v = .iface 69 (.pointer (some ⟨g, 0, none⟩)) := by
  obtain ⟨inner, ho⟩ := Kd.R_own h
  rcases eRow_inv ho with ⟨_, h1⟩ | ⟨g, _, h1, _⟩
  · exact absurd (List.isEmpty_iff.2 (List.eq_nil_of_length_eq_zero h1)) hx
  · exact ⟨g, h1⟩
theorem eRow_box {W : World} {g base : Nat} {c : Int} {s : ByteArray} {ok : Nat → Prop} (hb : W.heap[g]? = some (.cells #[.int .i64 c, .string s] 72 (0, 0))) (hg : base ≤ g) (hok : ok g) : Kd.R k72 72 W base ok (eRow (.iface 69 (.pointer (some ⟨g, 0, none⟩)))) [(⟨c, s⟩ : S72)] :=
  ⟨fun k hk => by have h : some g = some k := hk; injection h with h; subst h; exact hok, [.int .i64 c, .string s], ⟨rfl, .inr ⟨g, 1, _, rfl, hg, hb, Nat.le_refl _, by unfold maxLen; decide, rfl, rfl⟩⟩, Reps.c2 (k72_mkM _ _ _ ⟨c, s⟩) (Reps.none _ _)⟩
/-- What an error is, out of its fact. -/
theorem eRow_one {base : Nat} {ok : Nat → Prop} {w : World} {v : Value} {xs : List S72} (h : Kd.R k72 72 w base ok (eRow v) xs) : (v = .nilIface ∧ xs = []) ∨ ∃ (g : Nat) (x : S72), xs = [x] ∧ v = .iface 69 (.pointer (some ⟨g, 0, none⟩)) ∧ w.heap[g]? = some (.cells #[.int .i64 x.f0, .string x.f1] 72 (0, 0)) := by
  obtain ⟨_, inner, ho, hr⟩ := h
  rcases eRow_inv ho with ⟨h1, h2⟩ | ⟨g, cur, h1, h2, _, h4, h5, h6⟩
  · exact .inl ⟨h1, List.eq_nil_of_length_eq_zero h2⟩
  · obtain ⟨x, rfl⟩ := List.length_eq_one_iff.1 h2
    refine .inr ⟨g, x, rfl, h1, ?_⟩
    have hx := hr.2 0 x rfl
    have hx2 : List.take 2 (List.drop (0 * 2) inner) = [Value.int IntKind.i64 x.f0, Value.string x.f1] := k72_openM hx
    have h5' : cur.toList.length = 2 := h5
    have h6' : List.take 2 cur.toList = inner := h6
    rw [List.take_of_length_le (by omega)] at h6'
    subst h6'
    rw [Nat.zero_mul, List.drop_zero, List.take_of_length_le (by omega)] at hx2
    rw [h4, show cur = #[Value.int IntKind.i64 x.f0, Value.string x.f1] from Array.toList_inj.1 hx2]
/-- An error's value tells this row. -/
def ErrIs (w : World) (u : Value) (l : List S72) : Prop := ∃ base ok, Kd.R k72 72 w base ok (eRow u) l
theorem ErrIs.of {base : Nat} {ok : Nat → Prop} {w : World} {u : Value} {l : List S72} (h : Kd.R k72 72 w base ok (eRow u) l) : ErrIs w u l := ⟨base, ok, h⟩

end Go.Proofs.YthliabidnboklaaDoor.PNon
