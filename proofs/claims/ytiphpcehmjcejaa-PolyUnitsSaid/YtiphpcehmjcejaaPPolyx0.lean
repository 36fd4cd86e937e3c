-- By a program of this session (wip/myprint.sh) out of the translation; Lean checks it.
import Derived.Test.YtiphpcehmjcejaaProg
import Derived.Below
import Derived.Deep.Draws
import Derived.Deep.AppendLies
import Derived.Maps.AppendAt
import Derived.OwnWalk
import Derived.Laws.BytesArg
import Derived.Laws.MakeOwn
import Derived.Laws.OwnMore
import Derived.Deep.OwnRows
import Derived.Tactics
import Derived.Lib.ConvBytes
import Derived.Laws.Slices
import Derived.WalkKit
import Derived.KernelRfl
import Derived.RowKit3
import Derived.Deep.LoopGhost
import Derived.Deep.QuietTactic
import Derived.BigQuiet
import Derived.WideLaws
import Derived.Deep.DeepCutAuto
import Derived.Deep.CutBlock
import Derived.Deep.RegionHeld3
import Derived.Laws.Rows
import Derived.Lib.AppendStr
import Derived.ArgAppend
import Derived.Laws.IdiomCopy
import Derived.OrdersHeld
import Derived.Laws.BitsLemmas
import Derived.RowKit
import Derived.WalkSpells
import Derived.Lib.SliceRun
import Derived.Test.YtiphpcehmjcejaaWWords
import Derived.Test.YtiphpcehmjcejaaWLast
import Derived.Test.YtiphpcehmjcejaaWTab
import Derived.Test.YtiphpcehmjcejaaWFour
import Derived.Test.YtiphpcehmjcejaaWQPut
import Derived.Test.YtiphpcehmjcejaaWApart
import Derived.Test.YtiphpcehmjcejaaWArr
import Derived.Test.YtiphpcehmjcejaaWZeros
import Derived.Test.YtiphpcehmjcejaaWFoot
import Derived.Test.YtiphpcehmjcejaaWKept
import Derived.Test.YtiphpcehmjcejaaWShare
import Derived.Test.YtiphpcehmjcejaaWN
import Derived.Test.YtiphpcehmjcejaaWFootNe
import Derived.Test.YtiphpcehmjcejaaWAt
import Derived.Test.YtiphpcehmjcejaaWEqStruct
import Derived.Test.YtiphpcehmjcejaaWRepsOne
import Derived.Test.YtiphpcehmjcejaaWInv
import Derived.Test.YtiphpcehmjcejaaWInvWords
import Derived.Test.YtiphpcehmjcejaaWGuard
import Derived.Test.YtiphpcehmjcejaaWNEv
import Derived.Test.YtiphpcehmjcejaaWMore
namespace Go.Proofs.Ytiphpcehmjcejaa.PPoly
open Go.RowKit Go.Proofs.YtiphpcehmjcejaaW.PrintWords Go.Proofs.YtiphpcehmjcejaaW.PrintLast Go.Proofs.YtiphpcehmjcejaaW.PrintMore
attribute [local go_sem] max2_int min2_int max_two min_two max_three min_three max_four min_four   -- for this text's walks alone
set_option linter.unusedVariables false
set_option linter.unusedSimpArgs false



def errW : Option Int → Value
  | none => .nilIface
  | some c => .iface 0 (.int .i64 c)
theorem errW_none : errW none = .nilIface := rfl
theorem errW_some (c : Int) : errW (some c) = .iface 0 (.int .i64 c) := rfl

/-! ### words of this session's own -/
theorem own_goesV {P : Program} {ops : Array Oper} {Q : Exit → Act → World → Prop} {oi : Oper} {N : Option Tmp} {a : Act} {w : World} {K : Act → World → Prop} {f : FuncId} {fn : Func} {o : Operand} {ys : Array Operand} {ts : Array TypeId} (hf : P.funcs[f]? = some fn) (hname : (fn.name == "runtime.NumGoroutine") = false) (hb : fn.body.isSome = true) (args : Array Value)
    (hw : Region.wanted oi (yielded ops a.tmps) = true) (hN : oi.dst = N) (hop : oi.op = .call { callee := .value o, args := ys, argTypes := ts }) (ho : a.eval o = .func (.func f) #[] #[]) (hargs : ys.map a.eval = args)
    (h : Calls P f args w fun e w' => ∃ v, e = .returned v ∧ K (a.put N v) w') : if Region.wanted oi (yielded ops a.tmps) = true then Oper.wp P oi a w K Q else K (a.put N undef) w := by
  refine call_ f args hw hN ?_ h
  have he := enters_ hf hname hb args w
  unfold execOp
  simp [hop, resolve, ho, Deferred.ofValue, invoke, hargs, he]
theorem own_C_none {α : Type} {d : Kd α} {w : World} {A : Option Addr} {n : Nat} {xs : List α} (hA : A = none) (h : d.C w A n xs) : xs = [] := by
  obtain ⟨h1, _, h3⟩ := h
  cases Nat.eq_zero_or_pos n with
  | inl h0 => exact List.eq_nil_of_length_eq_zero (h1.trans h0)
  | inr h0 => obtain ⟨ad, ha, _⟩ := h3 h0; rw [hA] at ha; cases ha
theorem own_shr_le {k : IntKind} {x y j : Int} (h : shr k x y = j) (h0 : 0 ≤ x) : 0 ≤ j ∧ j ≤ x := by rw [← h]; unfold shr; exact ⟨Int.ediv_nonneg h0 (Int.le_of_lt (Int.pow_pos (by decide))), Int.ediv_le_self _ h0⟩

theorem info3 : (Try.prog.info? 3).map (fun i => (i.zero, i.size, i.bytes)) = some (some (.int .i64 0), 1, 8) := by kernel_rfl
theorem info27 : (Try.prog.info? 27).map (fun i => (i.zero, i.size, i.bytes)) = some (some (.slice none 0 0), 1, 24) := by kernel_rfl
-- the values' own types
def rd_L1 (xs : List (List Int)) (i : Int) : (List Int) := xs.getD i.toNat ([] : List Int)
theorem at_L1 {w : World} {A : Option Addr} {n : Nat} {xs : List (List Int)} (h : Kd.C (Kd.slice 3 (Kd.int .i64)) w A n xs) (i : Int) (h0 : 0 ≤ i) (h1 : i < n) : ∃ ad A0 c0, A = some ad ∧ w.cell? (ad.add i.toNat) = some (.slice A0 (rd_L1 xs i).length c0) ∧ (rd_L1 xs i).length ≤ c0 ∧ (Kd.int .i64).C w A0 (rd_L1 xs i).length (rd_L1 xs i) := by
  obtain ⟨ad, c, e, _, hK, hc0⟩ := Kd.C_get h ([] : List Int) i h0 h1
  have hc : ∀ j u, c[j]? = some u → w.cell? (ad.add (i.toNat * 1 + j)) = some u := hc0
  obtain ⟨A0, c0, rfl, l0, g0⟩ := hK
  exact ⟨ad, A0, c0, e, by have hq := hc 0 _ rfl; rwa [Nat.mul_one, Nat.add_zero] at hq, l0, g0⟩

end Go.Proofs.Ytiphpcehmjcejaa.PPoly
