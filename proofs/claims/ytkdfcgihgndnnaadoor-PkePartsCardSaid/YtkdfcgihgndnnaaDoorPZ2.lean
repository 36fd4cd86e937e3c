import Derived.Test.YtkdfcgihgndnnaaDoorPZ1
import Derived.Laws.BitsLemmas
import Derived.Deep.MidRow
import Derived.RangeFuncNested
import Derived.RangeFuncBound
import Derived.RangeFuncCalls
import Derived.RangeFuncLeaves
import Derived.RangeFuncBox
import Derived.Shelf.Abstract
import Derived.Shelf.RegionOpen
import Derived.WalkKit
import Derived.OwnWalkIn
import Derived.TacticsInMore
import Derived.LoopNIn
import Derived.LoopIn
import Derived.Maps.OwnIn
import Derived.Test.YtkdfcgihgndnnaaDoorPZ0
import Derived.Test.YtkdfcgihgndnnaaDoorProg
import Derived.Deep.Slices
import Derived.ChangeArms
import Derived.SizedLaws
import Derived.Below
import Derived.Deep.Draws
import Derived.Deep.AppendLies
import Derived.Maps.AppendAt
import Derived.OwnWalk
import Derived.Laws.BytesArg
import Derived.Laws.MakeOwn
import Derived.Laws.OwnMore
import Derived.Deep.OwnRows
import Derived.Tactics
import Derived.Lib.ConvBytes
import Derived.Laws.Slices
import Derived.KernelRfl
import Derived.RowKit3
import Derived.Deep.LoopGhost
import Derived.Deep.QuietTactic
import Derived.BigQuiet
import Derived.WideLaws
import Derived.Deep.DeepCutAuto
import Derived.Deep.CutBlock
import Derived.Deep.RegionHeld3
import Derived.Laws.Rows
import Derived.Lib.AppendStr
import Derived.ArgAppend
import Derived.Laws.IdiomCopy
import Derived.OrdersHeld
import Derived.RowKit
import Derived.WalkSpells
import Derived.Lib.SliceRun
section
namespace Go.Proofs.YtkdfcgihgndnnaaDoor.PPK
open Go.RowKit Go.Proofs.YtkdfcgihgndnnaaDoorW.PrintWords Go.Proofs.YtkdfcgihgndnnaaDoorW.PrintLast Go.Proofs.YtkdfcgihgndnnaaDoorW.PrintMore
attribute [local go_sem] max2_int min2_int max_two min_two max_three min_three max_four min_four   -- for this text's walks alone
set_option linter.unusedVariables false
set_option linter.unusedSimpArgs false

/-! ### bits_Pack: function 18 -/
mutual
def bits_Pack.j0 : Nat → Int → List Int → Bool → Option (List Int)
  | 0, _, _, _ => none
  | k + 1, x0, x1, x15 => if x15 = true then (some ([] : List Int)) else (bits_Pack.l0 k x0 ([] : List Int) 0 0 x1 (x1.length : Int) 0)
def bits_Pack.l0 : Nat → Int → List Int → Int → Int → List Int → Int → Int → Option (List Int)
  | 0, _, _, _, _, _, _, _ => none
  | k + 1, x0, x5, x6, x7, x16, x17, x18 => if x18 < x17 then (if 0 ≤ x18 then (if x18 < (x16.length : Int) then (if (rd x16 x18) < 0 then (bits_Pack.j2 k x0 x5 x6 x7 (rd x16 x18) x16 x17 x18 true) else (if 0 ≤ x0 then (bits_Pack.j2 k x0 x5 x6 x7 (rd x16 x18) x16 x17 x18 ((shr .i64 (rd x16 x18) x0) != 0)) else (none))) else (none)) else (none)) else (if x7 > 0 then (if x5.length < 140737488355328 then (some (x5 ++ [(x6) % 256])) else (none)) else (some x5))
def bits_Pack.j2 : Nat → Int → List Int → Int → Int → Int → List Int → Int → Int → Bool → Option (List Int)
  | 0, _, _, _, _, _, _, _, _, _ => none
  | k + 1, x0, x5, x6, x7, x9, x16, x17, x18, x29 => if x29 = true then (some ([] : List Int)) else (if 0 ≤ x7 then (bits_Pack.l1 k x0 x5 (Go.bits .or .i64 x6 (shl .i64 x9 x7)) (wrap64 (x7 + x0)) x16 x17 x18) else (none))
def bits_Pack.l1 : Nat → Int → List Int → Int → Int → List Int → Int → Int → Option (List Int)
  | 0, _, _, _, _, _, _, _ => none
  | k + 1, x0, x5, x6, x7, x16, x17, x18 => if x7 ≥ 8 then (if x5.length < 140737488355328 then (bits_Pack.l1 k x0 (x5 ++ [(x6) % 256]) (x6 / 256) (wrap64 (x7 - 8)) x16 x17 x18) else (none)) else (bits_Pack.l0 k x0 x5 x6 x7 x16 x17 (wrap64 (x18 + 1)))
end
def bits_Pack.f (k : Nat) (a0 : Int) (l1 : List Int) : Option (List Int) := if a0 < 1 then (bits_Pack.j0 k a0 l1 true) else (bits_Pack.j0 k a0 l1 (decide (a0 > 24)))
set_option maxHeartbeats 8000000 in
set_option maxRecDepth 100000 in
theorem bits_Pack.calls (k : Nat) (a0 : Int) (A1 : Option Addr) (c1 : Nat) (l1 : List Int) (r : List Int) (w : World) (hr1 : Kd.C (Kd.int .i64) w A1 l1.length l1) (hc1 : l1.length ≤ c1) (h : bits_Pack.f k a0 l1 = some r) :
    Calls Tryd.prog 18 #[.int .i64 a0, .slice A1 l1.length c1] w fun e w' => ∃ v0_ : Value, e = .returned (v0_) ∧ Kd.R (Kd.int .u8) 5 w' w.heap.size (fun _ => True) v0_ r ∧ Below w.heap.size w w' := by
  have HR1 := Aside0.mk hr1
  have HC1 := Aside0.mk hc1
  clear hr1 hc1
  have HB := Aside0.mk (Below.refl w.heap.size w)
  have H : (if a0 < 1 then (bits_Pack.j0 k a0 l1 true) else (bits_Pack.j0 k a0 l1 (decide (a0 > 24)))) = some r := h
  clear h
  have HC3 := Aside0.mk H
  clear H
  go_enter Tryd.func18, Tryd.ntmps18
  go_upto_region 1 with (fail)
  go_cut [15] (fun v15 wc => ∃ (kq : Nat) (x15_2 : Bool), v15 = .bool x15_2 ∧ Aside0 (bits_Pack.j0 kq a0 l1 x15_2 = some r) ∧ Aside0 (kq ≤ k) ∧ Aside0 (Below w.heap.size w wc))
  case first =>
    have H := HC3.out
    clear HC3
    by_cases c4 : a0 < 1
    · rw [if_pos c4] at H
      have c4b0 : decide (a0 < 1) = true := decide_eq_true c4
      clear c4
      (first | rw [c4b0] | (simp only [i64_w, i32_w]; rw [c4b0]) | skip)
      have H' := Aside0.mk H
      clear H
      go_wp2
      go_meet
      case rel => exact ⟨_, (true), (by first | rfl | (simp; done) | (simp [*]; done)), H', ⟨by first | omega | exact Nat.le_refl _⟩, ⟨by repeat (first | (with_reducible first | exact HB.out | apply below_alloc | apply pw_below_drewN | apply below_drew1) | exact HB.out)⟩⟩
    · rw [if_neg c4] at H
      have c4b0 : decide (a0 < 1) = false := decide_eq_false c4
      clear c4
      (first | rw [c4b0] | (simp only [i64_w, i32_w]; rw [c4b0]) | skip)
      have H' := Aside0.mk H
      clear H
      go_wp2
      go_meet
      case rel => exact ⟨_, (decide (a0 > 24)), (by first | rfl | (simp; done) | (simp [*]; done)), H', ⟨by first | omega | exact Nat.le_refl _⟩, ⟨by repeat (first | (with_reducible first | exact HB.out | apply below_alloc | apply pw_below_drewN | apply below_drew1) | exact HB.out)⟩⟩
  case rest =>
    clear HC3
    try clear c1
    try clear p2
    try clear c4
    try clear c4b0
    obtain ⟨kq, x15_2, rfl, HA, HJ2, HB⟩ := hcut
    cases kq with
    | zero => exact absurd HA.out (by simp [bits_Pack.j0])
    | succ kj2 =>
      have H := HA.out
      clear HA
      simp only [bits_Pack.j0] at H
      by_cases c5 : x15_2 = true
      · subst c5
        have H1 : (some ([] : List Int)) = some r := by rw [if_pos rfl] at H; exact H
        clear H
        have H := H1
        clear H1
        obtain rfl := Option.some.inj H
        go_wp2
        go_ret
        exact ⟨_, by first | rfl | (simp [errW_none, errW_some] <;> rfl) | (simp [*, errW_none, errW_some] <;> rfl), by first | exact Kd.R_nil _ _ _ _ _ | exact Kd.N_nil _ _ _ _ _ | exact Kd.V_nil _ _ _ _ _ | exact Kd.Q_nil _ _ _ _ _ | exact Kd.S_nil _ _ _ _ _, by repeat (first | (with_reducible first | exact HB.out | apply below_alloc | apply pw_below_drewN | apply below_drew1) | exact HB.out)⟩
      · replace c5 := Bool.eq_false_iff.mpr c5
        subst c5
        have H1 : (bits_Pack.l0 kj2 a0 ([] : List Int) 0 0 l1 (l1.length : Int) 0) = some r := by rw [if_neg (show ¬ (false = true) by decide)] at H; exact H
        clear H
        have H := H1
        clear H1
        have H' := Aside0.mk H
        clear H
        go_wp2
        go_loopg [5, 6, 7, 18] kj2 (fun kq v5 v6 v7 v18 w' => ∃ (x5_2 : List Int) (x6_2 : Int) (x7_2 : Int) (x18_2 : Int), v6 = .int .i64 x6_2 ∧ v7 = .int .i64 x7_2 ∧ v18 = .int .i64 x18_2 ∧ Aside0 (bits_Pack.l0 kq a0 x5_2 x6_2 x7_2 l1 (l1.length : Int) x18_2 = some r) ∧ Aside0 (kq ≤ kj2) ∧ Aside0 (Kd.R (Kd.int .u8) 5 w' w.heap.size (fun _ => True) v5 x5_2) ∧ Aside0 (Below w.heap.size w w'))
        case atStart => exact ⟨(([] : List Int)), (0), (0), (0), (by first | rfl | (simp; done) | (simp [*]; done)), (by first | rfl | (simp; done) | (simp [*]; done)), (by first | rfl | (simp; done) | (simp [*]; done)), H', ⟨Nat.le_refl _⟩, ⟨by first | exact Kd.R_nil _ _ _ _ _ | exact Kd.N_nil _ _ _ _ _ | exact Kd.V_nil _ _ _ _ _ | exact Kd.Q_nil _ _ _ _ _ | exact Kd.S_nil _ _ _ _ _⟩, ⟨by repeat (first | (with_reducible first | exact HB.out | apply below_alloc | apply pw_below_drewN | apply below_drew1) | exact HB.out)⟩⟩
        case round =>
          clear H'
          try clear c1
          try clear p2
          try clear c4
          try clear c4b0
          try clear c5
          try clear p2
          obtain ⟨x5_2, x6_2, x7_2, x18_2, rfl, rfl, rfl, HA, HK2, HO_5, HB⟩ := hrel
          cases gk with
          | zero => exact absurd HA.out (by simp [bits_Pack.l0])
          | succ k2 =>
            have H := HA.out
            clear HA
            simp only [bits_Pack.l0] at H
            by_cases c6 : x18_2 < (l1.length : Int)
            · rw [if_pos c6] at H
              have c6b0 : decide (x18_2 < (l1.length : Int)) = true := decide_eq_true c6
              clear c6
              by_cases c7 : 0 ≤ x18_2
              · rw [if_pos c7] at H
                have c7b0 : decide (0 ≤ x18_2) = true := decide_eq_true c7
                clear c7
                by_cases c8 : x18_2 < (l1.length : Int)
                · rw [if_pos c8] at H
                  have c8b0 : decide (x18_2 < (l1.length : Int)) = true := decide_eq_true c8
                  clear c8
                  have HC9 := Aside0.mk H
                  clear H
                  have p109 : 0 ≤ (x18_2 : Int) := of_decide_eq_true (by first | (with_reducible assumption) | assumption)
                  have q109 : x18_2 < (l1.length : Int) := of_decide_eq_true (by first | (with_reducible assumption) | assumption)
                  obtain ⟨ad109, e109, hx109_0⟩ := Kd.at_int HR1.out x18_2 p109 q109
                  cases e109
                  replace hx109_0 := (HB.out.cell (World.block_lt_of_cell? w _ hx109_0)).trans hx109_0
                  replace p109 := eq_true p109
                  replace q109 := eq_true q109
                  go_upto_region 8 with (fail)
                  go_cut [29] (fun v29 wc => ∃ (kq : Nat) (x29_8 : Bool), v29 = .bool x29_8 ∧ Aside0 (bits_Pack.j2 kq a0 x5_2 x6_2 x7_2 (rd l1 x18_2) l1 (l1.length : Int) x18_2 x29_8 = some r) ∧ Aside0 (kq ≤ k2) ∧ Aside0 (Kd.R (Kd.int .u8) 5 wc w.heap.size (fun _ => True) u5 x5_2) ∧ Aside0 (Below w.heap.size w wc))
                  case first =>
                    have H := HC9.out
                    clear HC9
                    by_cases c10 : (rd l1 x18_2) < 0
                    · rw [if_pos c10] at H
                      have c10b0 : decide ((rd l1 x18_2) < 0) = true := decide_eq_true c10
                      clear c10
                      (first | rw [c10b0] | (simp only [i64_w, i32_w]; rw [c10b0]) | skip)
                      have H' := Aside0.mk H
                      clear H
                      go_wp2
                      go_meet
                      case rel => exact ⟨_, (true), (by first | rfl | (simp; done) | (simp [*]; done)), H', ⟨by have := HJ2.out; have := HK2.out; first | omega | exact Nat.le_refl _⟩, ⟨by (with_reducible repeat (first | apply Kd.R_alloc | apply Kd.R_drewN | apply Kd.R_drew)); exact HO_5.out⟩, ⟨by repeat (first | (with_reducible first | exact HB.out | apply below_alloc | apply pw_below_drewN | apply below_drew1) | exact HB.out)⟩⟩
                    · rw [if_neg c10] at H
                      have c10b0 : decide ((rd l1 x18_2) < 0) = false := decide_eq_false c10
                      clear c10
                      (first | rw [c10b0] | (simp only [i64_w, i32_w]; rw [c10b0]) | skip)
                      by_cases c11 : 0 ≤ a0
                      · rw [if_pos c11] at H
                        have c11b0 := eq_true c11
                        have c11b1 : decide (0 ≤ a0) = true := decide_eq_true c11
                        clear c11
                        obtain ⟨ji12, hji12⟩ : ∃ j_ : Int, (shr .i64 (rd l1 x18_2) a0) = j_ := ⟨_, rfl⟩
                        replace H : (bits_Pack.j2 k2 a0 x5_2 x6_2 x7_2 (rd l1 x18_2) l1 (l1.length : Int) x18_2 ((ji12) != 0)) = some r := by first | (rw [hji12] at H; exact H) | (simp only [hji12] at H ⊢; exact H)
                        have hji12_ : ((rd l1 x18_2) / 2 ^ min a0.toNat 64) = ji12 := hji12
                        have hji12z : a0 ≤ 64 → ((rd l1 x18_2) / 2 ^ a0.toNat) = ji12 := shr_small hji12
                        have H' := Aside0.mk H
                        clear H
                        go_wp2
                        go_meet
                        case rel => exact ⟨_, (((ji12) != 0)), (by first | rfl | (simp; done) | (simp only [← hji12] <;> (first | rfl | simp)) | (simp [*]; done)), H', ⟨by have := HJ2.out; have := HK2.out; first | omega | exact Nat.le_refl _⟩, ⟨by (with_reducible repeat (first | apply Kd.R_alloc | apply Kd.R_drewN | apply Kd.R_drew)); exact HO_5.out⟩, ⟨by repeat (first | (with_reducible first | exact HB.out | apply below_alloc | apply pw_below_drewN | apply below_drew1) | exact HB.out)⟩⟩
                      · rw [if_neg c11] at H
                        exact absurd H (by simp)
                  case rest =>
                    clear HC9
                    try clear c1
                    try clear p1
                    try clear q1
                    try clear hx1
                    try clear p2
                    try clear c4
                    try clear c4b0
                    try clear c5
                    try clear c6
                    try clear c6b0
                    try clear c7
                    try clear c7b0
                    try clear c8
                    try clear c8b0
                    try clear c10
                    try clear c10b0
                    try clear p10
                    try clear q10
                    try clear hx10
                    try clear c11
                    try clear c11b0
                    try clear c11b1
                    try clear hx109_0
                    try clear p109
                    try clear p2
                    try clear q109
                    obtain ⟨kq, x29_8, rfl, HA, HJ8, HO_5, HB⟩ := hcut
                    cases kq with
                    | zero => exact absurd HA.out (by simp [bits_Pack.j2])
                    | succ kj8 =>
                      have H := HA.out
                      clear HA
                      simp only [bits_Pack.j2] at H
                      by_cases c13 : x29_8 = true
                      · subst c13
                        have H1 : (some ([] : List Int)) = some r := by rw [if_pos rfl] at H; exact H
                        clear H
                        have H := H1
                        clear H1
                        obtain rfl := Option.some.inj H
                        go_wp2
                        go_ret
                        exact ⟨_, by first | rfl | (simp [errW_none, errW_some] <;> rfl) | (simp [*, errW_none, errW_some] <;> rfl), by first | exact Kd.R_nil _ _ _ _ _ | exact Kd.N_nil _ _ _ _ _ | exact Kd.V_nil _ _ _ _ _ | exact Kd.Q_nil _ _ _ _ _ | exact Kd.S_nil _ _ _ _ _, by repeat (first | (with_reducible first | exact HB.out | apply below_alloc | apply pw_below_drewN | apply below_drew1) | exact HB.out)⟩
                      · replace c13 := Bool.eq_false_iff.mpr c13
                        subst c13
                        have H1 : (if 0 ≤ x7_2 then (bits_Pack.l1 kj8 a0 x5_2 (Go.bits .or .i64 x6_2 (shl .i64 (rd l1 x18_2) x7_2)) (wrap64 (x7_2 + a0)) l1 (l1.length : Int) x18_2) else (none)) = some r := by rw [if_neg (show ¬ (false = true) by decide)] at H; exact H
                        clear H
                        have H := H1
                        clear H1
                        by_cases c14 : 0 ≤ x7_2
                        · rw [if_pos c14] at H
                          have c14b0 := eq_true c14
                          have c14b1 : decide (0 ≤ x7_2) = true := decide_eq_true c14
                          clear c14
                          obtain ⟨ji15, hji15⟩ : ∃ j_ : Int, (shl .i64 (rd l1 x18_2) x7_2) = j_ := ⟨_, rfl⟩
                          replace H : (bits_Pack.l1 kj8 a0 x5_2 (Go.bits .or .i64 x6_2 (ji15)) (wrap64 (x7_2 + a0)) l1 (l1.length : Int) x18_2) = some r := by first | (rw [hji15] at H; exact H) | (simp only [hji15] at H ⊢; exact H)
                          have hji15_ : (IntKind.i64.wrap ((rd l1 x18_2) * 2 ^ min x7_2.toNat 64)) = ji15 := hji15
                          have hji15z : x7_2 ≤ 64 → (IntKind.i64.wrap ((rd l1 x18_2) * 2 ^ x7_2.toNat)) = ji15 := shl_small hji15
                          have hji15y : (wrap64 ((rd l1 x18_2) * 2 ^ min x7_2.toNat 64)) = ji15 := (i64_w _).symm.trans hji15_
                          have hji15x : x7_2 ≤ 64 → (wrap64 ((rd l1 x18_2) * 2 ^ x7_2.toNat)) = ji15 := fun h_ => (i64_w _).symm.trans (hji15z h_)
                          have H' := Aside0.mk H
                          clear H
                          go_wp2
                          go_loopg [5, 6, 7] kj8 (fun kq v5 v6 v7 w' => ∃ (x5_4 : List Int) (x6_4 : Int) (x7_4 : Int), v6 = .int .i64 x6_4 ∧ v7 = .int .i64 x7_4 ∧ Aside0 (bits_Pack.l1 kq a0 x5_4 x6_4 x7_4 l1 (l1.length : Int) x18_2 = some r) ∧ Aside0 (kq ≤ kj8) ∧ Aside0 (Kd.R (Kd.int .u8) 5 w' w.heap.size (fun _ => True) v5 x5_4) ∧ Aside0 (Below w.heap.size w w'))
                          case atStart => exact ⟨(x5_2), (Go.bits .or .i64 x6_2 (ji15)), (wrap64 (x7_2 + a0)), (by first | rfl | (simp; done) | (simp only [← hji15] <;> (first | rfl | simp)) | (simp [*]; done)), (by first | rfl | (simp; done) | (simp [*]; done)), H', ⟨Nat.le_refl _⟩, ⟨by (with_reducible repeat (first | apply Kd.R_alloc | apply Kd.R_drewN | apply Kd.R_drew)); exact HO_5.out⟩, ⟨by repeat (first | (with_reducible first | exact HB.out | apply below_alloc | apply pw_below_drewN | apply below_drew1) | exact HB.out)⟩⟩
                          case round =>
                            clear H'
                            try clear c1
                            try clear p1
                            try clear q1
                            try clear hx1
                            try clear p2
                            try clear c4
                            try clear c4b0
                            try clear c5
                            try clear c6
                            try clear c6b0
                            try clear p6
                            try clear c7
                            try clear c7b0
                            try clear c8
                            try clear c8b0
                            try clear c10
                            try clear c10b0
                            try clear p10
                            try clear q10
                            try clear hx10
                            try clear c11
                            try clear c11b0
                            try clear c11b1
                            try clear c13
                            try clear c14
                            try clear c14b0
                            try clear c14b1
                            try clear hx109_0
                            try clear p1
                            try clear p10
                            try clear p109
                            try clear p2
                            try clear q1
                            try clear q10
                            try clear q109
                            obtain ⟨x5_4, x6_4, x7_4, rfl, rfl, HA, HK4, HO_5, HB⟩ := hrel
                            cases gk with
                            | zero => exact absurd HA.out (by simp [bits_Pack.l1])
                            | succ k4 =>
                              have H := HA.out
                              clear HA
                              simp only [bits_Pack.l1] at H
                              by_cases c16 : x7_4 ≥ 8
                              · rw [if_pos c16] at H
                                have c16b0 : decide (8 ≤ x7_4) = true := decide_eq_true c16
                                clear c16
                                by_cases c17 : x5_4.length < 140737488355328
                                · rw [if_pos c17] at H
                                  have LMc17 := Aside0.mk c17
                                  clear c17
                                  obtain ⟨y110, hy110⟩ : ∃ y_ : List Int, y_ = (x5_4 ++ [(x6_4) % 256]) := ⟨_, rfl⟩
                                  replace H : (bits_Pack.l1 k4 a0 y110 (x6_4 / 256) (wrap64 (x7_4 - 8)) l1 (l1.length : Int) x18_2) = some r := by first | (rw [hy110]; with_reducible exact H) | (have H2_ := (Option.bind_some _ _).symm.trans H; rw [hy110]; with_reducible exact H2_) | (have H2_ := (Option.bind_some _ _).symm.trans H; with_reducible exact H2_) | with_reducible exact H | (rw [hy110]; exact H) | exact H
                                  have Ny110 := Aside0.mk hy110
                                  clear hy110
                                  have H' := Aside0.mk H
                                  clear H
                                  go_wp2_with (first | ((with_reducible refine gate_builtin (b := .append) (xs := #[.tmp 42, .tmp 45]) rfl ?_); at_builtin; refine Kd.R_append (Kd.int .u8) (w0 := w) w.heap.size rfl (.tmp 42) (.tmp 45) 22 5 (.int .u8 0) 1 rfl Tryd.underlying22 info5 rfl (by decide) (by omega) u5 x5_4 ((x6_4) % 256) [.int .u8 ((x6_4) % 256)] (fun _ => True) (fun _ => False) rfl rfl ?aP (fun _ hk => hk.elim) ?aF ?aO ?aB ?aS ?aL ?_; (case aP => exact rfl); (case aB => exact (by repeat (first | (with_reducible first | exact HB.out | apply below_alloc | apply pw_below_drewN | apply below_drew1) | exact HB.out))); (case aF => exact (fun _ _ => trivial)); (case aO => exact (by (with_reducible repeat (first | apply Kd.R_alloc | apply Kd.R_drewN | apply Kd.R_drew)); exact HO_5.out)); (case aS => exact (below_size (by repeat (first | (with_reducible first | exact HB.out | apply below_alloc | apply pw_below_drewN | apply below_drew1) | exact HB.out)))); (case aL => have := LMc17.out; omega); intro v111 w18 ho hb hg hat; rw [← Ny110.out] at ho; have n0_ := Aside0.mk (hb); have n1_ := Aside0.mk (ho); clear HB; clear HO_5; have HB := n0_; have HO112 := n1_; clear n0_ n1_; clear ho hb hg hat))
                                  go_roundg k4
                                  case measure => have := HJ2.out; have := HK2.out; have := HJ8.out; have := HK4.out; omega
                                  case rel => exact ⟨(y110), (x6_4 / 256), (wrap64 (x7_4 - 8)), (by first | rfl | (simp; done) | (simp [*]; done)), (by first | rfl | (simp; done) | (simp [*]; done)), H', ⟨by have := HJ2.out; have := HK2.out; have := HJ8.out; have := HK4.out; omega⟩, ⟨by (with_reducible repeat (first | apply Kd.R_alloc | apply Kd.R_drewN | apply Kd.R_drew)); exact HO112.out⟩, ⟨by repeat (first | (with_reducible first | exact HB.out | apply below_alloc | apply pw_below_drewN | apply below_drew1) | exact HB.out)⟩⟩
                                · rw [if_neg c17] at H
                                  exact absurd H (by simp)
                              · rw [if_neg c16] at H
                                have c16b0 : decide (8 ≤ x7_4) = false := decide_eq_false c16
                                clear c16
                                have H' := Aside0.mk H
                                clear H
                                go_wp2
                                go_roundg k4
                                case measure => have := HJ2.out; have := HK2.out; have := HJ8.out; have := HK4.out; omega
                                case rel => exact ⟨(x5_4), (x6_4), (x7_4), (wrap64 (x18_2 + 1)), (by first | rfl | (simp; done) | (simp [*]; done)), (by first | rfl | (simp; done) | (simp [*]; done)), (by first | rfl | (simp; done) | (simp [*]; done)), H', ⟨by have := HJ2.out; have := HK2.out; have := HJ8.out; have := HK4.out; omega⟩, ⟨by (with_reducible repeat (first | apply Kd.R_alloc | apply Kd.R_drewN | apply Kd.R_drew)); exact HO_5.out⟩, ⟨by repeat (first | (with_reducible first | exact HB.out | apply below_alloc | apply pw_below_drewN | apply below_drew1) | exact HB.out)⟩⟩
                        · rw [if_neg c14] at H
                          exact absurd H (by simp)
                · rw [if_neg c8] at H
                  exact absurd H (by simp)
              · rw [if_neg c7] at H
                exact absurd H (by simp)
            · rw [if_neg c6] at H
              have c6b0 : decide (x18_2 < (l1.length : Int)) = false := decide_eq_false c6
              clear c6
              by_cases c19 : x7_2 > 0
              · rw [if_pos c19] at H
                have c19b0 : decide (0 < x7_2) = true := decide_eq_true c19
                clear c19
                by_cases c20 : x5_2.length < 140737488355328
                · rw [if_pos c20] at H
                  have LMc20 := Aside0.mk c20
                  clear c20
                  obtain ⟨y106, hy106⟩ : ∃ y_ : List Int, y_ = (x5_2 ++ [(x6_2) % 256]) := ⟨_, rfl⟩
                  replace H : (some y106) = some r := by first | (rw [hy106]; with_reducible exact H) | (have H2_ := (Option.bind_some _ _).symm.trans H; rw [hy106]; with_reducible exact H2_) | (have H2_ := (Option.bind_some _ _).symm.trans H; with_reducible exact H2_) | with_reducible exact H | (rw [hy106]; exact H) | exact H
                  have Ny106 := Aside0.mk hy106
                  clear hy106
                  obtain rfl := Option.some.inj H
                  go_wp2_with (first | ((with_reducible refine gate_builtin (b := .append) (xs := #[.tmp 52, .tmp 55]) rfl ?_); at_builtin; refine Kd.R_append (Kd.int .u8) (w0 := w) w.heap.size rfl (.tmp 52) (.tmp 55) 22 5 (.int .u8 0) 1 rfl Tryd.underlying22 info5 rfl (by decide) (by omega) u5 x5_2 ((x6_2) % 256) [.int .u8 ((x6_2) % 256)] (fun _ => True) (fun _ => False) rfl rfl ?aP (fun _ hk => hk.elim) ?aF ?aO ?aB ?aS ?aL ?_; (case aP => exact rfl); (case aB => exact (by repeat (first | (with_reducible first | exact HB.out | apply below_alloc | apply pw_below_drewN | apply below_drew1) | exact HB.out))); (case aF => exact (fun _ _ => trivial)); (case aO => exact (by (with_reducible repeat (first | apply Kd.R_alloc | apply Kd.R_drewN | apply Kd.R_drew)); exact HO_5.out)); (case aS => exact (below_size (by repeat (first | (with_reducible first | exact HB.out | apply below_alloc | apply pw_below_drewN | apply below_drew1) | exact HB.out)))); (case aL => have := LMc20.out; omega); intro v107 w21 ho hb hg hat; rw [← Ny106.out] at ho; have n0_ := Aside0.mk (hb); have n1_ := Aside0.mk (ho); clear HB; clear HO_5; have HB := n0_; have HO108 := n1_; clear n0_ n1_; clear ho hb hg hat))
                  go_ret
                  exact ⟨_, by first | rfl | (simp [errW_none, errW_some] <;> rfl) | (simp [*, errW_none, errW_some] <;> rfl), by (with_reducible repeat (first | apply Kd.R_alloc | apply Kd.R_drewN | apply Kd.R_drew)); exact HO108.out, by repeat (first | (with_reducible first | exact HB.out | apply below_alloc | apply pw_below_drewN | apply below_drew1) | exact HB.out)⟩
                · rw [if_neg c20] at H
                  exact absurd H (by simp)
              · rw [if_neg c19] at H
                have c19b0 : decide (0 < x7_2) = false := decide_eq_false c19
                clear c19
                obtain rfl := Option.some.inj H
                go_wp2
                go_ret
                exact ⟨_, by first | rfl | (simp [errW_none, errW_some] <;> rfl) | (simp [*, errW_none, errW_some] <;> rfl), by (with_reducible repeat (first | apply Kd.R_alloc | apply Kd.R_drewN | apply Kd.R_drew)); exact HO_5.out, by repeat (first | (with_reducible first | exact HB.out | apply below_alloc | apply pw_below_drewN | apply below_drew1) | exact HB.out)⟩

end Go.Proofs.YtkdfcgihgndnnaaDoor.PPK
end
section
/- What packing and unpacking numbers computes: digits of one number. -/
namespace Go.Proofs.YtkdfcgihgndnnaaDoor.PackH
open Go.RowKit Go.Proofs.YtkdfcgihgndnnaaDoor.PPK Go.Proofs.YtkdfcgihgndnnaaDoorW.PrintWords Go.Proofs.YtkdfcgihgndnnaaDoorW.PrintLast Go.Proofs.YtkdfcgihgndnnaaDoorW.PrintMore

theorem bnd {α β : Type} {o : Option α} {x : α} {f : α → Option β} {r : Option β} (h : o = some x) (k : f x = r) : o.bind f = r := by rw [h]; exact k
theorem ifp {α : Type} {c : Prop} [Decidable c] {a b r : α} (h : c) (k : a = r) : (if c then a else b) = r := by rw [if_pos h]; exact k
theorem ifn {α : Type} {c : Prop} [Decidable c] {a b r : α} (h : ¬ c) (k : b = r) : (if c then a else b) = r := by rw [if_neg h]; exact k
theorem w64 {n : Int} (h0 : -9223372036854775808 ≤ n) (h1 : n ≤ 9223372036854775807) : wrap64 n = n := by unfold wrap64; omega
theorem rdI (l : List Int) (i : Nat) (h : i < l.length) : rd l (i : Int) = l[i] := by
  unfold rd
  rw [Int.toNat_natCast, List.getD_eq_getElem?_getD, List.getElem?_eq_getElem h]
  rfl
theorem wraps_i64 (n : Int) (h₀ : 0 ≤ n) (h₁ : n < 2 ^ 63) : IntKind.i64.wrap n = n := by rw [IntKind.wrap_i64]; omega
/-- Numbers of d bits each, the first the lowest. -/
def val (d : Nat) : List Int → Nat
  | [] => 0
  | x :: r => x.toNat + 2 ^ d * val d r
/-- So many digits to the base 256, the lowest first. -/
def digs : Nat → Nat → List Int
  | 0, _ => []
  | n + 1, m => ((m % 256 : Nat) : Int) :: digs n (m / 256)
theorem digs_len : ∀ (n m : Nat), (digs n m).length = n
  | 0, _ => rfl
  | n + 1, m => by rw [digs, List.length_cons, digs_len n]
theorem or_add (h x i : Nat) (hi : i ≤ 63) (hh : h < 2 ^ i) (hx : x % 2 ^ i = 0) (hb : x < 2 ^ 63) : Go.bits .or .i64 (h : Int) (x : Int) = ((h + x : Nat) : Int) := by
  have h63 : h < 2 ^ 63 := Nat.lt_of_lt_of_le hh (Nat.pow_le_pow_right (by decide) hi)
  rw [(bits_nat .i64 63 (by decide) wraps_i64 h x h63 hb).2]
  have hq : x = 2 ^ i * (x / 2 ^ i) := by
    have := Nat.div_add_mod x (2 ^ i)
    omega
  have := Nat.two_pow_add_eq_or_of_lt hh (x / 2 ^ i)
  rw [← hq] at this
  rw [Nat.or_comm, ← this, Nat.add_comm]
/-! ### Packing -/
theorem pack_step (d n x h : Nat) (hn : n < 8) (hd : d ≤ 24) (hx : x < 2 ^ d) (hh : h < 2 ^ n) :
    Go.bits .or .i64 (h : Int) (shl .i64 (x : Int) (n : Int)) = ((h + x * 2 ^ n : Nat) : Int) ∧ h + x * 2 ^ n < 2 ^ (n + d) := by
  have h1 : x * 2 ^ n < 2 ^ (n + d) := by rw [Nat.add_comm n d, Nat.pow_add]; exact Nat.mul_lt_mul_of_pos_right hx (Nat.two_pow_pos n)
  have h2 : (2 : Nat) ^ (n + d) ≤ 2 ^ 31 := Nat.pow_le_pow_right (by decide) (by omega)
  have hs : shl .i64 (x : Int) (n : Int) = ((x * 2 ^ n : Nat) : Int) := by
    unfold shl
    rw [Int.toNat_natCast, Nat.min_eq_left (by simp only [IntKind.bits]; omega), show (x : Int) * 2 ^ n = ((x * 2 ^ n : Nat) : Int) by push_cast; rfl]
    exact wraps_i64 _ (by omega) (by have := Nat.lt_of_lt_of_le h1 h2; omega)
  refine ⟨by rw [hs]; exact or_add h _ n (by omega) hh (Nat.mul_mod_left _ _) (by omega), ?_⟩
  have h3 : h + x * 2 ^ n < 2 ^ n + x * 2 ^ n := by omega
  have h4 : 2 ^ n + x * 2 ^ n = (x + 1) * 2 ^ n := by rw [Nat.add_mul]; omega
  have h5 : (x + 1) * 2 ^ n ≤ 2 ^ d * 2 ^ n := Nat.mul_le_mul_right _ hx
  rw [Nat.pow_add, Nat.mul_comm (2 ^ n)]
  omega
theorem digs_step (n h V t : Nat) (hn : 8 ≤ n) (ht : 1 ≤ t) : digs t (h + 2 ^ n * V) = ((h % 256 : Nat) : Int) :: digs (t - 1) (h / 256 + 2 ^ (n - 8) * V) := by
  obtain ⟨t', rfl⟩ : ∃ t', t = t' + 1 := ⟨t - 1, by omega⟩
  have hp : (2 : Nat) ^ n * V = 256 * (2 ^ (n - 8) * V) := by
    rw [← Nat.mul_assoc, show (256 : Nat) = 2 ^ 8 by decide, ← Nat.pow_add]
    congr 2
    omega
  rw [digs, hp, Nat.add_mul_mod_self_left, Nat.add_mul_div_left _ _ (by decide)]
  rfl
/-- Are numbers such of d bits? -/
def fit (d : Nat) (xs : List Int) : Prop := ∀ x ∈ xs, 0 ≤ x ∧ x < (2 ^ d : Nat)
theorem pack_all (d : Nat) (hd1 : 1 ≤ d) (hd : d ≤ 24) (xs : List Int) (hxs : fit d xs) (hl : xs.length < 4294967296) : ∀ k : Nat,
    (∀ (m i n h : Nat) (out : List Int), i + m = xs.length → n < 8 → h < 2 ^ n → 6 * m + 1 ≤ k → out.length + 4 * m + 4 < 140737488355328 →
      bits_Pack.l0 k (d : Int) out (h : Int) (n : Int) xs (xs.length : Int) (i : Int) = some (out ++ digs ((n + d * m + 7) / 8) (h + 2 ^ n * val d (xs.drop i)))) ∧
    (∀ (m i n h : Nat) (out : List Int), i + m + 1 = xs.length → n ≤ 31 → h < 2 ^ n → 6 * m + n / 8 + 2 ≤ k → out.length + n / 8 + 4 * m + 4 < 140737488355328 →
      bits_Pack.l1 k (d : Int) out (h : Int) (n : Int) xs (xs.length : Int) (i : Int) = some (out ++ digs ((n + d * m + 7) / 8) (h + 2 ^ n * val d (xs.drop (i + 1)))))
  | 0 => ⟨fun _ _ _ _ _ _ _ _ hk => by omega, fun _ _ _ _ _ _ _ _ hk => by omega⟩
  | 1 => by
    refine ⟨fun m i n h out hi hn hh hk ho => ?_, fun _ _ _ _ _ _ _ _ hk => by omega⟩
    obtain rfl : m = 0 := by omega
    rw [bits_Pack.l0, if_neg (by omega), List.drop_of_length_le (by omega)]
    by_cases c : n = 0
    · subst c
      rw [if_neg (by omega)]
      simp [digs]
    · rw [if_pos (by omega), if_pos (by omega), show (n + d * 0 + 7) / 8 = 1 by omega]
      simp [digs, val]
  | k + 2 => by
    have ih1 := pack_all d hd1 hd xs hxs hl (k + 1)
    have ih0 := pack_all d hd1 hd xs hxs hl k
    constructor
    · intro m i n h out hi hn hh hk ho
      cases m with
      | zero =>
        rw [bits_Pack.l0, if_neg (by omega), List.drop_of_length_le (by omega)]
        by_cases c : n = 0
        · subst c
          rw [if_neg (by omega)]
          simp [digs]
        · rw [if_pos (by omega), if_pos (by omega), show (n + d * 0 + 7) / 8 = 1 by omega]
          simp [digs, val]
      | succ m =>
        have hil : i < xs.length := by omega
        obtain ⟨hx0, hx1⟩ := hxs xs[i] (List.getElem_mem hil)
        obtain ⟨x, hx⟩ := Int.eq_ofNat_of_zero_le hx0
        have hxd : x < 2 ^ d := by rw [hx] at hx1; exact_mod_cast hx1
        obtain ⟨hor, hlt⟩ := pack_step d n x h hn hd hxd hh
        have e : xs.drop i = xs[i] :: xs.drop (i + 1) := (List.getElem_cons_drop hil).symm
        rw [bits_Pack.l0, if_pos (by omega), if_pos (by omega), if_pos (by omega), rdI xs i hil, hx, if_neg (by omega), if_pos (by omega)]
        have hshr : shr .i64 (x : Int) (d : Int) = 0 := by
          unfold shr
          rw [Int.toNat_natCast, Nat.min_eq_left (by simp only [IntKind.bits]; omega)]
          exact Int.ediv_eq_zero_of_lt (by omega) (by exact_mod_cast hxd)
        rw [hshr, bits_Pack.j2, if_neg (by simp), if_pos (by omega), hor, w64 (by omega) (by omega), show (n : Int) + (d : Int) = ((n + d : Nat) : Int) by omega,
          ih0.2 m i (n + d) (h + x * 2 ^ n) out (by omega) (by omega) hlt (by omega) (by omega), e, val, hx, Int.toNat_natCast]
        congr 3
        · rw [Nat.mul_add]; omega
        · rw [Nat.mul_add, Nat.pow_add, Nat.mul_comm x, Nat.mul_assoc]; omega
    · intro m i n h out hi hn hh hk ho
      rw [bits_Pack.l1]
      by_cases c : 8 ≤ n
      · have hh8 : h / 256 < 2 ^ (n - 8) := by
          rw [Nat.div_lt_iff_lt_mul (by decide), show (256 : Nat) = 2 ^ 8 by decide, ← Nat.pow_add, show n - 8 + 8 = n by omega]
          exact hh
        rw [if_pos (by omega), if_pos (by omega), w64 (by omega) (by omega), show (n : Int) - 8 = ((n - 8 : Nat) : Int) by omega, show (h : Int) % 256 = ((h % 256 : Nat) : Int) by omega, show (h : Int) / 256 = ((h / 256 : Nat) : Int) by omega,
          ih1.2 m i (n - 8) (h / 256) _ hi (by omega) hh8 (by omega) (by rw [List.length_append]; simp only [List.length_cons, List.length_nil]; omega),
          digs_step n h _ ((n + d * m + 7) / 8) c (by omega), List.append_assoc, List.cons_append, List.nil_append]
        congr 4
        omega
      · rw [if_neg (by omega), w64 (by omega) (by omega), show (i : Int) + 1 = ((i + 1 : Nat) : Int) by omega, ih1.1 m (i + 1) n h out (by omega) (by omega) hh (by omega) (by omega)]
theorem pack_ok (k d : Nat) (hd1 : 1 ≤ d) (hd : d ≤ 24) (xs : List Int) (hxs : fit d xs) (hl : xs.length < 4294967296) (hk : 6 * xs.length + 2 ≤ k) :
    bits_Pack.f k (d : Int) xs = some (digs ((d * xs.length + 7) / 8) (val d xs)) := by
  obtain ⟨k, rfl⟩ : ∃ k', k = k' + 1 := ⟨k - 1, by omega⟩
  rw [bits_Pack.f, if_neg (by omega), decide_eq_false (by omega), bits_Pack.j0, if_neg (by simp)]
  have := (pack_all d hd1 hd xs hxs hl k).1 xs.length 0 0 0 [] (by omega) (by omega) (by simp) (by omega) (by simp only [List.length_nil]; omega)
  rw [Int.natCast_zero] at this
  rw [this]
  simp
/-! ### Unpacking -/
/-- So many numbers of d bits each, the lowest first. -/
def unp (d : Nat) : Nat → Nat → List Int
  | 0, _ => []
  | n + 1, m => ((m % 2 ^ d : Nat) : Int) :: unp d n (m / 2 ^ d)
theorem unp_len (d : Nat) : ∀ (n m : Nat), (unp d n m).length = n
  | 0, _ => rfl
  | n + 1, m => by rw [unp, List.length_cons, unp_len d n]
theorem unp_fit (d : Nat) : ∀ (n m : Nat), fit d (unp d n m)
  | 0, _ => fun x hx => by simp [unp] at hx
  | n + 1, m => fun x hx => by
    rw [unp, List.mem_cons] at hx
    rcases hx with rfl | hx
    · have := Nat.mod_lt m (Nat.two_pow_pos d)
      exact ⟨by omega, by exact_mod_cast this⟩
    · exact unp_fit d n _ x hx
theorem unp_step (d n h V t : Nat) (hn : d ≤ n) (ht : 1 ≤ t) : unp d t (h + 2 ^ n * V) = ((h % 2 ^ d : Nat) : Int) :: unp d (t - 1) (h / 2 ^ d + 2 ^ (n - d) * V) := by
  obtain ⟨t', rfl⟩ : ∃ t', t = t' + 1 := ⟨t - 1, by omega⟩
  have hp : (2 : Nat) ^ n * V = 2 ^ d * (2 ^ (n - d) * V) := by
    rw [← Nat.mul_assoc, ← Nat.pow_add]
    congr 2
    omega
  rw [unp, hp, Nat.add_mul_mod_self_left, Nat.add_mul_div_left _ _ (Nat.two_pow_pos d)]
  rfl
/-- Bytes of a number are such; numbers of its bytes are such. -/
theorem digs_fit : ∀ (n m : Nat), fit 8 (digs n m)
  | 0, _ => fun x hx => by simp [digs] at hx
  | n + 1, m => fun x hx => by
    rw [digs, List.mem_cons] at hx
    rcases hx with rfl | hx
    · have := Nat.mod_lt m (show 256 > 0 by decide)
      exact ⟨by omega, by omega⟩
    · exact digs_fit n _ x hx
theorem val_digs : ∀ (n m : Nat), m < 256 ^ n → val 8 (digs n m) = m
  | 0, m, h => by simp at h; simp [digs, val, h]
  | n + 1, m, h => by
    have h2 : m / 256 < 256 ^ n := by rw [Nat.div_lt_iff_lt_mul (by decide), ← Nat.pow_succ]; exact h
    rw [digs, val, val_digs n _ h2, Int.toNat_natCast]
    omega
theorem val_lt (d : Nat) : ∀ (xs : List Int), fit d xs → val d xs < 2 ^ (d * xs.length)
  | [], _ => by simp [val]
  | x :: r, h => by
    obtain ⟨h0, h1⟩ := h x (List.mem_cons_self ..)
    have ih := val_lt d r (fun y hy => h y (List.mem_cons_of_mem _ hy))
    obtain ⟨y, hy⟩ := Int.eq_ofNat_of_zero_le h0
    rw [hy] at h1
    have hyd : y < 2 ^ d := by exact_mod_cast h1
    rw [val, hy, Int.toNat_natCast, List.length_cons, Nat.mul_add, Nat.mul_one, Nat.pow_add]
    have h3 : 2 ^ d * (val d r + 1) ≤ 2 ^ d * 2 ^ (d * r.length) := Nat.mul_le_mul_left _ ih
    rw [Nat.mul_add, Nat.mul_one] at h3
    rw [Nat.mul_comm (2 ^ (d * r.length))]
    omega
theorem unp_val (d : Nat) : ∀ (xs : List Int), fit d xs → unp d xs.length (val d xs) = xs
  | [], _ => rfl
  | x :: r, h => by
    obtain ⟨h0, h1⟩ := h x (List.mem_cons_self ..)
    obtain ⟨y, hy⟩ := Int.eq_ofNat_of_zero_le h0
    rw [hy] at h1
    have hyd : y < 2 ^ d := by exact_mod_cast h1
    rw [List.length_cons, unp, val, hy, Int.toNat_natCast, Nat.add_mul_mod_self_left, Nat.mod_eq_of_lt hyd, Nat.add_mul_div_left _ _ (Nat.two_pow_pos d), Nat.div_eq_of_lt hyd, Nat.zero_add,
      unp_val d r (fun z hz => h z (List.mem_cons_of_mem _ hz))]
theorem or_step (d n x h : Nat) (hn : n < 24) (hd : d ≤ 8) (hx : x < 2 ^ d) (hh : h < 2 ^ n) :
    Go.bits .or .i64 (h : Int) (shl .i64 (x : Int) (n : Int)) = ((h + x * 2 ^ n : Nat) : Int) ∧ h + x * 2 ^ n < 2 ^ (n + d) := by
  have h1 : x * 2 ^ n < 2 ^ (n + d) := by rw [Nat.add_comm n d, Nat.pow_add]; exact Nat.mul_lt_mul_of_pos_right hx (Nat.two_pow_pos n)
  have h2 : (2 : Nat) ^ (n + d) ≤ 2 ^ 31 := Nat.pow_le_pow_right (by decide) (by omega)
  have hs : shl .i64 (x : Int) (n : Int) = ((x * 2 ^ n : Nat) : Int) := by
    unfold shl
    rw [Int.toNat_natCast, Nat.min_eq_left (by simp only [IntKind.bits]; omega), show (x : Int) * 2 ^ n = ((x * 2 ^ n : Nat) : Int) by push_cast; rfl]
    exact wraps_i64 _ (by omega) (by have := Nat.lt_of_lt_of_le h1 h2; omega)
  refine ⟨by rw [hs]; exact or_add h _ n (by omega) hh (Nat.mul_mod_left _ _) (by omega), ?_⟩
  have h3 : h + x * 2 ^ n < 2 ^ n + x * 2 ^ n := by omega
  have h4 : 2 ^ n + x * 2 ^ n = (x + 1) * 2 ^ n := by rw [Nat.add_mul]; omega
  have h5 : (x + 1) * 2 ^ n ≤ 2 ^ d * 2 ^ n := Nat.mul_le_mul_right _ hx
  rw [Nat.pow_add, Nat.mul_comm (2 ^ n)]
  omega
theorem low_is (d h : Nat) (hd : d ≤ 62) (hh : h < 2 ^ 63) : bits_Low.f (d : Int) (h : Int) = some ((h % 2 ^ d : Nat) : Int) := by
  unfold bits_Low.f
  rw [if_neg (by omega), if_neg (by omega), if_pos (by omega)]
  have hs : wrap64 (shl .i64 1 (d : Int) - 1) = 2 ^ d - 1 := by
    have h2 : (2 : Nat) ^ d ≤ 2 ^ 62 := Nat.pow_le_pow_right (by decide) hd
    have h3 : (shl .i64 1 (d : Int)) = ((2 ^ d : Nat) : Int) := by
      unfold shl
      rw [Int.toNat_natCast, Nat.min_eq_left (by simp only [IntKind.bits]; omega), Int.one_mul, show (2 : Int) ^ d = ((2 ^ d : Nat) : Int) by push_cast; rfl]
      generalize (2 : Nat) ^ d = P at h2
      exact wraps_i64 _ (by omega) (by omega)
    rw [h3, show (2 : Int) ^ d = ((2 ^ d : Nat) : Int) by push_cast; rfl]
    generalize (2 : Nat) ^ d = P at h2
    exact w64 (by omega) (by omega)
  rw [hs, bits_mask .i64 63 (by decide) wraps_i64 d (by omega) (h : Int) (by omega) (by exact_mod_cast hh)]
  norm_cast
theorem unpack_all (d : Nat) (hd1 : 1 ≤ d) (hd : d ≤ 24) (xs : List Int) (hxs : fit 8 xs) (hl : xs.length < 1048576) : ∀ k : Nat,
    (∀ (m i n h : Nat) (out : List Int), i + m = xs.length → n < d → h < 2 ^ n → 40 * m + 1 ≤ k → out.length + 40 * m + 64 < 17592186044416 →
      bits_Unpack.l0 k (d : Int) out (h : Int) (n : Int) xs (xs.length : Int) (i : Int) = some (out ++ unp d ((n + 8 * m) / d) (h + 2 ^ n * val 8 (xs.drop i)))) ∧
    (∀ (m i n h : Nat) (out : List Int), i + m + 1 = xs.length → n ≤ 31 → h < 2 ^ n → n < d + 8 → 40 * m + n + 2 ≤ k → out.length + 40 * m + n + 64 < 17592186044416 →
      bits_Unpack.l1 k (d : Int) out (h : Int) (n : Int) xs (xs.length : Int) (i : Int) = some (out ++ unp d ((n + 8 * m) / d) (h + 2 ^ n * val 8 (xs.drop (i + 1)))))
  | 0 => ⟨fun _ _ _ _ _ _ _ _ hk => by omega, fun _ _ _ _ _ _ _ _ _ hk => by omega⟩
  | k + 1 => by
    have ih := unpack_all d hd1 hd xs hxs hl k
    constructor
    · intro m i n h out hi hn hh hk ho
      cases m with
      | zero =>
        rw [bits_Unpack.l0, if_neg (by omega), List.drop_of_length_le (by omega), show (n + 8 * 0) / d = 0 by rw [Nat.mul_zero, Nat.add_zero]; exact Nat.div_eq_of_lt hn]
        simp [unp]
      | succ m =>
        have hil : i < xs.length := by omega
        obtain ⟨hx0, hx1⟩ := hxs xs[i] (List.getElem_mem hil)
        obtain ⟨x, hx⟩ := Int.eq_ofNat_of_zero_le hx0
        have hxd : x < 2 ^ 8 := by rw [hx] at hx1; exact_mod_cast hx1
        obtain ⟨hor, hlt⟩ := or_step 8 n x h (by omega) (by decide) hxd hh
        have e : xs.drop i = xs[i] :: xs.drop (i + 1) := (List.getElem_cons_drop hil).symm
        rw [bits_Unpack.l0, if_pos (by omega), if_pos (by omega), if_pos (by omega), rdI xs i hil, hx, w64 (n := (x : Int)) (by omega) (by omega), if_pos (by omega), hor, w64 (by omega) (by omega), show (n : Int) + 8 = ((n + 8 : Nat) : Int) by omega,
          ih.2 m i (n + 8) (h + x * 2 ^ n) out (by omega) (by omega) hlt (by omega) (by omega) (by omega), e, val, hx, Int.toNat_natCast]
        congr 3
        · congr 1; omega
        · rw [Nat.mul_add, Nat.pow_add, Nat.mul_comm x, Nat.mul_assoc]; omega
    · intro m i n h out hi hn hh hnd hk ho
      rw [bits_Unpack.l1]
      by_cases c : d ≤ n
      · have hp : (2 : Nat) ^ n ≤ 2 ^ 31 := Nat.pow_le_pow_right (by decide) hn
        have hh8 : h / 2 ^ d < 2 ^ (n - d) := by
          rw [Nat.div_lt_iff_lt_mul (Nat.two_pow_pos d), ← Nat.pow_add, show n - d + d = n by omega]
          exact hh
        have hshr : shr .i64 (h : Int) (d : Int) = ((h / 2 ^ d : Nat) : Int) := by
          unfold shr
          rw [Int.toNat_natCast, Nat.min_eq_left (by simp only [IntKind.bits]; omega)]
          norm_cast
        have hdiv : (n + 8 * m) / d = (n - d + 8 * m) / d + 1 := by
          rw [show n + 8 * m = (n - d + 8 * m) + d by omega, Nat.add_div_right _ hd1]
        rw [if_pos (by omega), low_is d h (by omega) (Nat.lt_of_lt_of_le hh (Nat.le_trans hp (by decide))), Option.bind_some, if_pos (by omega), if_pos (by omega), hshr, w64 (by omega) (by omega), show (n : Int) - (d : Int) = ((n - d : Nat) : Int) by omega,
          ih.2 m i (n - d) (h / 2 ^ d) _ hi (by omega) hh8 (by omega) (by omega) (by rw [List.length_append]; simp only [List.length_cons, List.length_nil]; omega),
          unp_step d n h _ ((n + 8 * m) / d) c (by rw [hdiv]; exact Nat.succ_le_succ (Nat.zero_le _)), List.append_assoc, List.cons_append, List.nil_append, hdiv]
        rfl
      · rw [if_neg (by omega), w64 (by omega) (by omega), show (i : Int) + 1 = ((i + 1 : Nat) : Int) by omega, ih.1 m (i + 1) n h out (by omega) (by omega) hh (by omega) (by omega)]
theorem unpack_ok (k d : Nat) (hd1 : 1 ≤ d) (hd : d ≤ 24) (xs : List Int) (hxs : fit 8 xs) (hl : xs.length < 1048576) (hk : 40 * xs.length + 2 ≤ k) :
    bits_Unpack.f k (d : Int) xs = some (unp d (8 * xs.length / d) (val 8 xs)) := by
  obtain ⟨k, rfl⟩ : ∃ k', k = k' + 1 := ⟨k - 1, by omega⟩
  rw [bits_Unpack.f, if_neg (by omega), decide_eq_false (by omega), bits_Unpack.j0, if_neg (by simp)]
  have := (unpack_all d hd1 hd xs hxs hl k).1 xs.length 0 0 0 [] (by omega) (by omega) (by simp) (by omega) (by simp only [List.length_nil]; omega)
  rw [Int.natCast_zero] at this
  rw [this]
  simp
end Go.Proofs.YtkdfcgihgndnnaaDoor.PackH
end
section
namespace Go.Proofs.YtkdfcgihgndnnaaDoor.PPK
open Go.RowKit Go.Proofs.YtkdfcgihgndnnaaDoorW.PrintWords Go.Proofs.YtkdfcgihgndnnaaDoorW.PrintLast Go.Proofs.YtkdfcgihgndnnaaDoorW.PrintMore
attribute [local go_sem] max2_int min2_int max_two min_two max_three min_three max_four min_four
set_option linter.unusedVariables false
set_option linter.unusedSimpArgs false
section
def unp3 (z : List Int) : List Int := PackH.unp 12 2 (PackH.val 8 z)
theorem unp3_f (z : List Int) (hl : z.length = 3) (hB : ∀ x ∈ z, 0 ≤ x ∧ x < 256) : bits_Unpack.f 1000 12 z = some (unp3 z) := by
  have := PackH.unpack_ok 1000 12 (by decide) (by decide) z (fun x hx => hB x hx) (by omega) (by omega)
  rw [hl] at this
  exact this
theorem unp3_ok (z : List Int) : (unp3 z).length = 2 ∧ ∀ x ∈ unp3 z, 0 ≤ x := ⟨PackH.unp_len 12 2 _, fun x hx => (PackH.unp_fit 12 2 _ x hx).1⟩
def evAdd (out xs : List Int) : List Int := xs.foldl (fun o x => if x < 3329 ∧ o.length < 256 then o ++ [x] else o) out
theorem evAdd_snoc (out xs : List Int) (x : Int) : evAdd out (xs ++ [x]) = if x < 3329 ∧ (evAdd out xs).length < 256 then evAdd out xs ++ [x] else evAdd out xs := by
  unfold evAdd
  rw [List.foldl_append]
  rfl
theorem evAdd_ok : ∀ (xs out : List Int), (∀ x ∈ xs, 0 ≤ x) → out.length ≤ 256 → (∀ x ∈ out, 0 ≤ x ∧ x < 3329) → (evAdd out xs).length ≤ 256 ∧ ∀ x ∈ evAdd out xs, 0 ≤ x ∧ x < 3329
  | [], out, _, h1, h2 => ⟨h1, h2⟩
  | y :: r, out, h0, h1, h2 => by
    show (evAdd (if y < 3329 ∧ out.length < 256 then out ++ [y] else out) r).length ≤ 256 ∧ _
    by_cases c : y < 3329 ∧ out.length < 256
    · refine (show evAdd out (y :: r) = evAdd (out ++ [y]) r by show evAdd (if y < 3329 ∧ out.length < 256 then out ++ [y] else out) r = _; rw [if_pos c]) ▸ ?_
      refine evAdd_ok r _ (fun x hx => h0 x (by simp [hx])) (by rw [List.length_append]; simp; omega) (fun x hx => ?_)
      rcases List.mem_append.mp hx with h | h
      · exact h2 x h
      · rw [List.mem_singleton.mp h]; exact ⟨h0 y (by simp), c.1⟩
    · refine (show evAdd out (y :: r) = evAdd out r by show evAdd (if y < 3329 ∧ out.length < 256 then out ++ [y] else out) r = _; rw [if_neg c]) ▸ ?_
      exact evAdd_ok r out (fun x hx => h0 x (by simp [hx])) h1 h2
/-- What stands behind so many reads: the numbers, and the sponge. -/
def evS (bs : List Int) : Nat → List Int × (List Int × Nat)
  | 0 => ([], padW 168 31 (feed 168 (zer25, 0) bs))
  | k + 1 => (evAdd (evS bs k).1 (unp3 (sqz 168 3 (evS bs k).2).1), (sqz 168 3 (evS bs k).2).2)
set_option maxRecDepth 100000 in
theorem evS_ok (bs : List Int) : ∀ k, (evS bs k).1.length ≤ 256 ∧ (∀ x ∈ (evS bs k).1, 0 ≤ x ∧ x < 3329) ∧ (evS bs k).2.1.length = 25 ∧ (evS bs k).2.2 ≤ 168
  | 0 => by
    obtain ⟨h1, h2⟩ := feed_ok 168 (by decide) bs (zer25, 0) List.length_replicate (show 0 < 168 by decide)
    exact ⟨Nat.zero_le _, fun x hx => by simp [evS] at hx, flip_len _ _ _ (flip_len _ _ _ h1), Nat.le_refl _⟩
  | k + 1 => by
    obtain ⟨h1, h2, h3, h4⟩ := evS_ok bs k
    obtain ⟨i1, i2, i3⟩ := sqz_ok 168 (by decide) 3 _ h3 h4
    obtain ⟨j1, j2⟩ := evAdd_ok (unp3 (sqz 168 3 (evS bs k).2).1) (evS bs k).1 (unp3_ok _).2 h1 h2
    exact ⟨j1, j2, i2, i3⟩
def evGo (bs : List Int) : Nat → Nat → List Int
  | 0, k => (evS bs k).1
  | m + 1, k => if 3 + 3 * k < 4096 ∧ (evS bs k).1.length < 256 then evGo bs m (k + 1) else (evS bs k).1
theorem evGo_ok (bs : List Int) : ∀ m k, (evGo bs m k).length ≤ 256 ∧ ∀ x ∈ evGo bs m k, 0 ≤ x ∧ x < 3329
  | 0, k => ⟨(evS_ok bs k).1, (evS_ok bs k).2.1⟩
  | m + 1, k => by
    rw [evGo]
    by_cases c : 3 + 3 * k < 4096 ∧ (evS bs k).1.length < 256
    · rw [if_pos c]; exact evGo_ok bs m (k + 1)
    · rw [if_neg c]; exact ⟨(evS_ok bs k).1, (evS_ok bs k).2.1⟩
/-- draw.Even's poly. -/
def ev (seed : List Int) (i j : Int) : List Int := evGo (seed ++ [i, j]) 1366 0 ++ List.replicate (256 - (evGo (seed ++ [i, j]) 1366 0).length) 0
theorem ev_ok (seed : List Int) (i j : Int) : (ev seed i j).length = 256 ∧ ∀ x ∈ ev seed i j, 0 ≤ x ∧ x < 3329 := by
  obtain ⟨h1, h2⟩ := evGo_ok (seed ++ [i, j]) 1366 0
  refine ⟨by unfold ev; rw [List.length_append, List.length_replicate]; omega, fun x hx => ?_⟩
  rcases List.mem_append.mp hx with h | h
  · exact h2 x h
  · rw [List.eq_of_mem_replicate h]; decide
end
section
theorem R_kci {g base : Nat} {ok : Nat → Prop} {w w' : World} {v : Value} {xs : List Int} (h : Kd.R (Kd.int .i64) 3 w base ok v xs) (K : Kc g w w') (hg : g < base) : Kd.R (Kd.int .i64) 3 w' base ok v xs := Kd.R_mono (Kd.R_step (Kd.R_bound h) (fun k hk hlt => K.far k hlt (by have := hk.2.1; omega))) (fun _ hk => hk.1)
theorem make0i (n : Nat) (hn : n ≤ 1048576) : ∃ ZC : Array Value, (∀ W : World, (Instr.makeSlice 40 (.int .i64 0) (.int .i64 (n : Int))).run Tryd.prog W = .ok (.slice (some ⟨W.heap.size, 0, none⟩) 0 n) (W.alloc (.cells ZC 3 (0, 0)))) ∧ ∀ (W : World) (base : Nat), base ≤ W.heap.size → Kd.R (Kd.int .i64) 3 (W.alloc (.cells ZC 3 (0, 0))) base (fun _ => True) (.slice (some ⟨W.heap.size, 0, none⟩) 0 n) [] := by
  obtain ⟨i0, hi, hz0, hz1, hz2⟩ := info_parts info3
  refine ⟨madeCells (Value.int .i64 0).cells (n * 1), fun W => ?_, fun W base hb => ?_⟩
  · have hr := run_make (P := Tryd.prog) W 40 3 i0 (.int .i64 0) Tryd.underlying40 hi hz0 .i64 .i64 0 (n : Int) (by omega) (by omega) (by rw [hz2]; omega) (by omega)
    rw [hz1, Int.toNat_natCast] at hr
    exact hr
  · have h2 := World.ownsRow_lit (base := base) (e := 3) (size := 1) W (madeCells (Value.int .i64 0).cells (n * 1)) n hb (by simp only [maxLen]; omega) (by simp [size_madeCells])
    have hr : Kd.R (Kd.int .i64) 3 (W.alloc (.cells (madeCells (Value.int .i64 0).cells (n * 1)) 3 (0, 0))) base (fun _ => True) (.slice (some ⟨W.heap.size, 0, none⟩) n n) (List.replicate n 0) := by
      refine ⟨fun _ _ => trivial, (madeCells (Value.int .i64 0).cells (n * 1)).toList, ?_, Kd.reps_made (z := .int .i64 0) (z0 := (0 : Int)) (size := 1) rfl (by decide) rfl n⟩
      rw [List.length_replicate]
      exact h2
    have := Kd.R_take (m := 0) hr (Nat.zero_le _)
    rwa [List.take_zero] at this
theorem lit_pts {w w1 : World} {g : Nat} {A : Option Addr} {c : Nat} {sd : List Int} {i j : Int} (hC : Kd.C (Kd.int .u8) w A sd.length sd) (hl : sd.length = 32) (hB : Below w.heap.size w w1) (hg : g = w.heap.size) (hg1 : g < w1.heap.size) : Pts ((w1.alloc (.cells #[.int .u8 i, .int .u8 j] 5 (0, 0))).alloc (.cells #[.slice A 32 c, .slice (some ⟨w1.heap.size, 0, none⟩) 2 2] 22 (0, 0))) g (some ⟨w1.heap.size + 1, 0, none⟩) [sd, [i, j]] := by
  have C1 : ((w1.alloc (.cells #[.int .u8 i, .int .u8 j] 5 (0, 0))).alloc (.cells #[.slice A 32 c, .slice (some ⟨w1.heap.size, 0, none⟩) 2 2] 22 (0, 0))).heap[w1.heap.size]? = some (.cells #[.int .u8 i, .int .u8 j] 5 (0, 0)) := blk_alloc (blk_new _ _) _
  have C2 : ((w1.alloc (.cells #[.int .u8 i, .int .u8 j] 5 (0, 0))).alloc (.cells #[.slice A 32 c, .slice (some ⟨w1.heap.size, 0, none⟩) 2 2] 22 (0, 0))).heap[w1.heap.size + 1]? = some (.cells #[.slice A 32 c, .slice (some ⟨w1.heap.size, 0, none⟩) 2 2] 22 (0, 0)) := by
    have q := blk_new (w1.alloc (.cells #[.int .u8 i, .int .u8 j] 5 (0, 0))) (.cells #[.slice A 32 c, .slice (some ⟨w1.heap.size, 0, none⟩) 2 2] 22 (0, 0))
    rwa [show (w1.alloc (.cells #[.int .u8 i, .int .u8 j] 5 (0, 0))).heap.size = w1.heap.size + 1 from (by show (Array.push _ _).size = _; simp)] at q
  have B2 : Below w.heap.size w ((w1.alloc (.cells #[.int .u8 i, .int .u8 j] 5 (0, 0))).alloc (.cells #[.slice A 32 c, .slice (some ⟨w1.heap.size, 0, none⟩) 2 2] 22 (0, 0))) := below_alloc (below_alloc hB _) _
  intro n hn
  rcases (by simp at hn; omega : n = 0 ∨ n = 1) with rfl | rfl
  · refine ⟨_, A, c, rfl, by show w1.heap.size + 1 ≠ g; omega, ?_, fun k hk => ?_⟩
    · rw [add_plain, blk_cell C2 0]
      show some (Value.slice A 32 c) = some (.slice A sd.length c)
      rw [hl]
    · obtain ⟨ad1, e1, h1⟩ := sp_byte hC k hk
      have hb1 := World.block_lt_of_cell? w _ h1
      rw [add_block] at hb1
      exact ⟨ad1, e1, by omega, pw_cell_below B2 h1⟩
  · refine ⟨_, some ⟨w1.heap.size, 0, none⟩, 2, rfl, by show w1.heap.size + 1 ≠ g; omega, ?_, fun k hk => ?_⟩
    · rw [add_plain, blk_cell C2 1]
      rfl
    · refine ⟨_, rfl, by show w1.heap.size ≠ g; omega, ?_⟩
      rw [add_plain, blk_cell C1 k]
      rcases (by simp at hk; omega : k = 0 ∨ k = 1) with rfl | rfl <;> rfl
end
section
set_option maxHeartbeats 8000000 in
set_option maxRecDepth 100000 in
theorem SpEven.calls (A : Option Addr) (c : Nat) (sd : List Int) (i j : Int) (w : World) (hC : Kd.C (Kd.int .u8) w A sd.length sd) (hl : sd.length = 32) (hc : 32 ≤ c) : Calls Tryd.prog 47 #[.slice A 32 c, .int .u8 i, .int .u8 j] w fun e w' => ∃ A' c', e = .returned (.tuple #[.slice A' 256 c', .nilIface]) ∧ Kd.R (Kd.int .i64) 3 w' w.heap.size (fun _ => True) (.slice A' 256 c') (ev sd i j) ∧ Below w.heap.size w w' := by
  obtain ⟨g, hg⟩ : ∃ g, g = w.heap.size := ⟨_, rfl⟩
  have GE : Aside0 (w.heap.size ≤ g) := ⟨by omega⟩
  have NW : Aside0 (Calls Tryd.prog 54 #[.int .i64 168, .int .u8 31] w fun e w' => e = .returned (.pointer (some ⟨g, 0, none⟩)) ∧ Sp w' g zer25 168 31 0 false ∧ Below w.heap.size w w') := ⟨by rw [hg]; exact SpNew.calls 168 31 (by decide) (by decide) w⟩
  have HC := Aside0.mk hC
  have HL := Aside0.mk hl
  have HG := Aside0.mk hg
  clear hC hl hg
  go_enter Tryd.func47, Tryd.ntmps47
  go_upto_region 4 with (first | (go_at_call 54; (with_reducible refine NW.out.mono ?_); rintro e w1 ⟨rfl, hs1, hb1⟩; have S1 := Aside0.mk hs1; have B1 := Aside0.mk hb1; clear hs1 hb1))
  have hgl : g < w1.heap.size := by obtain ⟨cs, h1, _⟩ := S1.out.ls; exact blk_lt h1
  obtain ⟨fs, hfs⟩ : ∃ fs, fs = feed 168 (zer25, 0) (sd ++ [i, j]) := ⟨_, rfl⟩
  have B2 : Aside0 (Below w.heap.size w ((w1.alloc (.cells #[.int .u8 i, .int .u8 j] 5 (0, 0))).alloc (.cells #[.slice A 32 c, .slice (some ⟨w1.heap.size, 0, none⟩) 2 2] 22 (0, 0)))) := ⟨below_alloc (below_alloc B1.out _) _⟩
  have S2 : Sp ((w1.alloc (.cells #[.int .u8 i, .int .u8 j] 5 (0, 0))).alloc (.cells #[.slice A 32 c, .slice (some ⟨w1.heap.size, 0, none⟩) 2 2] 22 (0, 0))) g zer25 168 31 0 false := (S1.out.below (below_alloc (Below.refl _ _) (.cells #[.int .u8 i, .int .u8 j] 5 (0, 0)))).below (below_alloc (Below.refl _ _) _)
  have WR : Aside0 (Calls Tryd.prog 55 #[.pointer (some ⟨g, 0, none⟩), .slice (some ⟨w1.heap.size + 1, 0, none⟩) 2 2] ((w1.alloc (.cells #[.int .u8 i, .int .u8 j] 5 (0, 0))).alloc (.cells #[.slice A 32 c, .slice (some ⟨w1.heap.size, 0, none⟩) 2 2] 22 (0, 0))) fun e w'' => e = .returned .nilIface ∧ Sp w'' g fs.1 168 31 fs.2 false ∧ Kc g ((w1.alloc (.cells #[.int .u8 i, .int .u8 j] 5 (0, 0))).alloc (.cells #[.slice A 32 c, .slice (some ⟨w1.heap.size, 0, none⟩) 2 2] 22 (0, 0))) w'') := ⟨by
    have := SpWrite.calls g zer25 168 31 0 (by decide) (by decide) (some ⟨w1.heap.size + 1, 0, none⟩) 2 [sd, [i, j]] ((w1.alloc (.cells #[.int .u8 i, .int .u8 j] 5 (0, 0))).alloc (.cells #[.slice A 32 c, .slice (some ⟨w1.heap.size, 0, none⟩) 2 2] 22 (0, 0))) (lit_pts HC.out HL.out B1.out HG.out hgl) (by simp) (by
      intro x hx
      rcases List.mem_cons.mp hx with e | hx
      · rw [e, HL.out]; decide
      · rw [List.mem_singleton.mp hx]; simp) S2
    rw [show [sd, [i, j]].flatten = sd ++ [i, j] by simp, ← hfs] at this
    exact this⟩
  obtain ⟨ZC, hmk, hmr⟩ := make0i 256 (by decide)
  have MR := Aside0.mk hmr
  clear S2 hmr
  have hmk2 : ∀ W : World, (Instr.makeSlice 40 (.int .i64 0) (.int .i64 256)).run Tryd.prog W = .ok (.slice (some ⟨W.heap.size, 0, none⟩) 0 256) (W.alloc (.cells ZC 3 (0, 0))) := hmk
  clear hmk
  go_upto_region 6 with (first | (go_at_call 55; (with_reducible refine WR.out.mono ?_); rintro e w3 ⟨rfl, hs3, hk3⟩; have S3 := Aside0.mk hs3; have K3 := Aside0.mk hk3; have B3 := Aside0.mk (hk3.below w GE.out B2.out); clear hs3 hk3))
  have hg3 : g < w3.heap.size := by obtain ⟨cs, h1, _⟩ := S3.out.ls; exact blk_lt h1
  have R0 := MR.out w3 (g + 1) hg3
  have S4 : Aside0 (Sp (w3.alloc (.cells ZC 3 (0, 0))) g fs.1 168 31 fs.2 false) := ⟨S3.out.below (below_alloc (Below.refl _ _) _)⟩
  have B4 : Aside0 (Below w.heap.size w (w3.alloc (.cells ZC 3 (0, 0)))) := ⟨below_alloc B3.out _⟩
  obtain ⟨bs, hbs⟩ : ∃ bs, bs = sd ++ [i, j] := ⟨_, rfl⟩
  have HE : Aside0 (ev sd i j = evGo bs 1366 0 ++ List.replicate (256 - (evGo bs 1366 0).length) 0) := ⟨by rw [hbs]; rfl⟩
  have HF : Aside0 (fs = feed 168 (zer25, 0) bs) := ⟨by rw [hfs, hbs]⟩
  clear hmk2 hbs hfs hg3 hgl hc
  go_wp2
  go_loopg [9, 10] 1366 (fun kq v9 v10 w' => ∃ k t : Nat, v10 = .int .i64 (t : Int) ∧ Aside0 (t = 3 + 3 * k ∧ k + kq = 1366 ∧ evGo bs kq k = evGo bs 1366 0) ∧ Aside0 (Kd.R (Kd.int .i64) 3 w' (g + 1) (fun _ => True) v9 (evS bs k).1) ∧ Aside0 ((k = 0 ∧ Sp w' g fs.1 168 31 fs.2 false) ∨ (0 < k ∧ Sp w' g (evS bs k).2.1 168 31 (evS bs k).2.2 true)) ∧ Aside0 (Below w.heap.size w w'))
  case atStart => exact ⟨0, 3, rfl, ⟨rfl, rfl, rfl⟩, ⟨R0⟩, ⟨.inl ⟨rfl, S4.out⟩⟩, B4⟩
  case round =>
    clear R0 S4 B4
    obtain ⟨k, t, rfl, HJ, R1, S1, B1⟩ := hrel
    obtain ⟨A5, c5, rfl⟩ := Kd.R_slice R1.out
    obtain ⟨k1, k2, k3, k4⟩ := evS_ok bs k
    obtain ⟨os, hos⟩ : ∃ os, os = (evS bs k).1 := ⟨_, rfl⟩
    rw [← hos] at R1 k1 k2
    rw [← hos]
    by_cases ck : t < 4096 ∧ os.length < 256
    · have z1 : decide ((t : Int) < 4096) = true := decide_eq_true (by omega)
      have z1' : decide (t < 4096) = true := decide_eq_true ck.1
      have z2 : decide ((os.length : Int) < 256) = true := decide_eq_true (by omega)
      have z2' : decide (os.length < 256) = true := decide_eq_true ck.2
      cases gk with
      | zero => have := HJ.out; omega
      | succ kq =>
        obtain ⟨z, hz⟩ : ∃ z, z = sqz 168 3 (evS bs k).2 := ⟨_, rfl⟩
        obtain ⟨l1, l2, l3⟩ := sqz_ok 168 (by decide) 3 (evS bs k).2 k3 k4
        have zB := sqz_B 168 3 (evS bs k).2
        rw [← hz] at l1 zB
        have RD : Aside0 (Calls Tryd.prog 56 #[.pointer (some ⟨g, 0, none⟩), .int .i64 3] wr fun e w'' => ∃ A c, e = .returned (.slice A 3 c) ∧ Kd.R (Kd.int .u8) 5 w'' wr.heap.size (fun _ => True) (.slice A 3 c) z.1 ∧ Sp w'' g z.2.1 168 31 z.2.2 true ∧ Kc g wr w'') := ⟨by
          rcases S1.out with ⟨e0, hs⟩ | ⟨e0, hs⟩
          · subst e0
            obtain ⟨f1, f2⟩ := feed_ok 168 (by decide) bs (zer25, 0) List.length_replicate (show 0 < 168 by decide)
            rw [← HF.out] at f1 f2
            have := SpReadA.calls g fs.1 168 31 fs.2 (by decide) (Nat.le_of_lt f2) 3 (by decide) wr hs f2
            rw [show padW 168 31 (fs.1, fs.2) = (evS bs 0).2 by rw [evS, ← HF.out], ← hz] at this
            exact this
          · have := SpReadB.calls g (evS bs k).2.1 168 31 (evS bs k).2.2 (by decide) k4 3 (by decide) wr hs
            rw [show ((evS bs k).2.1, (evS bs k).2.2) = (evS bs k).2 from rfl, ← hz] at this
            exact this⟩
        obtain ⟨xs, hxs⟩ : ∃ xs, xs = unp3 z.1 := ⟨_, rfl⟩
        obtain ⟨x1, x2⟩ := unp3_ok z.1
        rw [← hxs] at x1 x2
        have HX := Aside0.mk (And.intro x1 x2)
        have UN : Aside0 (∀ A c w', Kd.R (Kd.int .u8) 5 w' wr.heap.size (fun _ => True) (.slice A 3 c) z.1 → Calls Tryd.prog 16 #[.int .i64 12, .slice A 3 c] w' fun e w'' => ∃ A' c', e = .returned (.slice A' 2 c') ∧ Kd.R (Kd.int .i64) 3 w'' w'.heap.size (fun _ => True) (.slice A' 2 c') xs ∧ Below w'.heap.size w' w'') := ⟨fun A c w' h => by
          obtain ⟨h1, h2, h3⟩ := Kd.R_reads' h
          have := bits_Unpack.calls 1000 12 A c z.1 xs w' (by rw [l1]; rw [l1] at h3; exact h3) (by rw [l1]; exact h2) (by rw [hxs]; exact unp3_f z.1 l1 zB)
          rw [l1] at this
          refine this.mono ?_
          rintro e w'' ⟨v, q1, q2, q3⟩
          obtain ⟨A', c', rfl⟩ := Kd.R_slice q2
          rw [x1] at q1 q2
          exact ⟨A', c', q1, q2, q3⟩⟩
        have HS : Aside0 ((evS bs (k + 1)).1 = evAdd os xs ∧ (evS bs (k + 1)).2 = z.2) := ⟨by rw [evS, ← hz, ← hos, ← hxs]; exact ⟨rfl, rfl⟩⟩
        have OK := Aside0.mk (And.intro k1 k2)
        have HCK : Aside0 (3 + 3 * k < 4096 ∧ (evS bs k).1.length < 256) := ⟨by rw [← hos, ← HJ.out.1]; exact ck⟩
        clear hz l1 l2 l3 zB hxs x1 x2 k1 k2 k3 k4 hos ck
        go_wp2_with (first | (go_at_call 16; (with_reducible refine (UN.out _ _ _ RZ.out).mono ?_); rintro e w3 ⟨A3, c3, rfl, hr3, hb3⟩; have RX := Aside0.mk (Kd.R_mono (ok' := fun k => w2.heap.size ≤ k ∧ k < w3.heap.size) (Kd.R_bound hr3) (fun k hk => ⟨hk.2.1, hk.2.2.1⟩)); have S3 := Aside0.mk (S2.out.below hb3); have R3 := Aside0.mk (Kd.R_below (Kd.R_mono (ok' := fun k => k < w2.heap.size ∨ w3.heap.size ≤ k) (Kd.R_bound R2.out) (fun k hk => Or.inl hk.2.2.1)) hb3); have B3 := Aside0.mk (below_step B2.out hb3); clear hr3 hb3) | (go_at_call 56; (with_reducible refine RD.out.mono ?_); rintro e w2 ⟨A2, c2, rfl, hr2, hs2, hk2⟩; have RZ := Aside0.mk hr2; have S2 := Aside0.mk hs2; have R2 := Aside0.mk (R_kci R1.out hk2 (Nat.lt_succ_self _)); have B2 := Aside0.mk (hk2.below w GE.out B1.out); clear hr2 hs2 hk2))
        obtain ⟨gx, cx, ex, _, _, _⟩ := Kd.R_form RX.out (by rw [HX.out.1]; decide)
        injection ex with ex1 ex2 ex3
        clear ex2
        subst ex1
        subst ex3
        have RX1 := RX
        clear RX
        have G3 : Aside0 (w3.heap.size ≤ w3.heap.size) := ⟨Nat.le_refl _⟩
        go_loopg [9, 39] 2 (fun kq v9 v39 w' => ∃ n : Nat, v39 = .int .i64 (n : Int) ∧ Aside0 (n + kq = 2) ∧ Aside0 (Kd.R (Kd.int .i64) 3 w' (g + 1) (fun k => k < w2.heap.size ∨ w3.heap.size ≤ k) v9 (evAdd os (xs.take n))) ∧ Aside0 (Kd.R (Kd.int .i64) 3 w' w2.heap.size (fun k => w2.heap.size ≤ k ∧ k < w3.heap.size) (.slice (some ⟨gx, 0, none⟩) 2 c3) xs) ∧ Aside0 (Sp w' g z.2.1 168 31 z.2.2 true) ∧ Aside0 (Below w.heap.size w w') ∧ Aside0 (w3.heap.size ≤ w'.heap.size))
        case atStart => exact ⟨0, rfl, ⟨rfl⟩, R3, RX1, S3, B3, G3⟩
        case round =>
          clear R3 RX1 S3 B3 G3
          obtain ⟨n, rfl, HI, R4, RX4, S4, B4, G4⟩ := hrel
          by_cases cn : n < 2
          · have y1 : decide ((n : Int) < 2) = true := decide_eq_true (by omega)
            have y1' : decide (n < 2) = true := decide_eq_true cn
            have y2 : ((n : Int) < 2) = True := eq_true (by omega)
            have y3 : (0 ≤ (n : Int)) = True := eq_true (by omega)
            have HCN := Aside0.mk cn
            cases gk with
            | zero => have := HI.out; omega
            | succ k2 =>
              obtain ⟨hx1, _⟩ := Kd.R_celln 0 RX4.out (n : Int) (by omega) (by omega)
              rw [Int.toNat_natCast] at hx1
              have hnl : n < xs.length := by rw [HX.out.1]; exact cn
              have hrd : rdOf 0 xs (n : Int) = xs[n] := by
                unfold rdOf
                rw [Int.toNat_natCast, List.getD_eq_getElem?_getD, List.getElem?_eq_getElem hnl]
                rfl
              obtain ⟨x, hx⟩ : ∃ x, x = xs[n] := ⟨_, rfl⟩
              rw [hrd, ← hx] at hx1
              obtain ⟨o1, ho1⟩ : ∃ o1, o1 = evAdd os (xs.take n) := ⟨_, rfl⟩
              have HA : Aside0 (evAdd os (xs.take (n + 1)) = if x < 3329 ∧ o1.length < 256 then o1 ++ [x] else o1) := ⟨by rw [List.take_succ_eq_append_getElem hnl, evAdd_snoc, ← hx, ← ho1]⟩
              rw [← ho1] at R4
              clear hrd hx hnl ho1
              obtain ⟨A7, c7, rfl⟩ := Kd.R_slice R4.out
              by_cases cx1 : x < 3329
              · have x1 : decide (x < 3329) = true := decide_eq_true cx1
                by_cases cx2 : o1.length < 256
                · have x2 : decide ((o1.length : Int) < 256) = true := decide_eq_true (by omega)
                  have x2' : decide (o1.length < 256) = true := decide_eq_true cx2
                  have HA2 : Aside0 (evAdd os (xs.take (n + 1)) = o1 ++ [x]) := ⟨by rw [HA.out, if_pos ⟨cx1, cx2⟩]⟩
                  have HO := Aside0.mk cx2
                  have HGW : Aside0 (g + 1 ≤ wr.heap.size) := ⟨by obtain ⟨cs, h1, _⟩ := S4.out.ls; exact blk_lt h1⟩
                  clear cx1 cx2
                  go_wp2_with (((with_reducible refine gate_builtin (b := .append) (xs := #[.tmp 50, .tmp 52]) rfl ?_); at_builtin; refine Kd.R_append (Kd.int .i64) (w0 := wr) (g + 1) rfl (.tmp 50) (.tmp 52) 40 3 (.int .i64 0) 8 rfl Tryd.underlying40 info3 rfl (by decide) (by decide) (.slice A7 o1.length c7) o1 x [.int .i64 x] (fun k => k < w2.heap.size ∨ w3.heap.size ≤ k) (fun _ => False) rfl rfl rfl (fun _ h => h.elim) (fun k hk => Or.inr (Nat.le_trans G4.out hk)) R4.out (Below.refl _ _) HGW.out (by have := HO.out; omega) ?_; intro v7 w7 ho7 hb7 hg7 hat7; have R7 := Aside0.mk ho7; have B7 := Aside0.mk (B4.out.trans (hb7.mono (Nat.le_succ_of_le GE.out))); have S7 := Aside0.mk (Sp.mk (S4.out.ls.far (hb7.block g (Nat.lt_succ_self _))) S4.out.len); have G7 := Aside0.mk (Nat.le_trans G4.out hb7.size); have X7 := Aside0.mk (Kd.R_grown RX4.out hg7 (fun k hk he => by rcases R4.out.1 k he.symm with h | h <;> omega)); clear ho7 hb7 hg7 hat7))
                  go_roundg k2
                  case measure => omega
                  case rel => exact ⟨n + 1, (by
          have hw : wrap64 ((n : Int) + 1) = ((n + 1 : Nat) : Int) := by have := HCN.out; unfold wrap64; omega
          first | rfl | (rw [← hw]; rfl) | (simp [*]; done)), ⟨by have := HI.out; omega⟩, ⟨by rw [HA2.out]; exact R7.out⟩, X7, S7, B7, G7⟩
                · have x2 : decide ((o1.length : Int) < 256) = false := decide_eq_false (by omega)
                  have x2' : decide (o1.length < 256) = false := decide_eq_false cx2
                  have HA2 : Aside0 (evAdd os (xs.take (n + 1)) = o1) := ⟨by rw [HA.out, if_neg (fun h => cx2 h.2)]⟩
                  clear cx1 cx2
                  go_wp2
                  go_roundg k2
                  case measure => omega
                  case rel => exact ⟨n + 1, (by
          have hw : wrap64 ((n : Int) + 1) = ((n + 1 : Nat) : Int) := by have := HCN.out; unfold wrap64; omega
          first | rfl | (rw [← hw]; rfl) | (simp [*]; done)), ⟨by have := HI.out; omega⟩, ⟨by rw [HA2.out]; exact R4.out⟩, RX4, S4, B4, G4⟩
              · have x1 : decide (x < 3329) = false := decide_eq_false cx1
                have HA2 : Aside0 (evAdd os (xs.take (n + 1)) = o1) := ⟨by rw [HA.out, if_neg (fun h => cx1 h.1)]⟩
                clear cx1
                go_wp2
                go_roundg k2
                case measure => omega
                case rel => exact ⟨n + 1, (by
          have hw : wrap64 ((n : Int) + 1) = ((n + 1 : Nat) : Int) := by have := HCN.out; unfold wrap64; omega
          first | rfl | (rw [← hw]; rfl) | (simp [*]; done)), ⟨by have := HI.out; omega⟩, ⟨by rw [HA2.out]; exact R4.out⟩, RX4, S4, B4, G4⟩
          · have y1 : decide ((n : Int) < 2) = false := decide_eq_false (by omega)
            have y1' : decide (n < 2) = false := decide_eq_false cn
            have R5 : Aside0 (Kd.R (Kd.int .i64) 3 wr (g + 1) (fun _ => True) _ (evS bs (k + 1)).1) := ⟨by
              rw [HS.out.1]
              have := R4.out
              rw [List.take_of_length_le (by rw [HX.out.1]; omega)] at this
              exact Kd.R_mono this (fun _ _ => trivial)⟩
            have et : wrap64 ((t : Int) + 3) = ((t + 3 : Nat) : Int) := by have := HJ.out; unfold wrap64; omega
            go_wp2
            go_roundg kq
            case measure => omega
            case rel => exact ⟨k + 1, t + 3, (by first | rfl | (rw [← et]; rfl) | (simp [*]; done)), ⟨by have := HJ.out.1; omega, by have := HJ.out.2.1; omega, by
              have := HJ.out.2.2
              rw [← this]
              rw [evGo, if_pos]
              exact HCK.out⟩, R5, ⟨.inr ⟨Nat.succ_pos _, by rw [HS.out.2]; exact S4.out⟩⟩, B4⟩
    · have HEND : Aside0 (evGo bs 1366 0 = os) := ⟨by
        rw [← HJ.out.2.2, hos]
        cases gk with
        | zero => rfl
        | succ kq =>
          rw [evGo, if_neg]
          have := HJ.out.1
          rw [← hos]
          omega⟩
      have OL := Aside0.mk k1
      clear hos k1 k2 k3 k4
      have zc : (decide ((t : Int) < 4096) = true ∧ decide ((os.length : Int) < 256) = false) ∨ decide ((t : Int) < 4096) = false := by
        by_cases h : t < 4096
        · exact .inl ⟨decide_eq_true (by omega), decide_eq_false (by omega)⟩
        · exact .inr (decide_eq_false (by omega))
      have hgw : g + 1 ≤ wr.heap.size := by
        rcases S1.out with ⟨_, h⟩ | ⟨_, h⟩ <;> (obtain ⟨cs, h1, _⟩ := h.ls; exact blk_lt h1)
      have HGW := Aside0.mk hgw
      clear hgw ck
      obtain ⟨z, hz⟩ : ∃ z, z = 256 - os.length := ⟨_, rfl⟩
      have ez : wrap64 (256 - (os.length : Int)) = (z : Int) := by rw [hz]; have := OL.out; unfold wrap64; omega
      have HZ : Aside0 (ev sd i j = os ++ List.replicate z 0 ∧ (os ++ List.replicate z (0 : Int)).length = 256 ∧ z ≤ 256) := ⟨by rw [HE.out, HEND.out, hz]; refine ⟨rfl, ?_, by omega⟩; rw [List.length_append, List.length_replicate]; have := OL.out; omega⟩
      have ez0 : wrap64 (z : Int) = (z : Int) := by have := HZ.out.2.2; unfold wrap64; omega
      have EZ := Aside0.mk ez
      clear hz ez
      rcases zc with ⟨z1, z2⟩ | z1
      all_goals
        go_upto_region 15 with (fail)
        go_wp2_with ((at_builtin; refine Kd.R_append_zeros (Kd.int .i64) (w0 := wr) (g + 1) rfl (.tmp 55) (.tmp 58) 40 3 3 (.int .i64 0) 8 rfl Tryd.underlying40 Tryd.underlying3 (by kernel_rfl) rfl (by decide) (by decide) (.slice A5 os.length c5) os 0 (kx := .i64) (wrap64 (256 - (os.length : Int))) (fun _ => True) rfl rfl rfl (fun _ _ => trivial) R1.out (by rw [EZ.out]; exact Int.natCast_nonneg _) (Below.refl _ _) HGW.out (by rw [EZ.out]; have := HZ.out.2; have := OL.out; omega) ?_; intro v6 w6 ho6 hb6 hg6 hat6; rw [EZ.out, Int.toNat_natCast] at ho6; obtain ⟨A6, c6, rfl⟩ := Kd.R_slice ho6; rw [HZ.out.2.1] at ho6 ⊢; have R6 := Aside0.mk ho6; have B6 := Aside0.mk (B1.out.trans (hb6.mono (Nat.le_succ_of_le GE.out))); clear ho6 hb6 hg6 hat6))
        go_ret2
        exact ⟨A6, c6, rfl, by rw [HZ.out.1]; exact Kd.R_lower R6.out (Nat.le_succ_of_le GE.out), B6.out⟩
end

end Go.Proofs.YtkdfcgihgndnnaaDoor.PPK
end
section
namespace Go.Proofs.YtkdfcgihgndnnaaDoor.PPK
open Go.RowKit Go.Proofs.YtkdfcgihgndnnaaDoorW.PrintWords Go.Proofs.YtkdfcgihgndnnaaDoorW.PrintLast Go.Proofs.YtkdfcgihgndnnaaDoorW.PrintMore
attribute [local go_sem] max2_int min2_int max_two min_two max_three min_three max_four min_four
set_option linter.unusedVariables false
set_option linter.unusedSimpArgs false
open Go.Shelf
attribute [local go_sem] Oper.semAt_some
section
/-- A chunk of q bytes, the k-th. -/
def chv (A : Option Addr) (q k : Nat) : Value := .slice (A.map (·.add (k * q))) q q
theorem take_fin {m k : Nat} (h : k < m) : (List.finRange m).take (k + 1) = (List.finRange m).take k ++ [⟨k, h⟩] := by
  rw [List.take_succ_eq_append_getElem (by rw [List.length_finRange]; exact h)]
  congr 2
  simp
/-- Two blocks stay. -/
def KeepS (Bs Bn : Nat) (W W' : World) : Prop := W'.heap[Bs]? = W.heap[Bs]? ∧ W'.heap[Bn]? = W.heap[Bn]?
theorem KeepS.refl (Bs Bn : Nat) (W : World) : KeepS Bs Bn W W := ⟨rfl, rfl⟩
theorem KeepS.trans {Bs Bn : Nat} {A B C : World} (h : KeepS Bs Bn A B) (k : KeepS Bs Bn B C) : KeepS Bs Bn A C := ⟨k.1.trans h.1, k.2.trans h.2⟩
theorem cell_same {W W' : World} {b : Nat} (h : W'.heap[b]? = W.heap[b]?) : W'.cell? ⟨b, 0, none⟩ = W.cell? ⟨b, 0, none⟩ := by simp [World.cell?, h]
theorem KeepS.put {Bs Bn : Nat} {w : World} (hs : Bs < w.heap.size) (hn : Bn < w.heap.size) (W : World) (l : Nat) (o o' : Obj) (hl : w.heap.size ≤ l) (h : W.heap[l]? = some o) (hc : o.isCells = false) (hk : o.isWalk = false) : KeepS Bs Bn W (W.putObj l o') := by
  have B := belowK_b (n₀ := w.heap.size) (w := w) (Nat.le_refl _) W l o o' hl h hc hk
  exact ⟨B.block _ hs, B.block _ hn⟩
set_option maxRecDepth 100000 in
set_option maxHeartbeats 1000000 in
theorem Chunk.calls (A : Option Addr) (L c : Nat) (q : Nat) (hq : 1 ≤ q) (w : World) : Calls Tryd.prog 58 #[.slice A L c, .int .i64 (q : Int)] w fun e w' => e = .returned (.func (.func 76) #[] #[.pointer (some ⟨w.heap.size, 0, none⟩), .pointer (some ⟨w.heap.size + 1, 0, none⟩)]) ∧ w' = (w.alloc (.cells #[.slice A L c] 22 (0, 0))).alloc (.cells #[.int .i64 (q : Int)] 3 (0, 0)) := by
  have h1 : decide ((q : Int) < 1) = false := decide_eq_false (by omega)
  go_enter Tryd.func58, Tryd.ntmps58
  go_wp2
  go_ret
  exact ⟨rfl, rfl⟩
set_option maxRecDepth 100000 in
set_option maxHeartbeats 2000000 in
theorem chunk1_in (n : Nat) (hn : 1 ≤ n) (l Bs Bn : Nat) (A : Option Addr) (m q c : Nat) (hq : 1 ≤ q) (hr : m * q ≤ 1000000) (hq2 : q ≤ 1000000) (hc : m * q ≤ c) (J Jx : List (Fin m) → World → Prop) (W : World) (hJ : AbidesFrom W.heap.size J)
    (hY : ∀ pre x W, J pre W → pre.length < m → YieldAt Fence.wide (n - 1) Tryd.prog l #[chv A q x.val] W fun e W' =>
      (e = .returned (.bool true) ∧ J (pre ++ [x]) W' ∧ KeepS Bs Bn W W') ∨ (e = .returned (.bool false) ∧ Jx (pre ++ [x]) W'))
    (hBs : W.cell? ⟨Bs, 0, none⟩ = some (.slice A (m * q) c)) (hBn : W.cell? ⟨Bn, 0, none⟩ = some (.int .i64 (q : Int))) (h0 : J [] W) :
    CallsIn Fence.wide n Tryd.prog 76 #[.func (.yield l) #[] #[], .pointer (some ⟨Bs, 0, none⟩), .pointer (some ⟨Bn, 0, none⟩)] W fun e W' => (∃ v, e = .returned v) ∧
      ((∃ ys, ys = List.finRange m ∧ J ys W') ∨ (∃ pre, (∃ k, pre = (List.finRange m).take k) ∧ Jx pre W')) := by
  refine callsIn_of_wp Tryd.func76 rfl trivial ?_ rfl
  simp only [Tryd.ntmps76, List.size_toArray, List.length_cons, List.length_nil, Nat.reduceAdd, Nat.reduceSub, Array.replicate_succ, Array.replicate_zero, List.push_toArray, List.append_toArray, List.nil_append, List.cons_append]
  have HY := Aside0.mk hY
  have HJ := Aside0.mk hJ
  clear hJ
  clear hY
  obtain ⟨L, hL⟩ : ∃ L, L = m * q := ⟨_, rfl⟩
  rw [← hL] at hBs hr hc
  have HL := Aside0.mk hL
  clear hL
  gi_wp2
  gi_loopw [4] (fun i wr => ∃ k t : Nat, i = .int .i64 (t : Int) ∧ Aside0 (t = k * q ∧ k ≤ m) ∧ J ((List.finRange m).take k) wr ∧ KeepS Bs Bn W wr)
    (fun i _ => L + q - (intOf i).toNat)
  case atStart => exact ⟨0, 0, rfl, ⟨by simp⟩, h0, KeepS.refl _ _ _⟩
  case round =>
    obtain ⟨k, t, rfl, ⟨ht, hk⟩, hJs, hnx⟩ := hrel
    have hBs' := (cell_same hnx.1).trans hBs
    have hBn' := (cell_same hnx.2).trans hBn
    by_cases hlt : k < m
    · have hkq : t + q ≤ L := by
        rw [HL.out, ht]
        calc k * q + q = (k + 1) * q := (Nat.succ_mul k q).symm
          _ ≤ m * q := Nat.mul_le_mul_right q hlt
      have hcond : decide ((t : Int) < (L : Int)) = true := decide_eq_true (by omega)
      have HT := Aside0.mk ht
      clear ht
      gi_wp2
      refine wpIn_wide.2 ?_
      go_big_quiet (fail)
      have hJ2 : J ((List.finRange m).take k) (wr.drewN nq) := HJ.out _ wr _ none hJs ⟨rfl, rfl, rfl, Nat.le_refl _, fun _ _ _ => rfl⟩ (fun r e => by cases e)
      have B2 : KeepS Bs Bn wr (wr.drewN nq) := ⟨rfl, rfl⟩
      obtain ⟨fn, tmps, assign, body, hy, hR⟩ := HY.out _ ⟨k, hlt⟩ (wr.drewN nq) hJ2 (by rw [List.length_take, List.length_finRange]; omega)
      dsimp only [chv] at hy
      rw [← HT.out] at hy
      have e1 : t + q - t = q := by omega
      have e2 : (t + q = t) = False := eq_false (by omega)
      gi_wp2
      refine hR.mono ?_
      rintro e W3 (⟨rfl, hJ3, hk3⟩ | ⟨rfl, hJx3⟩)
      · have hB3 := hnx.trans (B2.trans hk3)
        have hBn3 := (cell_same hB3.2).trans hBn
        gi_wp2
        go_roundw
        case rel => exact ⟨k + 1, t + q, (by first | rfl | (simp [*]; done)), ⟨by rw [HT.out, Nat.succ_mul], hlt⟩, by rw [take_fin hlt]; exact hJ3, hB3⟩
        case measure => simp [intOf]; omega
      · gi_wp2
        refine bodyPost_ret (results_none rfl _ _ _) rfl ?_
        exact ⟨⟨_, rfl⟩, .inr ⟨_, ⟨k + 1, (take_fin hlt).symm⟩, hJx3⟩⟩
    · have ek : k = m := by omega
      have et : t = L := by rw [HL.out, ht, ek]
      have EK := Aside0.mk ek
      clear ht ek
      subst et
      gi_wp2
      go_end0
      exact ⟨⟨_, rfl⟩, .inl ⟨_, rfl, by have := hJs; rwa [EK.out, List.take_of_length_le (by rw [List.length_finRange]; exact Nat.le_refl _)] at this⟩⟩
/-- slices.Chunk's closure hands back all chunks, or the first few. -/
theorem Chunk.stops (n : Nat) (hn : 1 ≤ n) (Bs Bn : Nat) (A : Option Addr) (m q c : Nat) (hq : 1 ≤ q) (hr : m * q ≤ 1000000) (hq2 : q ≤ 1000000) (hc : m * q ≤ c) (w : World) (hBs : w.cell? ⟨Bs, 0, none⟩ = some (.slice A (m * q) c)) (hBn : w.cell? ⟨Bn, 0, none⟩ = some (.int .i64 (q : Int))) (hb1 : Bs < w.heap.size) (hb2 : Bn < w.heap.size) :
    SeqStopsK Fence.wide n Tryd.prog 76 #[.pointer (some ⟨Bs, 0, none⟩), .pointer (some ⟨Bn, 0, none⟩)] (fun x : Fin m => #[chv A q x.val]) (KeepS Bs Bn) (fun ys => ys = List.finRange m) (fun pre => ∃ k, pre = (List.finRange m).take k) m w := fun l J Jx W hW hJ _ hY h0 =>
  chunk1_in n hn l Bs Bn A m q c hq hr hq2 hc J Jx W hJ hY ((hW.cell (p := ⟨Bs, 0, none⟩) hb1).trans hBs) ((hW.cell (p := ⟨Bn, 0, none⟩) hb2).trans hBn) h0
end

end Go.Proofs.YtkdfcgihgndnnaaDoor.PPK
end
section
namespace Go.Proofs.YtkdfcgihgndnnaaDoor.PPA
open Go.RowKit Go.Proofs.YtkdfcgihgndnnaaDoorW.PrintWords Go.Proofs.YtkdfcgihgndnnaaDoorW.PrintLast Go.Proofs.YtkdfcgihgndnnaaDoorW.PrintMore Go.Proofs.YtkdfcgihgndnnaaDoorW.PrintZip
attribute [local go_sem] max2_int min2_int max_two min_two max_three min_three max_four min_four   -- for this text's walks alone
set_option linter.unusedVariables false
set_option linter.unusedSimpArgs false



def errW : Option Int → Value
 | none => .nilIface
 | some c => .iface 0 (.int .i64 c)
theorem errW_none : errW none = .nilIface := rfl
theorem errW_some (c : Int) : errW (some c) = .iface 0 (.int .i64 c) := rfl

/-! ### words of this session's own -/
theorem own_goesV {P : Program} {ops : Array Oper} {Q : Exit → Act → World → Prop} {oi : Oper} {N : Option Tmp} {a : Act} {w : World} {K : Act → World → Prop} {f : FuncId} {fn : Func} {o : Operand} {ys : Array Operand} {ts : Array TypeId} (hf : P.funcs[f]? = some fn) (hname : (fn.name == "runtime.NumGoroutine") = false) (hb : fn.body.isSome = true) (args : Array Value)
  (hw : Region.wanted oi (yielded ops a.tmps) = true) (hN : oi.dst = N) (hop : oi.op = .call { callee := .value o, args := ys, argTypes := ts }) (ho : a.eval o = .func (.func f) #[] #[]) (hargs : ys.map a.eval = args)
  (h : Calls P f args w fun e w' => ∃ v, e = .returned v ∧ K (a.put N v) w') : if Region.wanted oi (yielded ops a.tmps) = true then Oper.wp P oi a w K Q else K (a.put N undef) w := by
 refine call_ f args hw hN ?_ h
 have he := enters_ hf hname hb args w
 unfold execOp
 simp [hop, resolve, ho, Deferred.ofValue, invoke, hargs, he]
theorem own_C_none {α : Type} {d : Kd α} {w : World} {A : Option Addr} {n : Nat} {xs : List α} (hA : A = none) (h : d.C w A n xs) : xs = [] := by
 obtain ⟨h1, _, h3⟩ := h
 cases Nat.eq_zero_or_pos n with
 | inl h0 => exact List.eq_nil_of_length_eq_zero (h1.trans h0)
 | inr h0 => obtain ⟨ad, ha, _⟩ := h3 h0; rw [hA] at ha; cases ha
theorem own_ite {c : Prop} [Decidable c] {a b : Prop} (h : if c then a else b) : if c then a else b := h
theorem own_upon {P : Program} {o : Oper} {a : Act} {nx : Act → World → Prop} {Q : Exit → Act → World → Prop} {r : Result Next} (h : Oper.upon P o a nx Q r) : Oper.upon P o a nx Q r := h
theorem own_cond {P : Program} {c : Operand} {x y : Code} {Q : Exit → Act → World → Prop} {a : Act} {w : World} (h : (Code.cond c x y).wp P Q a w) : (Code.cond c x y).wp P Q a w := h
theorem own_condT {P : Program} {c : Operand} {x y : Code} {Q : Exit → Act → World → Prop} {a : Act} {w : World} (hc : a.eval c = .bool true) (h : x.wp P Q a w) : (Code.cond c x y).wp P Q a w := wp_cond_split hc (fun _ => h) (fun e => by cases e)
theorem own_condF {P : Program} {c : Operand} {x y : Code} {Q : Exit → Act → World → Prop} {a : Act} {w : World} (hc : a.eval c = .bool false) (h : y.wp P Q a w) : (Code.cond c x y).wp P Q a w := wp_cond_split hc (fun e => by cases e) (fun _ => h)
theorem own_iteT {α : Sort _} {a b : α} : (if true = true then a else b) = a := if_pos rfl
theorem own_iteF {α : Sort _} {a b : α} : (if false = true then a else b) = b := if_neg (by decide)
/-! ### arguments opened, kind by kind -/
def Fits (P : Program) (t : TypeId) {H : Type} (d : DataW H) : Prop := ∀ n ∈ d.weights P t, n ≤ 140737488351232
theorem weights_mem_all {H : Type} {P : Program} {e : TypeId} {d : DataW H} {n : Nat} (hn : n ∈ d.weights P e) : ∀ {l : List (DataW H)}, d ∈ l → n ∈ DataW.weightsAll P e l
 | x :: r, h => by
  simp only [DataW.weightsAll, List.mem_append]
  rcases List.mem_cons.1 h with z | z
  ·subst z; exact .inl hn
  ·exact .inr (weights_mem_all hn z)
def Opens (P : Program) {α : Type} (d : Kd α) (Q : α → Prop) (t : TypeId) : Prop :=
 ∀ (H : Type) (enc : TypeId × Value → H) (w : World) (fuel : Nat) (cs : List Value) (x : DataW H × List MemPlace), DataW.trod enc P w 0 (fun _ => true) true fuel t cs = some x → Fits P t x.1 → ∃ p, d.K w p cs ∧ Q p
theorem Opens.int {P : Program} {t : TypeId} {k : IntKind} (hu : P.underlying t = some (.int k)) : Opens P (Kd.int k) (fun n => (Lit.int k n).wf = true) t := fun _ _ _ _ _ _ h _ => by
 obtain ⟨n, rfl, _, hw⟩ := DataW.trod_int hu h
 exact ⟨n, rfl, hw⟩
theorem Opens.bool {P : Program} {t : TypeId} (hu : P.underlying t = some .bool) : Opens P Kd.bool (fun _ => True) t := fun _ _ _ _ _ _ h _ => by
 obtain ⟨b, rfl, _⟩ := DataW.trod_bool hu h
 exact ⟨b, rfl, trivial⟩
theorem Opens.string {P : Program} {t : TypeId} (hu : P.underlying t = some .string) : Opens P Kd.string (fun s => s.size ≤ 140737488351232) t := fun _ _ _ _ _ _ h hf => by
 obtain ⟨s, rfl, rfl, hs⟩ := DataW.trod_string hu h
 exact ⟨s, rfl, by simpa using hf s.data.toList.length (by simp [DataW.weights])⟩
theorem opens_list {α : Type} (d : Kd α) (Q : α → Prop) (w : World) (a : Addr) (sz : Nat) (hsz : d.sz = sz) : ∀ len, (∀ i, i < len → ∃ p cs, d.K w p cs ∧ Q p ∧ ∀ j u, cs[j]? = some u → w.cell? (a.add (i * sz + j)) = some u) →
  ∃ xs : List α, xs.length = len ∧ (∀ x ∈ xs, Q x) ∧ ∀ j p, xs[j]? = some p → ∃ c, c.length = sz ∧ d.K w p c ∧ ∀ i u, c[i]? = some u → w.cell? (a.add (j * sz + i)) = some u
 | 0, _ => ⟨[], rfl, fun _ h => (List.not_mem_nil h).elim, fun _ _ h => by simp at h⟩
 | len + 1, h => by
  obtain ⟨xs, hl, hq, hx⟩ := opens_list d Q w a sz hsz len (fun i hi => h i (Nat.lt_succ_of_lt hi))
  obtain ⟨p, cs, hk, hp, hc⟩ := h len (Nat.lt_succ_self len)
  refine ⟨xs ++ [p], by rw [List.length_append, hl]; rfl, fun x hm => ?_, fun j q hj => ?_⟩
  ·rcases List.mem_append.1 hm with z | z
   ·exact hq x z
   ·rw [List.mem_singleton.1 z]; exact hp
  ·rcases Nat.lt_or_ge j xs.length with z | z
   ·rw [List.getElem?_append_left z] at hj
    exact hx j q hj
   ·rw [List.getElem?_append_right z] at hj
    obtain ⟨hj1, hj2⟩ := List.getElem?_eq_some_iff.1 hj
    have hj0 : j - xs.length = 0 := by simpa using hj1
    have e : j = len := by omega
    subst e
    have hq' : q = p := by rw [← hj2]; simp [hj0]
    subst hq'
    exact ⟨cs, (d.K_len hk).trans hsz, hk, hc⟩
theorem Opens.slice {P : Program} {α : Type} {d : Kd α} {Q : α → Prop} {t e : TypeId} (hu : P.underlying t = some (.slice e)) (hc : P.cellsOf e = d.sz) {B : Nat} (hB : P.bytesOf e = B) (h : Opens P d Q e) : Opens P (Kd.slice e d) (fun xs => xs.length ≤ maxLen ∧ xs.length * B ≤ 140737488351232 ∧ ∀ x ∈ xs, Q x) t := fun H enc w fuel cs x hx hf => by
 rcases Go.Deep.open_slice hu hx with ⟨rfl, _⟩ | ⟨a, len, cap, m, n, D, Pl, rfl, _, hl, hm, hmm, rfl, hi⟩
 ·exact ⟨[], ⟨none, 0, rfl, Nat.le_refl _, Kd.C_nil _ _⟩, Nat.zero_le _, by simp, fun _ z => by cases z⟩
 ·have hmc : m = cap := hmm
  obtain ⟨xs, h1, h2, h3⟩ := opens_list d Q w a (P.cellsOf e) hc.symm len (fun i hil => by
   obtain ⟨cs', hcs, ht⟩ := hi i (by omega)
   obtain ⟨p, hk, hq⟩ := h H enc w n cs' _ ht (fun q hq => hf q (by
    simp only [DataW.weights, hu, List.mem_cons, List.mem_append]
    exact .inr (.inl (weights_mem_all hq (List.mem_map.2 ⟨i, List.mem_range.2 hil, rfl⟩)))))
   obtain ⟨_, hcl, hat⟩ := World.cells?_some hcs
   refine ⟨p, cs', hk, hq, fun j u hj => ?_⟩
   have hjl : j < P.cellsOf e := by have := (List.getElem?_eq_some_iff.1 hj).1; omega
   have := hat j hjl
   rw [← Go.Deep.add_add, this, hj])
  subst h1
  have hw : xs.length * B ≤ 140737488351232 := by
   refine Nat.le_trans ?_ (hf _ (by simp only [DataW.weights, hu, List.mem_cons]; exact .inl rfl))
   rw [hB]
   exact Nat.mul_le_mul_right _ (by simp)
  refine ⟨xs, ⟨some a, cap, rfl, hl, rfl, Nat.le_trans (Nat.le_trans hl hm) (by decide), fun _ => ⟨a, rfl, fun j p hj => ?_⟩⟩, Nat.le_trans hl hm, hw, h2⟩
  obtain ⟨c, c1, c2, c3⟩ := h3 j p hj
  rw [hc] at c1 c3
  exact ⟨c, c1, c2, c3⟩
/-- Types in line: each one's cells, one behind the other. -/
def Segs {H : Type} (enc : TypeId × Value → H) (P : Program) (w : World) (n : Nat) : List TypeId → List Value → Prop
 | [], cs => cs = []
 | t :: ts, cs => (∃ y, DataW.trod enc P w 0 (fun _ => true) true n t (cs.take (P.cellsOf t)) = some y ∧ Fits P t y.1) ∧ Segs enc P w n ts (cs.drop (P.cellsOf t))
def OpensL (P : Program) {α : Type} (d : Kd α) (Q : α → Prop) (ts : List TypeId) : Prop :=
 ∀ (H : Type) (enc : TypeId × Value → H) (w : World) (n : Nat) (cs : List Value), Segs enc P w n ts cs → ∃ p, d.K w p cs ∧ Q p
theorem OpensL.one {P : Program} {α : Type} {d : Kd α} {Q : α → Prop} {t : TypeId} (h : Opens P d Q t) : OpensL P d Q [t] := fun H enc w n cs hs => by
 obtain ⟨⟨y, hy, hf⟩, hd⟩ := hs
 obtain ⟨p, hk, hq⟩ := h H enc w n _ y hy hf
 refine ⟨p, ?_, hq⟩
 have e : cs.take (P.cellsOf t) = cs := by
  have := List.take_append_drop (P.cellsOf t) cs
  rw [show cs.drop (P.cellsOf t) = [] from hd, List.append_nil] at this
  exact this
 rw [e] at hk; exact hk
theorem OpensL.cons {P : Program} {α β : Type} {a : Kd α} {b : Kd β} {Qa : α → Prop} {Qb : β → Prop} {t : TypeId} {ts : List TypeId} (h : Opens P a Qa t) (hs : OpensL P b Qb ts) : OpensL P (Kd.pair a b) (fun x => Qa x.1 ∧ Qb x.2) (t :: ts) := fun H enc w n cs hg => by
 obtain ⟨⟨y, hy, hf⟩, hd⟩ := hg
 obtain ⟨p, hk, hq⟩ := h H enc w n _ y hy hf
 obtain ⟨r, hk2, hq2⟩ := hs H enc w n _ hd
 exact ⟨(p, r), ⟨_, _, (List.take_append_drop _ _).symm, hk, hk2⟩, hq, hq2⟩
def okOff (P : Program) : Nat → List Field → Option Nat
 | off, [] => some off
 | off, f :: r => if f.offset = off then okOff P (off + P.cellsOf f.type) r else none
theorem segs_of {H : Type} (enc : TypeId × Value → H) (P : Program) (w : World) (n : Nat) (cs : List Value) : ∀ (fs : List Field) (off : Nat), okOff P off fs = some cs.length →
  (∀ f ∈ fs, ∃ y, DataW.trod enc P w 0 (fun _ => true) true n f.type ((cs.drop f.offset).take (P.cellsOf f.type)) = some y ∧ Fits P f.type y.1) → Segs enc P w n (fs.map (·.type)) (cs.drop off)
 | [], off, ho, _ => by
  have e : off = cs.length := Option.some.inj ho
  show cs.drop off = []
  rw [e, List.drop_length]
 | f :: r, off, ho, h => by
  unfold okOff at ho
  by_cases c : f.offset = off
  ·rw [if_pos c] at ho
   obtain ⟨y, hy⟩ := h f List.mem_cons_self
   rw [c] at hy
   refine ⟨⟨y, hy.1, hy.2⟩, ?_⟩
   have := segs_of enc P w n cs r (off + P.cellsOf f.type) ho (fun g hg => h g (List.mem_cons_of_mem _ hg))
   rw [List.drop_drop]; exact this
  ·rw [if_neg c] at ho; cases ho
theorem Opens.struct {P : Program} {α : Type} {d : Kd α} {Q : α → Prop} {t : TypeId} {fs : Array Field} (hu : P.underlying t = some (.struct fs)) (hoff : okOff P 0 fs.toList = some (P.cellsOf t)) (h : OpensL P d Q (fs.toList.map (·.type))) : Opens P d Q t := fun H enc w fuel cs x hx hfit => by
 obtain ⟨xs, n, _, rfl, hl, hxl, hf⟩ := DataW.trod_struct hu hx
 have hs := segs_of enc P w n cs fs.toList 0 (by rw [hoff, hl]) (fun f hm => by
  obtain ⟨i, hi⟩ := List.mem_iff_getElem?.1 hm
  have hi2 : fs[i]? = some f := by simpa using hi
  have hlt : i < xs.length := by
   have := (Array.getElem?_eq_some_iff.1 hi2).1
   omega
  refine ⟨xs[i], (hf i f hi2).trans (List.getElem?_eq_getElem hlt), fun q hq => hfit q ?_⟩
  simp only [DataW.weights, hu]
  exact DataW.weights_mem_each (j := i) (by simp [hi2]) (by simp [hlt]) q hq)
 exact h H enc w n cs hs
theorem Opens.iso {P : Program} {α β : Type} {d : Kd α} {Q : α → Prop} {t : TypeId} (f : β → α) (g : α → β) (hfg : ∀ x, f (g x) = x) (h : Opens P d Q t) : Opens P (Kd.iso d f) (fun y => Q (f y)) t := fun H enc w fuel cs x hx hf => by
 obtain ⟨p, hk, hq⟩ := h H enc w fuel cs x hx hf
 refine ⟨g p, ?_, ?_⟩
 ·show d.K w (f (g p)) cs
  rw [hfg]; exact hk
 ·show Q (f (g p))
  rw [hfg]; exact hq
/-! ### rows with spare room that is marked: a row of the call's own, and the same row three places longer -/
def lendV : Value → Value
 | .slice A n c => .slice A (n + 3) c
 | v => v
section
variable {d : Kd Int} {e e' : Nat} {w w1 W W2 : World} {base g N : Nat} {ok ok' : Nat → Prop} {u v : Value} {xs : List Int} {S : Nat → Prop}
def Kd.LI (d : Kd Int) (e : Nat) (w : World) (base : Nat) (ok : Nat → Prop) (v : Value) (xs : List Int) : Prop := d.R e w base ok v xs ∧ d.R e w base ok (lendV v) (xs ++ [-777, -777, -777])
def Kd.LB (d : Kd Int) (e : Nat) (w : World) (base : Nat) (ok : Nat → Prop) (v : Value) (xs : List Int) : Prop := d.R e w base ok v xs ∧ d.R e w base ok (lendV v) (xs ++ [119, 119, 119])
def Kd.Z (d : Kd Int) (e : Nat) (w : World) (base : Nat) (ok : Nat → Prop) (v : Value) (xs : List Int) : Prop := d.R e w base ok v xs ∧ (xs = [] → v = .slice none 0 0)
end
theorem info3 : (Tryd.prog.info? 3).map (fun i => (i.zero, i.size, i.bytes)) = some (some (.int .i64 0), 1, 8) := by kernel_rfl
theorem info5 : (Tryd.prog.info? 5).map (fun i => (i.zero, i.size, i.bytes)) = some (some (.int .u8 0), 1, 1) := by kernel_rfl
theorem info40 : (Tryd.prog.info? 40).map (fun i => (i.zero, i.size, i.bytes)) = some (some (.slice none 0 0), 1, 24) := by kernel_rfl
theorem info49 : (Tryd.prog.info? 49).map (fun i => (i.zero, i.size, i.bytes)) = some (some (.slice none 0 0), 1, 24) := by kernel_rfl
-- the values' own types
/-! #### struct type 70 -/
structure S70 where
 f0 : Int
 f1 : ByteArray
def z70 : S70 := ⟨(0 : Int), (⟨#[]⟩ : ByteArray)⟩
def k70 : Kd S70 := Kd.iso (Kd.pair (Kd.int .i64) Kd.string) (fun x : S70 => (x.f0, x.f1))
theorem k70_openM {w : World} {base : Nat} {ok : Nat → Prop} {x : S70} {cs : List Value} (h : k70.M w base ok x cs) : cs = [.int .i64 x.f0, .string x.f1] := by
 obtain ⟨_, _, rfl, rfl, rfl⟩ := h
 exact rfl
theorem k70_mkM (w : World) (base : Nat) (ok : Nat → Prop) (x : S70)  : k70.M w base ok x [.int .i64 x.f0, .string x.f1] := ⟨[.int .i64 x.f0], [.string x.f1], rfl, rfl, rfl⟩
def rd_T70 (xs : List S70) (i : Int) : S70 := xs.getD i.toNat z70
def rd_L3 (xs : List (List Int)) (i : Int) : (List Int) := xs.getD i.toNat ([] : List Int)
theorem at_L3 {w : World} {A : Option Addr} {n : Nat} {xs : List (List Int)} (h : Kd.C (Kd.slice 3 (Kd.int .i64)) w A n xs) (i : Int) (h0 : 0 ≤ i) (h1 : i < n) : ∃ ad A0 c0, A = some ad ∧ w.cell? (ad.add i.toNat) = some (.slice A0 (rd_L3 xs i).length c0) ∧ (rd_L3 xs i).length ≤ c0 ∧ (Kd.int .i64).C w A0 (rd_L3 xs i).length (rd_L3 xs i) := by
 obtain ⟨ad, c, e, _, hK, hc0⟩ := Kd.C_get h ([] : List Int) i h0 h1
 have hc : ∀ j u, c[j]? = some u → w.cell? (ad.add (i.toNat * 1 + j)) = some u := hc0
 obtain ⟨A0, c0, rfl, l0, g0⟩ := hK
 exact ⟨ad, A0, c0, e, by have hq := hc 0 _ rfl; rwa [Nat.mul_one, Nat.add_zero] at hq, l0, g0⟩

def rd_L5 (xs : List (List Int)) (i : Int) : (List Int) := xs.getD i.toNat ([] : List Int)
def rd_L6 (xs : List (List (List Int))) (i : Int) : (List (List Int)) := xs.getD i.toNat ([] : List (List Int))
theorem at_L6 {w : World} {A : Option Addr} {n : Nat} {xs : List (List (List Int))} (h : Kd.C (Kd.slice 40 (Kd.slice 3 (Kd.int .i64))) w A n xs) (i : Int) (h0 : 0 ≤ i) (h1 : i < n) : ∃ ad A0 c0, A = some ad ∧ w.cell? (ad.add i.toNat) = some (.slice A0 (rd_L6 xs i).length c0) ∧ (rd_L6 xs i).length ≤ c0 ∧ (Kd.slice 3 (Kd.int .i64)).C w A0 (rd_L6 xs i).length (rd_L6 xs i) := by
 obtain ⟨ad, c, e, _, hK, hc0⟩ := Kd.C_get h ([] : List (List Int)) i h0 h1
 have hc : ∀ j u, c[j]? = some u → w.cell? (ad.add (i.toNat * 1 + j)) = some u := hc0
 obtain ⟨A0, c0, rfl, l0, g0⟩ := hK
 exact ⟨ad, A0, c0, e, by have hq := hc 0 _ rfl; rwa [Nat.mul_one, Nat.add_zero] at hq, l0, g0⟩

def rd_L7 (xs : List (List S70)) (i : Int) : (List S70) := xs.getD i.toNat ([] : List S70)
/-! ### errors as rows: none, or one Fault -/
def eRow : Value → Value
 | .nilIface => .slice none 0 0
 | .iface 66 (.pointer (some a)) => .slice (some a) 1 1
 | _ => .bool false
theorem eRow_inv {v : Value} {w : World} {base size n : Nat} {e : TypeId} {xs : List Value} (h : w.ownsRow base e size (eRow v) n xs) : (v = .nilIface ∧ n = 0) ∨ ∃ (g : Nat) (cur : Array Value), v = .iface 66 (.pointer (some ⟨g, 0, none⟩)) ∧ n = 1 ∧ base ≤ g ∧ w.heap[g]? = some (.cells cur e (0, 0)) ∧ cur.size = size ∧ cur.toList.take size = xs := by
 obtain ⟨_, h⟩ := h
 unfold eRow at h
 split at h
 ·rcases h with ⟨_, h⟩ | ⟨g, cap, cur, h, _⟩
  ·exact .inl ⟨rfl, h⟩
  ·cases h
 ·rcases h with ⟨h, _⟩ | ⟨g, cap, cur, h, hb, hh, _, _, hs, ht⟩
  ·cases h
  ·injection h with h1 h2 h3
   injection h1 with h1
   subst h1; subst h2; subst h3
   exact .inr ⟨g, cur, rfl, rfl, hb, hh, by omega, by rw [Nat.one_mul] at ht; exact ht⟩
 ·rcases h with ⟨h, _⟩ | ⟨g, cap, cur, h, _⟩ <;> cases h
theorem eRow_none {α : Type} {d : Kd α} {e base : Nat} {ok : Nat → Prop} {w : World} {v : Value} {xs : List α} (h : d.R e w base ok (eRow v) xs) (hx : xs.isEmpty = true) : v = .nilIface := by
 obtain ⟨inner, ho⟩ := Kd.R_own h
 rcases eRow_inv ho with ⟨h1, _⟩ | ⟨_, _, _, h1, _⟩
 ·exact h1
 ·rw [List.isEmpty_iff.1 hx] at h1; cases h1
theorem eRow_some {α : Type} {d : Kd α} {e base : Nat} {ok : Nat → Prop} {w : World} {v : Value} {xs : List α} (h : d.R e w base ok (eRow v) xs) (hx : ¬ xs.isEmpty = true) : ∃ g : Nat, v = .iface 66 (.pointer (some ⟨g, 0, none⟩)) := by
 obtain ⟨inner, ho⟩ := Kd.R_own h
 rcases eRow_inv ho with ⟨_, h1⟩ | ⟨g, _, h1, _⟩
 ·exact absurd (List.isEmpty_iff.2 (List.eq_nil_of_length_eq_zero h1)) hx
 ·exact ⟨g, h1⟩
theorem eRow_box {W : World} {g base : Nat} {c : Int} {s : ByteArray} {ok : Nat → Prop} (hb : W.heap[g]? = some (.cells #[.int .i64 c, .string s] 70 (0, 0))) (hg : base ≤ g) (hok : ok g) : Kd.R k70 70 W base ok (eRow (.iface 66 (.pointer (some ⟨g, 0, none⟩)))) [(⟨c, s⟩ : S70)] :=
 ⟨fun k hk => by have h : some g = some k := hk; injection h with h; subst h; exact hok, [.int .i64 c, .string s], ⟨rfl, .inr ⟨g, 1, _, rfl, hg, hb, Nat.le_refl _, by unfold maxLen; decide, rfl, rfl⟩⟩, Reps.c2 (k70_mkM _ _ _ ⟨c, s⟩) (Reps.none _ _)⟩
/-- What an error is, out of its fact. -/
theorem eRow_one {base : Nat} {ok : Nat → Prop} {w : World} {v : Value} {xs : List S70} (h : Kd.R k70 70 w base ok (eRow v) xs) : (v = .nilIface ∧ xs = []) ∨ ∃ (g : Nat) (x : S70), xs = [x] ∧ v = .iface 66 (.pointer (some ⟨g, 0, none⟩)) ∧ w.heap[g]? = some (.cells #[.int .i64 x.f0, .string x.f1] 70 (0, 0)) := by
 obtain ⟨_, inner, ho, hr⟩ := h
 rcases eRow_inv ho with ⟨h1, h2⟩ | ⟨g, cur, h1, h2, _, h4, h5, h6⟩
 ·exact .inl ⟨h1, List.eq_nil_of_length_eq_zero h2⟩
 ·obtain ⟨x, rfl⟩ := List.length_eq_one_iff.1 h2
  refine .inr ⟨g, x, rfl, h1, ?_⟩
  have hx := hr.2 0 x rfl
  have hx2 : List.take 2 (List.drop (0 * 2) inner) = [Value.int IntKind.i64 x.f0, Value.string x.f1] := k70_openM hx
  have h5' : cur.toList.length = 2 := h5
  have h6' : List.take 2 cur.toList = inner := h6
  rw [List.take_of_length_le (by omega)] at h6'
  subst h6'
  rw [Nat.zero_mul, List.drop_zero, List.take_of_length_le (by omega)] at hx2
  rw [h4, show cur = #[Value.int IntKind.i64 x.f0, Value.string x.f1] from Array.toList_inj.1 hx2]
/-- An error's value tells this row. -/
def ErrIs (w : World) (u : Value) (l : List S70) : Prop := ∃ base ok, Kd.R k70 70 w base ok (eRow u) l
theorem ErrIs.of {base : Nat} {ok : Nat → Prop} {w : World} {u : Value} {l : List S70} (h : Kd.R k70 70 w base ok (eRow u) l) : ErrIs w u l := ⟨base, ok, h⟩

end Go.Proofs.YtkdfcgihgndnnaaDoor.PPA
end
section
namespace Go.Proofs.YtkdfcgihgndnnaaDoor.PPA
open Go.RowKit Go.Proofs.YtkdfcgihgndnnaaDoorW.PrintWords Go.Proofs.YtkdfcgihgndnnaaDoorW.PrintLast Go.Proofs.YtkdfcgihgndnnaaDoorW.PrintMore Go.Proofs.YtkdfcgihgndnnaaDoorW.PrintZip
attribute [local go_sem] max2_int min2_int max_two min_two max_three min_three max_four min_four   -- for this text's walks alone
set_option linter.unusedVariables false
set_option linter.unusedSimpArgs false

/-! ### pke_Of: function 13 -/
def pke_Of.f (a0 : Int) : Option (Int × Int × Int × Int × Int × Bool) := if a0 = 1 then (some (2, 3, 2, 10, 4, true)) else (if a0 = 2 then (some (3, 2, 2, 10, 4, true)) else (if a0 = 3 then (some (4, 2, 2, 11, 5, true)) else (some (0, 0, 0, 0, 0, false))))
set_option maxHeartbeats 8000000 in
set_option maxRecDepth 100000 in
theorem pke_Of.calls (a0 : Int) (r1 : Int) (r2 : Int) (r3 : Int) (r4 : Int) (r5 : Int) (r6 : Bool) (w : World) (h : pke_Of.f a0 = some (r1, r2, r3, r4, r5, r6)) :
  Calls Tryd.prog 13 #[.int .i64 a0] w fun e w' => e = .returned (.tuple #[.agg #[.int .i64 r1, .int .i64 r2, .int .i64 r3, .int .i64 r4, .int .i64 r5], .bool r6]) ∧ Below w.heap.size w w' := by
 have hu34 := Tryd.underlying34
 have HB := Aside0.mk (Below.refl w.heap.size w)
 have H := h
 unfold pke_Of.f at H
 clear h
 by_cases c2 : a0 = 1
 ·rw [if_pos c2] at H
  have c2b0 : (a0 == 1) = true := beq_iff_eq.mpr c2
  have c2b1 : (a0 != 1) = false := bne_eq_false_iff_eq.mpr c2
  clear c2
  simp only [Option.some.injEq, Prod.mk.injEq] at H
  obtain ⟨rfl, rfl, rfl, rfl, rfl, rfl⟩ := H
  go_enter Tryd.func13, Tryd.ntmps13
  go_wp2_with (first | ((with_reducible refine gate_dst (N := 2) rfl ?_); refine box_event ?hg (N := 2) ?hd (cs := #[.int .i64 0, .int .i64 0, .int .i64 0, .int .i64 0, .int .i64 0]) (t := 34) ?hr ?_; (case hd => rfl); (case hg => rfl); (case hr => first | (go_simp; done) | (go_simp; rfl)); intro gb101 hg w3 hbox hb; have BK101 := Aside0.mk (hbox); have GW101 := Aside0.mk ((by rw [hg]; exact (below_size Bq) : w.heap.size ≤ gb101)); have GE101 := Aside0.mk ((by rw [hg]; exact (below_size Bq) : w.heap.size ≤ gb101)); replace HB := Aside0.mk (below_step Bq hb); clear hb hbox hg; have hcz4_0 : w3.cell? ⟨gb101, 0, none⟩ = some (.int .i64 0) := (blk_cell BK101.out 0).trans rfl; have hcz4_1 : w3.cell? ⟨gb101, 1, none⟩ = some (.int .i64 0) := (blk_cell BK101.out 1).trans rfl; have hcz4_2 : w3.cell? ⟨gb101, 2, none⟩ = some (.int .i64 0) := (blk_cell BK101.out 2).trans rfl; have hcz4_3 : w3.cell? ⟨gb101, 3, none⟩ = some (.int .i64 0) := (blk_cell BK101.out 3).trans rfl; have hcz4_4 : w3.cell? ⟨gb101, 4, none⟩ = some (.int .i64 0) := (blk_cell BK101.out 4).trans rfl; have hfz4_0 := blk_frozen BK101.out 0; have hfz4_1 := blk_frozen BK101.out 1; have hfz4_2 := blk_frozen BK101.out 2; have hfz4_3 := blk_frozen BK101.out 3; have hfz4_4 := blk_frozen BK101.out 4))
  refine bodyPost_ret (results_ct rfl _ _ gb101 34 #[.int .i64 2, .int .i64 3, .int .i64 2, .int .i64 10, .int .i64 4] (0, 0) _ rfl (by (with_reducible repeat (first | refine blk_drewN ?_ _ | refine blk_drew ?_ | refine blk_alloc ?_ _)); refine blk_put (cs := #[.int .i64 2, .int .i64 3, .int .i64 2, .int .i64 10, .int .i64 0]) ?_ 4 _ rfl; (with_reducible repeat (first | refine blk_drewN ?_ _ | refine blk_drew ?_ | refine blk_alloc ?_ _)); refine blk_put (cs := #[.int .i64 2, .int .i64 3, .int .i64 2, .int .i64 0, .int .i64 0]) ?_ 3 _ rfl; (with_reducible repeat (first | refine blk_drewN ?_ _ | refine blk_drew ?_ | refine blk_alloc ?_ _)); refine blk_put (cs := #[.int .i64 2, .int .i64 3, .int .i64 0, .int .i64 0, .int .i64 0]) ?_ 2 _ rfl; (with_reducible repeat (first | refine blk_drewN ?_ _ | refine blk_drew ?_ | refine blk_alloc ?_ _)); refine blk_put (cs := #[.int .i64 2, .int .i64 0, .int .i64 0, .int .i64 0, .int .i64 0]) ?_ 1 _ rfl; (with_reducible repeat (first | refine blk_drewN ?_ _ | refine blk_drew ?_ | refine blk_alloc ?_ _)); refine blk_put (cs := #[.int .i64 0, .int .i64 0, .int .i64 0, .int .i64 0, .int .i64 0]) ?_ 0 _ rfl; (with_reducible repeat (first | refine blk_drewN ?_ _ | refine blk_drew ?_ | refine blk_alloc ?_ _)); exact BK101.out) Tryd.underlying34 rfl (by kernel_rfl)) rfl ?_
  exact ⟨by first | rfl | (simp [errW_none, errW_some] <;> rfl) | (simp [*, errW_none, errW_some] <;> rfl), Bq⟩
 ·rw [if_neg c2] at H
  have c2b0 : (a0 == 1) = false := beq_eq_false_iff_ne.mpr c2
  have c2b1 : (a0 != 1) = true := bne_iff_ne.mpr c2
  by_cases c5 : a0 = 2
  ·rw [if_pos c5] at H
   have c5b0 : (a0 == 2) = true := beq_iff_eq.mpr c5
   have c5b1 : (a0 != 2) = false := bne_eq_false_iff_eq.mpr c5
   clear c5
   simp only [Option.some.injEq, Prod.mk.injEq] at H
   obtain ⟨rfl, rfl, rfl, rfl, rfl, rfl⟩ := H
   go_enter Tryd.func13, Tryd.ntmps13
   go_wp2_with (first | ((with_reducible refine gate_dst (N := 2) rfl ?_); refine box_event ?hg (N := 2) ?hd (cs := #[.int .i64 0, .int .i64 0, .int .i64 0, .int .i64 0, .int .i64 0]) (t := 34) ?hr ?_; (case hd => rfl); (case hg => rfl); (case hr => first | (go_simp; done) | (go_simp; rfl)); intro gb101 hg w6 hbox hb; have BK101 := Aside0.mk (hbox); have GW101 := Aside0.mk ((by rw [hg]; exact (below_size Bq) : w.heap.size ≤ gb101)); have GE101 := Aside0.mk ((by rw [hg]; exact (below_size Bq) : w.heap.size ≤ gb101)); replace HB := Aside0.mk (below_step Bq hb); clear hb hbox hg; have hcz7_0 : w6.cell? ⟨gb101, 0, none⟩ = some (.int .i64 0) := (blk_cell BK101.out 0).trans rfl; have hcz7_1 : w6.cell? ⟨gb101, 1, none⟩ = some (.int .i64 0) := (blk_cell BK101.out 1).trans rfl; have hcz7_2 : w6.cell? ⟨gb101, 2, none⟩ = some (.int .i64 0) := (blk_cell BK101.out 2).trans rfl; have hcz7_3 : w6.cell? ⟨gb101, 3, none⟩ = some (.int .i64 0) := (blk_cell BK101.out 3).trans rfl; have hcz7_4 : w6.cell? ⟨gb101, 4, none⟩ = some (.int .i64 0) := (blk_cell BK101.out 4).trans rfl; have hfz7_0 := blk_frozen BK101.out 0; have hfz7_1 := blk_frozen BK101.out 1; have hfz7_2 := blk_frozen BK101.out 2; have hfz7_3 := blk_frozen BK101.out 3; have hfz7_4 := blk_frozen BK101.out 4))
   refine bodyPost_ret (results_ct rfl _ _ gb101 34 #[.int .i64 3, .int .i64 2, .int .i64 2, .int .i64 10, .int .i64 4] (0, 0) _ rfl (by (with_reducible repeat (first | refine blk_drewN ?_ _ | refine blk_drew ?_ | refine blk_alloc ?_ _)); refine blk_put (cs := #[.int .i64 3, .int .i64 2, .int .i64 2, .int .i64 10, .int .i64 0]) ?_ 4 _ rfl; (with_reducible repeat (first | refine blk_drewN ?_ _ | refine blk_drew ?_ | refine blk_alloc ?_ _)); refine blk_put (cs := #[.int .i64 3, .int .i64 2, .int .i64 2, .int .i64 0, .int .i64 0]) ?_ 3 _ rfl; (with_reducible repeat (first | refine blk_drewN ?_ _ | refine blk_drew ?_ | refine blk_alloc ?_ _)); refine blk_put (cs := #[.int .i64 3, .int .i64 2, .int .i64 0, .int .i64 0, .int .i64 0]) ?_ 2 _ rfl; (with_reducible repeat (first | refine blk_drewN ?_ _ | refine blk_drew ?_ | refine blk_alloc ?_ _)); refine blk_put (cs := #[.int .i64 3, .int .i64 0, .int .i64 0, .int .i64 0, .int .i64 0]) ?_ 1 _ rfl; (with_reducible repeat (first | refine blk_drewN ?_ _ | refine blk_drew ?_ | refine blk_alloc ?_ _)); refine blk_put (cs := #[.int .i64 0, .int .i64 0, .int .i64 0, .int .i64 0, .int .i64 0]) ?_ 0 _ rfl; (with_reducible repeat (first | refine blk_drewN ?_ _ | refine blk_drew ?_ | refine blk_alloc ?_ _)); exact BK101.out) Tryd.underlying34 rfl (by kernel_rfl)) rfl ?_
   exact ⟨by first | rfl | (simp [errW_none, errW_some] <;> rfl) | (simp [*, errW_none, errW_some] <;> rfl), Bq⟩
  ·rw [if_neg c5] at H
   have c5b0 : (a0 == 2) = false := beq_eq_false_iff_ne.mpr c5
   have c5b1 : (a0 != 2) = true := bne_iff_ne.mpr c5
   by_cases c8 : a0 = 3
   ·rw [if_pos c8] at H
    have c8b0 : (a0 == 3) = true := beq_iff_eq.mpr c8
    have c8b1 : (a0 != 3) = false := bne_eq_false_iff_eq.mpr c8
    clear c8
    simp only [Option.some.injEq, Prod.mk.injEq] at H
    obtain ⟨rfl, rfl, rfl, rfl, rfl, rfl⟩ := H
    go_enter Tryd.func13, Tryd.ntmps13
    go_wp2_with (first | ((with_reducible refine gate_dst (N := 2) rfl ?_); refine box_event ?hg (N := 2) ?hd (cs := #[.int .i64 0, .int .i64 0, .int .i64 0, .int .i64 0, .int .i64 0]) (t := 34) ?hr ?_; (case hd => rfl); (case hg => rfl); (case hr => first | (go_simp; done) | (go_simp; rfl)); intro gb101 hg w9 hbox hb; have BK101 := Aside0.mk (hbox); have GW101 := Aside0.mk ((by rw [hg]; exact (below_size Bq) : w.heap.size ≤ gb101)); have GE101 := Aside0.mk ((by rw [hg]; exact (below_size Bq) : w.heap.size ≤ gb101)); replace HB := Aside0.mk (below_step Bq hb); clear hb hbox hg; have hcz10_0 : w9.cell? ⟨gb101, 0, none⟩ = some (.int .i64 0) := (blk_cell BK101.out 0).trans rfl; have hcz10_1 : w9.cell? ⟨gb101, 1, none⟩ = some (.int .i64 0) := (blk_cell BK101.out 1).trans rfl; have hcz10_2 : w9.cell? ⟨gb101, 2, none⟩ = some (.int .i64 0) := (blk_cell BK101.out 2).trans rfl; have hcz10_3 : w9.cell? ⟨gb101, 3, none⟩ = some (.int .i64 0) := (blk_cell BK101.out 3).trans rfl; have hcz10_4 : w9.cell? ⟨gb101, 4, none⟩ = some (.int .i64 0) := (blk_cell BK101.out 4).trans rfl; have hfz10_0 := blk_frozen BK101.out 0; have hfz10_1 := blk_frozen BK101.out 1; have hfz10_2 := blk_frozen BK101.out 2; have hfz10_3 := blk_frozen BK101.out 3; have hfz10_4 := blk_frozen BK101.out 4))
    refine bodyPost_ret (results_ct rfl _ _ gb101 34 #[.int .i64 4, .int .i64 2, .int .i64 2, .int .i64 11, .int .i64 5] (0, 0) _ rfl (by (with_reducible repeat (first | refine blk_drewN ?_ _ | refine blk_drew ?_ | refine blk_alloc ?_ _)); refine blk_put (cs := #[.int .i64 4, .int .i64 2, .int .i64 2, .int .i64 11, .int .i64 0]) ?_ 4 _ rfl; (with_reducible repeat (first | refine blk_drewN ?_ _ | refine blk_drew ?_ | refine blk_alloc ?_ _)); refine blk_put (cs := #[.int .i64 4, .int .i64 2, .int .i64 2, .int .i64 0, .int .i64 0]) ?_ 3 _ rfl; (with_reducible repeat (first | refine blk_drewN ?_ _ | refine blk_drew ?_ | refine blk_alloc ?_ _)); refine blk_put (cs := #[.int .i64 4, .int .i64 2, .int .i64 0, .int .i64 0, .int .i64 0]) ?_ 2 _ rfl; (with_reducible repeat (first | refine blk_drewN ?_ _ | refine blk_drew ?_ | refine blk_alloc ?_ _)); refine blk_put (cs := #[.int .i64 4, .int .i64 0, .int .i64 0, .int .i64 0, .int .i64 0]) ?_ 1 _ rfl; (with_reducible repeat (first | refine blk_drewN ?_ _ | refine blk_drew ?_ | refine blk_alloc ?_ _)); refine blk_put (cs := #[.int .i64 0, .int .i64 0, .int .i64 0, .int .i64 0, .int .i64 0]) ?_ 0 _ rfl; (with_reducible repeat (first | refine blk_drewN ?_ _ | refine blk_drew ?_ | refine blk_alloc ?_ _)); exact BK101.out) Tryd.underlying34 rfl (by kernel_rfl)) rfl ?_
    exact ⟨by first | rfl | (simp [errW_none, errW_some] <;> rfl) | (simp [*, errW_none, errW_some] <;> rfl), Bq⟩
   ·rw [if_neg c8] at H
    have c8b0 : (a0 == 3) = false := beq_eq_false_iff_ne.mpr c8
    have c8b1 : (a0 != 3) = true := bne_iff_ne.mpr c8
    simp only [Option.some.injEq, Prod.mk.injEq] at H
    obtain ⟨rfl, rfl, rfl, rfl, rfl, rfl⟩ := H
    go_enter Tryd.func13, Tryd.ntmps13
    go_wp2_with (first | ((with_reducible refine gate_dst (N := 2) rfl ?_); refine box_event ?hg (N := 2) ?hd (cs := #[.int .i64 0, .int .i64 0, .int .i64 0, .int .i64 0, .int .i64 0]) (t := 34) ?hr ?_; (case hd => rfl); (case hg => rfl); (case hr => first | (go_simp; done) | (go_simp; rfl)); intro gb101 hg w11 hbox hb; have BK101 := Aside0.mk (hbox); have GW101 := Aside0.mk ((by rw [hg]; exact (below_size Bq) : w.heap.size ≤ gb101)); have GE101 := Aside0.mk ((by rw [hg]; exact (below_size Bq) : w.heap.size ≤ gb101)); replace HB := Aside0.mk (below_step Bq hb); clear hb hbox hg; have hcz12_0 : w11.cell? ⟨gb101, 0, none⟩ = some (.int .i64 0) := (blk_cell BK101.out 0).trans rfl; have hcz12_1 : w11.cell? ⟨gb101, 1, none⟩ = some (.int .i64 0) := (blk_cell BK101.out 1).trans rfl; have hcz12_2 : w11.cell? ⟨gb101, 2, none⟩ = some (.int .i64 0) := (blk_cell BK101.out 2).trans rfl; have hcz12_3 : w11.cell? ⟨gb101, 3, none⟩ = some (.int .i64 0) := (blk_cell BK101.out 3).trans rfl; have hcz12_4 : w11.cell? ⟨gb101, 4, none⟩ = some (.int .i64 0) := (blk_cell BK101.out 4).trans rfl; have hfz12_0 := blk_frozen BK101.out 0; have hfz12_1 := blk_frozen BK101.out 1; have hfz12_2 := blk_frozen BK101.out 2; have hfz12_3 := blk_frozen BK101.out 3; have hfz12_4 := blk_frozen BK101.out 4))
    refine bodyPost_ret (results_ct rfl _ _ gb101 34 #[.int .i64 0, .int .i64 0, .int .i64 0, .int .i64 0, .int .i64 0] (0, 0) _ rfl (by (with_reducible repeat (first | refine blk_drewN ?_ _ | refine blk_drew ?_ | refine blk_alloc ?_ _)); refine blk_put (cs := #[.int .i64 0, .int .i64 0, .int .i64 0, .int .i64 0, .int .i64 0]) ?_ 4 _ rfl; (with_reducible repeat (first | refine blk_drewN ?_ _ | refine blk_drew ?_ | refine blk_alloc ?_ _)); refine blk_put (cs := #[.int .i64 0, .int .i64 0, .int .i64 0, .int .i64 0, .int .i64 0]) ?_ 3 _ rfl; (with_reducible repeat (first | refine blk_drewN ?_ _ | refine blk_drew ?_ | refine blk_alloc ?_ _)); refine blk_put (cs := #[.int .i64 0, .int .i64 0, .int .i64 0, .int .i64 0, .int .i64 0]) ?_ 2 _ rfl; (with_reducible repeat (first | refine blk_drewN ?_ _ | refine blk_drew ?_ | refine blk_alloc ?_ _)); refine blk_put (cs := #[.int .i64 0, .int .i64 0, .int .i64 0, .int .i64 0, .int .i64 0]) ?_ 1 _ rfl; (with_reducible repeat (first | refine blk_drewN ?_ _ | refine blk_drew ?_ | refine blk_alloc ?_ _)); refine blk_put (cs := #[.int .i64 0, .int .i64 0, .int .i64 0, .int .i64 0, .int .i64 0]) ?_ 0 _ rfl; (with_reducible repeat (first | refine blk_drewN ?_ _ | refine blk_drew ?_ | refine blk_alloc ?_ _)); exact BK101.out) Tryd.underlying34 rfl (by kernel_rfl)) rfl ?_
    exact ⟨by first | rfl | (simp [errW_none, errW_some] <;> rfl) | (simp [*, errW_none, errW_some] <;> rfl), Bq⟩

-- NOT PRINTED: function 54 (sponge_New)

/-! ### sponge_fault: function 73 -/
def sponge_fault.f (a0 : Int) : Option ((List (S70))) := some [(⟨a0, (⟨#[115, 112, 111, 110, 103, 101]⟩ : ByteArray)⟩ : S70)]
-- NOT PRINTED: function 74 (sponge_Sponge_flip)

-- NOT PRINTED: function 82 (keccak_Iota)

/-! ### keccak_at: function 87 -/
def keccak_at.f (a0 : Int) (a1 : Int) : Option (Int) := some (wrap64 ((Int.tmod a0 5) + (wrap64 (5 * (Int.tmod a1 5)))))
set_option maxHeartbeats 8000000 in
set_option maxRecDepth 100000 in
theorem keccak_at.calls (a0 : Int) (a1 : Int) (r : Int) (w : World) (h : keccak_at.f a0 a1 = some r) :
  Calls Tryd.prog 87 #[.int .i64 a0, .int .i64 a1] w fun e w' => e = .returned (.int .i64 r) ∧ Drawn0 w w' := by
 have H := h
 unfold keccak_at.f at H
 clear h
 obtain rfl := Option.some.inj H
 go_enter Tryd.func87, Tryd.ntmps87
 go_wp2
 go_ret
 exact ⟨by first | rfl | (simp; done) | (simp [*]; done), by repeat (first | exact Drawn0.refl _ | apply Drawn0.step)⟩

-- NOT PRINTED: function 83 (keccak_Chi)

-- NOT PRINTED: function 84 (keccak_Pi)

/-! ### bits_RotateLeft64: function 88 -/
def bits_RotateLeft64.f (a0 : Int) (a1 : Int) : Option (Int) := if 0 ≤ (Go.bits .and .u64 (IntKind.u64.wrap (a1)) 63) then (if 0 ≤ (IntKind.u64.wrap (64 - (Go.bits .and .u64 (IntKind.u64.wrap (a1)) 63))) then (some (Go.bits .or .u64 (shl .u64 a0 (Go.bits .and .u64 (IntKind.u64.wrap (a1)) 63)) (shr .u64 a0 (IntKind.u64.wrap (64 - (Go.bits .and .u64 (IntKind.u64.wrap (a1)) 63)))))) else (none)) else (none)
set_option maxHeartbeats 8000000 in
set_option maxRecDepth 100000 in
theorem bits_RotateLeft64.calls (a0 : Int) (a1 : Int) (r : Int) (w : World) (h : bits_RotateLeft64.f a0 a1 = some r) :
  Calls Tryd.prog 88 #[.int .u64 a0, .int .i64 a1] w fun e w' => e = .returned (.int .u64 r) ∧ Drawn0 w w' := by
 have H := h
 unfold bits_RotateLeft64.f at H
 clear h
 obtain ⟨ji3, hji3⟩ : ∃ j_ : Int, (Go.bits .and .u64 (IntKind.u64.wrap (a1)) 63) = j_ := ⟨_, rfl⟩
 replace H : (if 0 ≤ (ji3) then (if 0 ≤ (IntKind.u64.wrap (64 - (ji3))) then (some (Go.bits .or .u64 (shl .u64 a0 (ji3)) (shr .u64 a0 (IntKind.u64.wrap (64 - (ji3)))))) else (none)) else (none)) = some r := by first | (rw [hji3] at H; exact H) | (simp only [hji3] at H ⊢; exact H)
 by_cases c4 : 0 ≤ (ji3)
 ·rw [if_pos c4] at H
  have c4b0 := eq_true c4
  have c4b1 : decide (0 ≤ (ji3)) = true := decide_eq_true c4
  clear c4
  obtain ⟨ji5, hji5⟩ : ∃ j_ : Int, (shl .u64 a0 (ji3)) = j_ := ⟨_, rfl⟩
  replace H : (if 0 ≤ (IntKind.u64.wrap (64 - (ji3))) then (some (Go.bits .or .u64 (ji5) (shr .u64 a0 (IntKind.u64.wrap (64 - (ji3)))))) else (none)) = some r := by first | (rw [hji5] at H; exact H) | (simp only [hji5] at H ⊢; exact H)
  have hji5_ : (IntKind.u64.wrap (a0 * 2 ^ min (ji3).toNat 64)) = ji5 := hji5
  have hji5z : (ji3) ≤ 64 → (IntKind.u64.wrap (a0 * 2 ^ (ji3).toNat)) = ji5 := shl_small hji5
  obtain ⟨ji6, hji6⟩ : ∃ j_ : Int, (IntKind.u64.wrap (64 - (ji3))) = j_ := ⟨_, rfl⟩
  replace H : (if 0 ≤ (ji6) then (some (Go.bits .or .u64 (ji5) (shr .u64 a0 (ji6)))) else (none)) = some r := by first | (rw [hji6] at H; exact H) | (simp only [hji6] at H ⊢; exact H)
  by_cases c7 : 0 ≤ (ji6)
  ·rw [if_pos c7] at H
   have c7b0 := eq_true c7
   have c7b1 : decide (0 ≤ (ji6)) = true := decide_eq_true c7
   clear c7
   obtain ⟨ji8, hji8⟩ : ∃ j_ : Int, (shr .u64 a0 (ji6)) = j_ := ⟨_, rfl⟩
   replace H : (some (Go.bits .or .u64 (ji5) (ji8))) = some r := by first | (rw [hji8] at H; exact H) | (simp only [hji8] at H ⊢; exact H)
   have hji8_ : (a0 / 2 ^ min (ji6).toNat 64) = ji8 := hji8
   have hji8z : (ji6) ≤ 64 → (a0 / 2 ^ (ji6).toNat) = ji8 := shr_small hji8
   obtain rfl := Option.some.inj H
   go_enter Tryd.func88, Tryd.ntmps88
   go_wp2
   go_ret
   exact ⟨by first | rfl | (simp; done) | (simp only [← hji3, ← hji5, ← hji6, ← hji8] <;> (first | rfl | simp)) | (simp [*]; done), by repeat (first | exact Drawn0.refl _ | apply Drawn0.step)⟩
  ·rw [if_neg c7] at H
   exact absurd H (by simp)
 ·rw [if_neg c4] at H
  exact absurd H (by simp)

-- NOT PRINTED: function 85 (keccak_Rho)

-- NOT PRINTED: function 86 (keccak_Theta)

-- NOT PRINTED: function 81 (keccak_Round)

-- NOT PRINTED: function 80 (keccak_Permute)

-- NOT PRINTED: function 75 (sponge_Sponge_turn)

-- NOT PRINTED: function 55 (sponge_Sponge_Write)

-- NOT PRINTED: function 56 (sponge_Sponge_Read)

-- NOT PRINTED: function 34 (sponge_of)

/-! ### sponge_Sha512: function 15 -/
def sponge_Sha512.f (l0 : List (List Int)) : Option (List Int) := if l0.length < 1000000 ∧ ∀ x ∈ l0, x.length < 1000000 then some (PPK.hash 72 6 64 l0.flatten) else none
theorem sponge_Sha512.calls (A0 : Option Addr) (c0 : Nat) (l0 : List (List Int)) (r : List Int) (w : World) (hr0 : Kd.C (Kd.slice 5 (Kd.int .u8)) w A0 l0.length l0) (hc0 : l0.length ≤ c0) (h : sponge_Sha512.f l0 = some r) :
  Calls Tryd.prog 15 #[.slice A0 l0.length c0] w fun e w' => ∃ v0_ : Value, e = .returned (v0_) ∧ Kd.R (Kd.int .u8) 5 w' w.heap.size (fun _ => True) v0_ r ∧ Below w.heap.size w w' := by
 unfold sponge_Sha512.f at h
 split at h
 ·rename_i hh
  obtain rfl := Option.some.inj h
  refine (PPK.SpSha512.calls A0 c0 l0 w hr0 hh.1 hh.2).mono ?_
  rintro e w' ⟨A', c', h1, h2, h3⟩
  exact ⟨_, h1, h2, h3⟩
 ·cases h

/-! ### pke_fault: function 26 -/
def pke_fault.f (a0 : Int) : Option ((List (S70))) := some [(⟨a0, (⟨#[112, 107, 101]⟩ : ByteArray)⟩ : S70)]
set_option maxHeartbeats 8000000 in
set_option maxRecDepth 100000 in
theorem pke_fault.calls (a0 : Int) (r : List (S70)) (w : World) (h : pke_fault.f a0 = some r) :
  Calls Tryd.prog 26 #[.int .i64 a0] w fun e w' => ∃ v0_ : Value, e = .returned (v0_) ∧ Kd.R k70 70 w' w.heap.size (fun _ => True) (eRow v0_) r ∧ Below w.heap.size w w' := by
 have hu70 := Tryd.underlying70
 have HB := Aside0.mk (Below.refl w.heap.size w)
 have H := h
 unfold pke_fault.f at H
 clear h
 obtain rfl := Option.some.inj H
 go_enter Tryd.func26, Tryd.ntmps26
 go_wp2_with (first | ((with_reducible refine gate_dst (N := 5) rfl ?_); refine box_event ?hg (N := 5) ?hd (cs := #[.int .i64 a0, .string (⟨#[112, 107, 101]⟩ : ByteArray)]) (t := 70) ?hr ?_; (case hd => rfl); (case hg => rfl); (case hr => first | (go_simp; done) | (go_simp; rfl)); intro gb104 hg w2 hbox hb; have HO105 := Aside0.mk (eRow_box (base := w.heap.size) (ok := (fun _ => True)) hbox (by rw [hg]; exact (below_size Bq) : w.heap.size ≤ gb104) trivial); replace HB := Aside0.mk (below_step Bq hb); clear hb hbox hg))
 go_ret
 exact ⟨_, by first | rfl | (simp [errW_none, errW_some] <;> rfl) | (simp [*, errW_none, errW_some] <;> rfl), Wq HO105, Bq⟩

-- NOT PRINTED: function 57 (slices_IndexFunc_int_int)

-- NOT PRINTED: function 36 (slices_ContainsFunc_int_int)

/-! ### poly_May_1: function 37 -/
def poly_May_1.f (a0 : Int) : Option (Bool) := if a0 < 0 then (some true) else (some (decide (a0 ≥ 3329)))
set_option maxHeartbeats 8000000 in
set_option maxRecDepth 100000 in
theorem poly_May_1.calls (a0 : Int) (r : Bool) (w : World) (h : poly_May_1.f a0 = some r) :
  Calls Tryd.prog 37 #[.int .i64 a0] w fun e w' => e = .returned (.bool r) ∧ Drawn0 w w' := by
 have H := h
 unfold poly_May_1.f at H
 clear h
 by_cases c2 : a0 < 0
 ·rw [if_pos c2] at H
  have c2b0 : decide (a0 < 0) = true := decide_eq_true c2
  clear c2
  obtain rfl := Option.some.inj H
  go_enter Tryd.func37, Tryd.ntmps37
  go_wp2
  go_ret
  exact ⟨by first | rfl | (simp; done) | (simp [*]; done), by repeat (first | exact Drawn0.refl _ | apply Drawn0.step)⟩
 ·rw [if_neg c2] at H
  have c2b0 : decide (a0 < 0) = false := decide_eq_false c2
  clear c2
  obtain rfl := Option.some.inj H
  go_enter Tryd.func37, Tryd.ntmps37
  go_wp2
  go_ret
  exact ⟨by first | rfl | (simp; done) | (simp [*]; done), by repeat (first | exact Drawn0.refl _ | apply Drawn0.step)⟩

end Go.Proofs.YtkdfcgihgndnnaaDoor.PPA
end
section
namespace Go.Proofs.YtkdfcgihgndnnaaDoor.PPA
open Go.RowKit Go.Proofs.YtkdfcgihgndnnaaDoorW.PrintWords Go.Proofs.YtkdfcgihgndnnaaDoorW.PrintLast Go.Proofs.YtkdfcgihgndnnaaDoorW.PrintMore Go.Proofs.YtkdfcgihgndnnaaDoorW.PrintZip
attribute [local go_sem] max2_int min2_int max_two min_two max_three min_three max_four min_four   -- for this text's walks alone
set_option linter.unusedVariables false
set_option linter.unusedSimpArgs false

/-! ### slices_IndexFunc_int_int_at_poly_May_1: function 57 -/
def slices_IndexFunc_int_int_at_poly_May_1.l0 : Nat → List Int → Int → Int → Option (Int)
 | 0, _, _, _ => none
 | k + 1, x0, x7, x8 => if x8 < x7 then (if 0 ≤ x8 then (if x8 < (x0.length : Int) then ((poly_May_1.f (rd x0 x8)).bind fun t107 => (if t107 = true then (some x8) else (slices_IndexFunc_int_int_at_poly_May_1.l0 k x0 x7 (wrap64 (x8 + 1))))) else (none)) else (none)) else (some (-1))
def slices_IndexFunc_int_int_at_poly_May_1.f (k : Nat) (l0 : List Int)  : Option (Int) := slices_IndexFunc_int_int_at_poly_May_1.l0 k l0 (l0.length : Int) 0
set_option maxHeartbeats 8000000 in
set_option maxRecDepth 100000 in
theorem slices_IndexFunc_int_int_at_poly_May_1.calls (k : Nat) (A0 : Option Addr) (c0 : Nat) (l0 : List Int)  (r : Int) (w : World) (hr0 : Kd.C (Kd.int .i64) w A0 l0.length l0) (hc0 : l0.length ≤ c0) (h : slices_IndexFunc_int_int_at_poly_May_1.f k l0 = some r) :
  Calls Tryd.prog 57 #[.slice A0 l0.length c0, .func (.func 37) #[] #[]] w fun e w' => e = .returned (.int .i64 r) ∧ Drawn0 w w' := by
 have HR0 := Aside0.mk hr0
 have HC0 := Aside0.mk hc0
 clear hr0 hc0
 have H := h
 unfold slices_IndexFunc_int_int_at_poly_May_1.f at H
 clear h
 have H' := Aside0.mk H
 clear H
 go_enter Tryd.func57, Tryd.ntmps57
 go_wp2
 go_loopg [8] k (fun kq v8 w' => ∃ (x8_1 : Int), v8 = .int .i64 x8_1 ∧ Aside0 (slices_IndexFunc_int_int_at_poly_May_1.l0 kq l0 (l0.length : Int) x8_1 = some r) ∧ Aside0 (kq ≤ k) ∧ Drawn0 w w')
 case atStart => exact ⟨(0), Rq, H', ⟨Nat.le_refl _⟩, by repeat (first | exact Drawn0.refl _ | apply Drawn0.step)⟩
 case round =>
  clear H'
  try clear p2
  obtain ⟨x8_1, rfl, HA, HK1, ⟨m1, rfl⟩⟩ := hrel
  cases gk with
  | zero => exact absurd HA.out (by simp [slices_IndexFunc_int_int_at_poly_May_1.l0])
  | succ k1 =>
   have H := HA.out
   clear HA
   simp only [slices_IndexFunc_int_int_at_poly_May_1.l0] at H
   by_cases c3 : x8_1 < (l0.length : Int)
   ·rw [if_pos c3] at H
    have c3b0 : decide (x8_1 < (l0.length : Int)) = true := decide_eq_true c3
    clear c3
    by_cases c4 : 0 ≤ x8_1
    ·rw [if_pos c4] at H
     have c4b0 : decide (0 ≤ x8_1) = true := decide_eq_true c4
     clear c4
     by_cases c5 : x8_1 < (l0.length : Int)
     ·rw [if_pos c5] at H
      have c5b0 : decide (x8_1 < (l0.length : Int)) = true := decide_eq_true c5
      clear c5
      replace H := Option.bind_eq_some_iff.mp H
      obtain ⟨t107, A60, H⟩ := H
      try dsimp only at H
      have A6 := Aside0.mk A60
      clear A60
      by_cases c7 : t107 = true
      ·subst c7
       rw [if_pos rfl] at H
       obtain rfl := Option.some.inj H
       have p106 : 0 ≤ (x8_1 : Int) := of_decide_eq_true Aq
       have q106 : x8_1 < (l0.length : Int) := of_decide_eq_true Aq
       obtain ⟨ad106, e106, hx106_0⟩ := Kd.at_int HR0.out x8_1 p106 q106
       cases e106
       replace p106 := eq_true p106
       replace q106 := eq_true q106
       go_wp2_with (first | (go_at_call 37; (with_reducible refine (poly_May_1.calls (rd l0 x8_1) true _ A6.out).mono ?_); rintro e w' ⟨rfl, ⟨nd, rfl⟩⟩))
       go_ret
       exact ⟨by first | rfl | (simp; done) | (simp [*]; done), by repeat (first | exact Drawn0.refl _ | apply Drawn0.step)⟩
      ·replace c7 := Bool.eq_false_iff.mpr c7
       subst c7
       rw [if_neg nf] at H
       have H' := Aside0.mk H
       clear H
       have p106 : 0 ≤ (x8_1 : Int) := of_decide_eq_true Aq
       have q106 : x8_1 < (l0.length : Int) := of_decide_eq_true Aq
       obtain ⟨ad106, e106, hx106_0⟩ := Kd.at_int HR0.out x8_1 p106 q106
       cases e106
       replace p106 := eq_true p106
       replace q106 := eq_true q106
       go_wp2_with (first | (go_at_call 37; (with_reducible refine (poly_May_1.calls (rd l0 x8_1) false _ A6.out).mono ?_); rintro e w' ⟨rfl, ⟨nd, rfl⟩⟩))
       go_roundg k1
       case measure => have := HK1.out; omega
       case rel => exact ⟨(wrap64 (x8_1 + 1)), Rq, H', ⟨by have := HK1.out; omega⟩, by repeat (first | exact Drawn0.refl _ | apply Drawn0.step)⟩
     ·rw [if_neg c5] at H
      exact absurd H (by simp)
    ·rw [if_neg c4] at H
     exact absurd H (by simp)
   ·rw [if_neg c3] at H
    have c3b0 : decide (x8_1 < (l0.length : Int)) = false := decide_eq_false c3
    clear c3
    obtain rfl := Option.some.inj H
    go_wp2
    go_ret
    exact ⟨by first | rfl | (simp; done) | (simp [*]; done), by repeat (first | exact Drawn0.refl _ | apply Drawn0.step)⟩

/-! ### slices_ContainsFunc_int_int_at_poly_May_1: function 36 -/
def slices_ContainsFunc_int_int_at_poly_May_1.f (k : Nat) (l0 : List Int)  : Option (Bool) := (slices_IndexFunc_int_int_at_poly_May_1.f k l0).bind fun t108 => (some (decide (t108 ≥ 0)))
set_option maxHeartbeats 8000000 in
set_option maxRecDepth 100000 in
theorem slices_ContainsFunc_int_int_at_poly_May_1.calls (k : Nat) (A0 : Option Addr) (c0 : Nat) (l0 : List Int)  (r : Bool) (w : World) (hr0 : Kd.C (Kd.int .i64) w A0 l0.length l0) (hc0 : l0.length ≤ c0) (h : slices_ContainsFunc_int_int_at_poly_May_1.f k l0 = some r) :
  Calls Tryd.prog 36 #[.slice A0 l0.length c0, .func (.func 37) #[] #[]] w fun e w' => e = .returned (.bool r) ∧ Drawn0 w w' := by
 have HR0 := Aside0.mk hr0
 have HC0 := Aside0.mk hc0
 clear hr0 hc0
 have H := h
 unfold slices_ContainsFunc_int_int_at_poly_May_1.f at H
 clear h
 replace H := Option.bind_eq_some_iff.mp H
 obtain ⟨t108, A30, H⟩ := H
 try dsimp only at H
 have A3 := Aside0.mk A30
 clear A30
 obtain rfl := Option.some.inj H
 go_enter Tryd.func36, Tryd.ntmps36
 go_wp2_with (first | ((with_reducible refine gate_callee (f := 57) rfl ?_); refine goesL_ (some 7) rfl rfl Tryd.func57 (by kernel_rfl) rfl #[.slice A0 l0.length c0, .func (.func 37) #[] #[]] rfl Mq ?_; (with_reducible refine (slices_IndexFunc_int_int_at_poly_May_1.calls k _ _ l0  t108 _ ?side1 ?side2 A3.out).mono ?_); (case side1 => exact Cq (HR0.out)); (case side2 => exact HC0.out); rintro e w' ⟨rfl, ⟨nd, rfl⟩⟩; refine ⟨_, rfl, ?_⟩))
 go_ret
 exact ⟨by first | rfl | (simp; done) | (simp [*]; done), by repeat (first | exact Drawn0.refl _ | apply Drawn0.step)⟩

/-! ### poly_May: function 17 -/
def poly_May.f (k : Nat) (l0 : List Int) : Option (Bool) := if (l0.length : Int) = 256 then ((slices_ContainsFunc_int_int_at_poly_May_1.f k l0).bind fun t109 => (some (!t109))) else (some false)
set_option maxHeartbeats 8000000 in
set_option maxRecDepth 100000 in
theorem poly_May.calls (k : Nat) (A0 : Option Addr) (c0 : Nat) (l0 : List Int) (r : Bool) (w : World) (hr0 : Kd.C (Kd.int .i64) w A0 l0.length l0) (hc0 : l0.length ≤ c0) (h : poly_May.f k l0 = some r) :
  Calls Tryd.prog 17 #[.slice A0 l0.length c0] w fun e w' => e = .returned (.bool r) ∧ Drawn0 w w' := by
 have HR0 := Aside0.mk hr0
 have HC0 := Aside0.mk hc0
 clear hr0 hc0
 have H := h
 unfold poly_May.f at H
 clear h
 by_cases c2 : (l0.length : Int) = 256
 ·rw [if_pos c2] at H
  have c2b0 : ((l0.length : Int) == 256) = true := beq_iff_eq.mpr c2
  have c2b1 : ((l0.length : Int) != 256) = false := bne_eq_false_iff_eq.mpr c2
  clear c2
  replace H := Option.bind_eq_some_iff.mp H
  obtain ⟨t109, A30, H⟩ := H
  try dsimp only at H
  have A3 := Aside0.mk A30
  clear A30
  obtain rfl := Option.some.inj H
  go_enter Tryd.func17, Tryd.ntmps17
  go_wp2_with (first | (go_at_call 36; (with_reducible refine (slices_ContainsFunc_int_int_at_poly_May_1.calls k _ _ l0  t109 _ ?side1 ?side2 A3.out).mono ?_); (case side1 => exact Cq (HR0.out)); (case side2 => exact HC0.out); rintro e w' ⟨rfl, ⟨nd, rfl⟩⟩))
  go_ret
  exact ⟨by first | rfl | (simp; done) | (simp [*]; done), by repeat (first | exact Drawn0.refl _ | apply Drawn0.step)⟩
 ·rw [if_neg c2] at H
  have c2b0 : ((l0.length : Int) == 256) = false := beq_eq_false_iff_ne.mpr c2
  have c2b1 : ((l0.length : Int) != 256) = true := bne_iff_ne.mpr c2
  obtain rfl := Option.some.inj H
  go_enter Tryd.func17, Tryd.ntmps17
  go_wp2
  go_ret
  exact ⟨by first | rfl | (simp; done) | (simp [*]; done), by repeat (first | exact Drawn0.refl _ | apply Drawn0.step)⟩

/-! ### slices_Clone_int_int: function 65 -/
def slices_Clone_int_int.f (l0 : List Int) : Option (List Int) := (some (([] : List Int) : List Int)).bind fun y110 => (if y110.length + l0.length < 17592186044416 then (some (y110 ++ l0)) else (none))
set_option maxHeartbeats 8000000 in
set_option maxRecDepth 100000 in
theorem slices_Clone_int_int.calls (A0 : Option Addr) (c0 : Nat) (l0 : List Int) (r : List Int) (w : World) (hr0 : Kd.C (Kd.int .i64) w A0 l0.length l0) (hc0 : l0.length ≤ c0) (h : slices_Clone_int_int.f l0 = some r) :
  Calls Tryd.prog 65 #[.slice A0 l0.length c0] w fun e w' => ∃ v0_ : Value, e = .returned (v0_) ∧ Kd.R (Kd.int .i64) 3 w' w.heap.size (fun _ => True) v0_ r ∧ Below w.heap.size w w' := by
 have HR0 := Aside0.mk hr0
 have HC0 := Aside0.mk hc0
 clear hr0 hc0
 have HB := Aside0.mk (Below.refl w.heap.size w)
 have H := h
 unfold slices_Clone_int_int.f at H
 clear h
 have hq3 : ∀ (W_ : World) (n_ c_ n2_ c2_ : Nat), (binOp .eql 40 (.slice A0 n_ c_) (.slice none n2_ c2_)).run Tryd.prog W_ = .ok (.bool (A0 : Option Addr).isNone) W_ := fun W_ n_ c_ n2_ c2_ => Lib.run_eql_slice_nil W_ _ _ A0 n_ c_ n2_ c2_ Tryd.underlying40
 by_cases cN2 : (A0 : Option Addr).isNone = true
 ·have hl_ : l0 = [] := own_C_none (Option.isNone_iff_eq_none.mp cN2) HR0.out
  subst hl_
  have H1 : (some ([] : List Int)) = some r := by first | exact H | (simpa using H)
  clear H
  have H := H1
  clear H1
  obtain rfl := Option.some.inj H
  go_enter Tryd.func65, Tryd.ntmps65
  go_wp2
  go_ret
  exact ⟨_, by first | rfl | (simp [errW_none, errW_some] <;> rfl) | (simp [*, errW_none, errW_some] <;> rfl), by first | exact Kd.R_nil _ _ _ _ _ | exact Kd.N_nil _ _ _ _ _ | exact Kd.V_nil _ _ _ _ _ | exact Kd.Q_nil _ _ _ _ _ | exact Kd.S_nil _ _ _ _ _, Bq⟩
 ·replace cN2 := Bool.eq_false_iff.mpr cN2
  obtain ⟨y110, Ny110⟩ : ∃ y_ : List Int, Aside0 (y_ = (([] : List Int))) := ⟨_, ⟨rfl⟩⟩
  first | rw [Option.bind_some, ← Ny110.out] at H | rw [← Ny110.out] at H
  by_cases c4 : y110.length + l0.length < 17592186044416
  ·rw [if_pos c4] at H
   have LMc4 := Aside0.mk c4
   clear c4
   obtain ⟨y113, Ny113⟩ : ∃ y_ : List Int, Aside0 (y_ = (y110 ++ l0)) := ⟨_, ⟨rfl⟩⟩
   first | rw [Option.bind_some, ← Ny113.out] at H | rw [← Ny113.out] at H
   obtain rfl := Option.some.inj H
   go_enter Tryd.func65, Tryd.ntmps65
   go_wp2_with (first | ((with_reducible refine gate_dst (N := 5) rfl ?_); refine Kd.R_lit (Kd.int .i64) _ 3 ?hg (N := 5) ?hd (xs := ([] : List Int)) (inner := []) (ok := fun _ => True) (okp := fun _ => True) ?hr ?hp (fun _ hk => hk) trivial (Below.refl _ _) (Nat.le_refl _) (by simp) ?_; (case hd => rfl); (case hg => rfl); (case hr => first | (go_simp; done) | (go_simp; rfl)); (case hp => exact (Reps.none _ _)); intro v111 w5 ho6 hb hg_ hnew_; clear hg_ hnew_; (first | rw [← Ny110.out] at ho6 | (simp only [Int.reduceToNat] at ho6; rw [← Ny110.out] at ho6)); have HO112 := Aside0.mk (Kd.R_lower ho6 (below_size Bq)); replace HB := Aside0.mk (below_step Bq hb); clear hb ho6) | ((with_reducible refine gate_builtin (b := .append) (xs := #[.tmp 5, .tmp 6]) rfl ?_); at_builtin; refine Kd.R_append_rows (Kd.int .i64) (w0 := w) w.heap.size rfl (.tmp 5) (.tmp 6) 40 3 (.int .i64 0) 8 rfl Tryd.underlying40 info3 rfl (by decide) (by omega) v111 y110 l0 _ _ _ (fun _ => True) (fun _ => False) rfl rfl ?aO ?aR (fun _ _ h => h) (fun _ h => h.elim) ?aF ?aB ?aS ?aL ?_; (case aR => repeat (first | exact (Kd.C_below HR0.out HB.out) | (with_reducible refine Kd.C_alloc ?_ _) | (with_reducible refine Kd.C_drewN ?_ _) | (with_reducible refine Kd.C_drew ?_))); (case aB => exact Bq); (case aF => exact (fun _ _ => trivial)); (case aO => exact (Wq HO112)); (case aS => exact (below_size Bq)); (case aL => have := LMc4.out; omega); intro v114 w7 ho hb hg hat; rw [← Ny113.out] at ho; replace HB := Aside0.mk (hb); have HO115 := Aside0.mk (ho); clear HO112; clear ho hb hg hat))
   go_ret
   exact ⟨_, by first | rfl | (simp [errW_none, errW_some] <;> rfl) | (simp [*, errW_none, errW_some] <;> rfl), Wq HO115, Bq⟩
  ·rw [if_neg c4] at H
   exact absurd H (by simp)

/-! ### ring_Of: function 70 -/
def ring_Of.f (a0 : Int) : Option (Int) := if (Int.tmod a0 3329) < 0 then (some (wrap64 ((Int.tmod a0 3329) + 3329))) else (some (Int.tmod a0 3329))
set_option maxHeartbeats 8000000 in
set_option maxRecDepth 100000 in
theorem ring_Of.calls (a0 : Int) (r : Int) (w : World) (h : ring_Of.f a0 = some r) :
  Calls Tryd.prog 70 #[.int .i64 a0] w fun e w' => e = .returned (.int .i64 r) ∧ Drawn0 w w' := by
 have H := h
 unfold ring_Of.f at H
 clear h
 by_cases c2 : (Int.tmod a0 3329) < 0
 ·rw [if_pos c2] at H
  have c2b0 : decide ((Int.tmod a0 3329) < 0) = true := decide_eq_true c2
  clear c2
  obtain rfl := Option.some.inj H
  go_enter Tryd.func70, Tryd.ntmps70
  go_wp2
  go_ret
  exact ⟨by first | rfl | (simp; done) | (simp [*]; done), by repeat (first | exact Drawn0.refl _ | apply Drawn0.step)⟩
 ·rw [if_neg c2] at H
  have c2b0 : decide ((Int.tmod a0 3329) < 0) = false := decide_eq_false c2
  clear c2
  obtain rfl := Option.some.inj H
  go_enter Tryd.func70, Tryd.ntmps70
  go_wp2
  go_ret
  exact ⟨by first | rfl | (simp; done) | (simp [*]; done), by repeat (first | exact Drawn0.refl _ | apply Drawn0.step)⟩

end Go.Proofs.YtkdfcgihgndnnaaDoor.PPA
end
section
namespace Go.Proofs.YtkdfcgihgndnnaaDoor.PPA
open Go.RowKit Go.Proofs.YtkdfcgihgndnnaaDoorW.PrintWords Go.Proofs.YtkdfcgihgndnnaaDoorW.PrintLast Go.Proofs.YtkdfcgihgndnnaaDoorW.PrintMore Go.Proofs.YtkdfcgihgndnnaaDoorW.PrintZip
attribute [local go_sem] max2_int min2_int max_two min_two max_three min_three max_four min_four   -- for this text's walks alone
set_option linter.unusedVariables false
set_option linter.unusedSimpArgs false

/-! ### ring_Pow: function 79 -/
def ring_Pow.l0 : Nat → Int → Int → Int → Option (Int)
 | 0, _, _, _ => none
 | k + 1, x0, x1, x5 => if x1 > 0 then (if (Int.tmod x1 2) = 1 then (ring_Pow.l0 k (Int.tmod (wrap64 (x0 * x0)) 3329) (wrap64 (Int.tdiv x1 2)) (Int.tmod (wrap64 (x5 * x0)) 3329)) else (ring_Pow.l0 k (Int.tmod (wrap64 (x0 * x0)) 3329) (wrap64 (Int.tdiv x1 2)) x5)) else (some x5)
def ring_Pow.f (k : Nat) (a0 : Int) (a1 : Int) : Option (Int) := if a1 < 0 then (some 0) else ((ring_Of.f a0).bind fun t116 => (ring_Pow.l0 k t116 a1 1))
set_option maxHeartbeats 8000000 in
set_option maxRecDepth 100000 in
theorem ring_Pow.calls (k : Nat) (a0 : Int) (a1 : Int) (r : Int) (w : World) (h : ring_Pow.f k a0 a1 = some r) :
  Calls Tryd.prog 79 #[.int .i64 a0, .int .i64 a1] w fun e w' => e = .returned (.int .i64 r) ∧ Drawn0 w w' := by
 have H := h
 unfold ring_Pow.f at H
 clear h
 by_cases c3 : a1 < 0
 ·rw [if_pos c3] at H
  have c3b0 : decide (a1 < 0) = true := decide_eq_true c3
  clear c3
  obtain rfl := Option.some.inj H
  go_enter Tryd.func79, Tryd.ntmps79
  go_wp2
  go_ret
  exact ⟨by first | rfl | (simp; done) | (simp [*]; done), by repeat (first | exact Drawn0.refl _ | apply Drawn0.step)⟩
 ·rw [if_neg c3] at H
  have c3b0 : decide (a1 < 0) = false := decide_eq_false c3
  clear c3
  replace H := Option.bind_eq_some_iff.mp H
  obtain ⟨t116, A40, H⟩ := H
  try dsimp only at H
  have A4 := Aside0.mk A40
  clear A40
  have H' := Aside0.mk H
  clear H
  go_enter Tryd.func79, Tryd.ntmps79
  go_wp2_with (first | ((with_reducible refine gate_callee (f := 70) rfl ?_); refine goesL_ (some 9) rfl rfl Tryd.func70 (by kernel_rfl) rfl #[.int .i64 a0] rfl Mq ?_; (with_reducible refine (ring_Of.calls a0 t116 _ A4.out).mono ?_); rintro e w' ⟨rfl, ⟨nd, rfl⟩⟩; refine ⟨_, rfl, ?_⟩))
  go_loopg [0, 1, 5] k (fun kq v0 v1 v5 w' => ∃ (x0_1 : Int) (x1_1 : Int) (x5_1 : Int), v0 = .int .i64 x0_1 ∧ v1 = .int .i64 x1_1 ∧ v5 = .int .i64 x5_1 ∧ Aside0 (ring_Pow.l0 kq x0_1 x1_1 x5_1 = some r) ∧ Aside0 (kq ≤ k) ∧ Drawn0 w w')
  case atStart => exact ⟨(t116), (a1), (1), Rq, Rq, Rq, H', ⟨Nat.le_refl _⟩, by repeat (first | exact Drawn0.refl _ | apply Drawn0.step)⟩
  case round =>
   clear H'
   try clear p2
   try clear c3
   try clear c3b0
   obtain ⟨x0_1, x1_1, x5_1, rfl, rfl, rfl, HA, HK1, ⟨m1, rfl⟩⟩ := hrel
   cases gk with
   | zero => exact absurd HA.out (by simp [ring_Pow.l0])
   | succ k1 =>
    have H := HA.out
    clear HA
    simp only [ring_Pow.l0] at H
    by_cases c5 : x1_1 > 0
    ·rw [if_pos c5] at H
     have c5b0 : decide (0 < x1_1) = true := decide_eq_true c5
     clear c5
     by_cases c6 : (Int.tmod x1_1 2) = 1
     ·rw [if_pos c6] at H
      have c6b0 : ((Int.tmod x1_1 2) == 1) = true := beq_iff_eq.mpr c6
      have c6b1 : ((Int.tmod x1_1 2) != 1) = false := bne_eq_false_iff_eq.mpr c6
      clear c6
      have H' := Aside0.mk H
      clear H
      go_wp2
      go_roundg k1
      case measure => have := HK1.out; omega
      case rel => exact ⟨(Int.tmod (wrap64 (x0_1 * x0_1)) 3329), (wrap64 (Int.tdiv x1_1 2)), (Int.tmod (wrap64 (x5_1 * x0_1)) 3329), Rq, Rq, Rq, H', ⟨by have := HK1.out; omega⟩, by repeat (first | exact Drawn0.refl _ | apply Drawn0.step)⟩
     ·rw [if_neg c6] at H
      have c6b0 : ((Int.tmod x1_1 2) == 1) = false := beq_eq_false_iff_ne.mpr c6
      have c6b1 : ((Int.tmod x1_1 2) != 1) = true := bne_iff_ne.mpr c6
      have H' := Aside0.mk H
      clear H
      go_wp2
      go_roundg k1
      case measure => have := HK1.out; omega
      case rel => exact ⟨(Int.tmod (wrap64 (x0_1 * x0_1)) 3329), (wrap64 (Int.tdiv x1_1 2)), (x5_1), Rq, Rq, Rq, H', ⟨by have := HK1.out; omega⟩, by repeat (first | exact Drawn0.refl _ | apply Drawn0.step)⟩
    ·rw [if_neg c5] at H
     have c5b0 : decide (0 < x1_1) = false := decide_eq_false c5
     clear c5
     obtain rfl := Option.some.inj H
     go_wp2
     go_ret
     exact ⟨by first | rfl | (simp; done) | (simp [*]; done), by repeat (first | exact Drawn0.refl _ | apply Drawn0.step)⟩

/-! ### ring_Root: function 66 -/
def ring_Root.l0 : Nat → Int → Int → Int → Option (Int)
 | 0, _, _, _ => none
 | k + 1, x0, x3, x5 => if x5 < 7 then (if 0 ≤ x5 then (ring_Root.l0 k x0 (wrap64 ((wrap64 (2 * x3)) + (Go.bits .and .i64 (shr .i64 x0 x5) 1))) (wrap64 (x5 + 1))) else (none)) else ((ring_Pow.f k 17 x3).bind fun t117 => (some t117))
def ring_Root.f (k : Nat) (a0 : Int) : Option (Int) := ring_Root.l0 k a0 0 0
set_option maxHeartbeats 8000000 in
set_option maxRecDepth 100000 in
theorem ring_Root.calls (k : Nat) (a0 : Int) (r : Int) (w : World) (h : ring_Root.f k a0 = some r) :
  Calls Tryd.prog 66 #[.int .i64 a0] w fun e w' => e = .returned (.int .i64 r) ∧ Drawn0 w w' := by
 have H := h
 unfold ring_Root.f at H
 clear h
 have H' := Aside0.mk H
 clear H
 go_enter Tryd.func66, Tryd.ntmps66
 go_wp2
 go_loopg [3, 5] k (fun kq v3 v5 w' => ∃ (x3_1 : Int) (x5_1 : Int), v3 = .int .i64 x3_1 ∧ v5 = .int .i64 x5_1 ∧ Aside0 (ring_Root.l0 kq a0 x3_1 x5_1 = some r) ∧ Aside0 (kq ≤ k) ∧ Drawn0 w w')
 case atStart => exact ⟨(0), (0), Rq, Rq, H', ⟨Nat.le_refl _⟩, by repeat (first | exact Drawn0.refl _ | apply Drawn0.step)⟩
 case round =>
  clear H'
  obtain ⟨x3_1, x5_1, rfl, rfl, HA, HK1, ⟨m1, rfl⟩⟩ := hrel
  cases gk with
  | zero => exact absurd HA.out (by simp [ring_Root.l0])
  | succ k1 =>
   have H := HA.out
   clear HA
   simp only [ring_Root.l0] at H
   by_cases c2 : x5_1 < 7
   ·rw [if_pos c2] at H
    have c2b0 : decide (x5_1 < 7) = true := decide_eq_true c2
    clear c2
    by_cases c3 : 0 ≤ x5_1
    ·rw [if_pos c3] at H
     have c3b0 := eq_true c3
     have c3b1 : decide (0 ≤ x5_1) = true := decide_eq_true c3
     clear c3
     obtain ⟨ji4, hji4⟩ : ∃ j_ : Int, (shr .i64 a0 x5_1) = j_ := ⟨_, rfl⟩
     replace H : (ring_Root.l0 k1 a0 (wrap64 ((wrap64 (2 * x3_1)) + (Go.bits .and .i64 (ji4) 1))) (wrap64 (x5_1 + 1))) = some r := by first | (rw [hji4] at H; exact H) | (simp only [hji4] at H ⊢; exact H)
     have hji4_ : (a0 / 2 ^ min x5_1.toNat 64) = ji4 := hji4
     have hji4z : x5_1 ≤ 64 → (a0 / 2 ^ x5_1.toNat) = ji4 := shr_small hji4
     have H' := Aside0.mk H
     clear H
     go_wp2
     go_roundg k1
     case measure => have := HK1.out; omega
     case rel => exact ⟨(wrap64 ((wrap64 (2 * x3_1)) + (Go.bits .and .i64 (ji4) 1))), (wrap64 (x5_1 + 1)), (by first | rfl | (simp; done) | (simp only [← hji4] <;> (first | rfl | simp)) | (simp [*]; done)), Rq, H', ⟨by have := HK1.out; omega⟩, by repeat (first | exact Drawn0.refl _ | apply Drawn0.step)⟩
    ·rw [if_neg c3] at H
     exact absurd H (by simp)
   ·rw [if_neg c2] at H
    have c2b0 : decide (x5_1 < 7) = false := decide_eq_false c2
    clear c2
    replace H := Option.bind_eq_some_iff.mp H
    obtain ⟨t117, A50, H⟩ := H
    try dsimp only at H
    have A5 := Aside0.mk A50
    clear A50
    obtain rfl := Option.some.inj H
    go_wp2_with (first | ((with_reducible refine gate_callee (f := 79) rfl ?_); refine goesL_ (some 17) rfl rfl Tryd.func79 (by kernel_rfl) rfl #[.int .i64 17, .int .i64 x3_1] rfl Mq ?_; (with_reducible refine (ring_Pow.calls k1 17 x3_1 t117 _ A5.out).mono ?_); rintro e w' ⟨rfl, ⟨nd, rfl⟩⟩; refine ⟨_, rfl, ?_⟩))
    go_ret
    exact ⟨by first | rfl | (simp; done) | (simp [*]; done), by repeat (first | exact Drawn0.refl _ | apply Drawn0.step)⟩

end Go.Proofs.YtkdfcgihgndnnaaDoor.PPA
end
section
namespace Go.Proofs.YtkdfcgihgndnnaaDoor.PPA
open Go.RowKit Go.Proofs.YtkdfcgihgndnnaaDoorW.PrintWords Go.Proofs.YtkdfcgihgndnnaaDoorW.PrintLast Go.Proofs.YtkdfcgihgndnnaaDoorW.PrintMore Go.Proofs.YtkdfcgihgndnnaaDoorW.PrintZip
attribute [local go_sem] max2_int min2_int max_two min_two max_three min_three max_four min_four   -- for this text's walks alone
set_option linter.unusedVariables false
set_option linter.unusedSimpArgs false

/-! ### poly_Over: function 45 -/
mutual
def poly_Over.l0 : Nat → List Int → Int → Int → Option (List Int)
 | 0, _, _, _ => none
 | k + 1, x0, x3, x4 => if x4 ≥ 2 then (poly_Over.l1 k x0 x3 x4 0) else (some x0)
def poly_Over.l1 : Nat → List Int → Int → Int → Int → Option (List Int)
 | 0, _, _, _, _ => none
 | k + 1, x0, x3, x4, x5 => if x5 < 256 then ((ring_Root.f k x3).bind fun t122 => (poly_Over.l2 k x0 (wrap64 (x3 + 1)) x4 x5 t122 x5)) else (poly_Over.l0 k x0 x3 (wrap64 (Int.tdiv x4 2)))
def poly_Over.l2 : Nat → List Int → Int → Int → Int → Int → Int → Option (List Int)
 | 0, _, _, _, _, _, _ => none
 | k + 1, x0, x3, x4, x5, x6, x7 => if x7 < (wrap64 (x5 + x4)) then (if 0 ≤ (wrap64 (x7 + x4)) then (if (wrap64 (x7 + x4)) < (x0.length : Int) then (if 0 ≤ x7 then (if x7 < (x0.length : Int) then ((some (x0.set ((wrap64 (x7 + x4)) : Int).toNat (Int.tmod (wrap64 ((wrap64 ((rd x0 x7) + 3329)) - (Int.tmod (wrap64 (x6 * (rd x0 (wrap64 (x7 + x4))))) 3329))) 3329) : List Int)).bind fun y125 => (poly_Over.l2 k (y125.set (x7 : Int).toNat (Int.tmod (wrap64 ((rd y125 x7) + (Int.tmod (wrap64 (x6 * (rd x0 (wrap64 (x7 + x4))))) 3329))) 3329)) x3 x4 x5 x6 (wrap64 (x7 + 1)))) else (none)) else (none)) else (none)) else (none)) else (poly_Over.l1 k x0 x3 x4 (wrap64 (x5 + (wrap64 (2 * x4)))))
end
def poly_Over.f (k : Nat) (l0 : List Int) : Option (List Int) := (poly_May.f k l0).bind fun t118 => (if t118 = true then ((slices_Clone_int_int.f l0).bind fun t119 => (poly_Over.l0 k t119 1 128)) else (some ([] : List Int)))
set_option maxHeartbeats 8000000 in
set_option maxRecDepth 100000 in
theorem poly_Over.calls (k : Nat) (A0 : Option Addr) (c0 : Nat) (l0 : List Int) (r : List Int) (w : World) (hr0 : Kd.C (Kd.int .i64) w A0 l0.length l0) (hc0 : l0.length ≤ c0) (h : poly_Over.f k l0 = some r) :
  Calls Tryd.prog 45 #[.slice A0 l0.length c0] w fun e w' => ∃ v0_ : Value, e = .returned (v0_) ∧ Kd.R (Kd.int .i64) 3 w' w.heap.size (fun _ => True) v0_ r ∧ Below w.heap.size w w' := by
 have HR0 := Aside0.mk hr0
 have HC0 := Aside0.mk hc0
 clear hr0 hc0
 have HB := Aside0.mk (Below.refl w.heap.size w)
 have H := h
 unfold poly_Over.f at H
 clear h
 replace H := Option.bind_eq_some_iff.mp H
 obtain ⟨t118, A20, H⟩ := H
 try dsimp only at H
 have A2 := Aside0.mk A20
 clear A20
 by_cases c3 : t118 = true
 ·subst c3
  rw [if_pos rfl] at H
  replace H := Option.bind_eq_some_iff.mp H
  obtain ⟨t119, A40, H⟩ := H
  try dsimp only at H
  have A4 := Aside0.mk A40
  clear A40
  have H' := Aside0.mk H
  clear H
  go_enter Tryd.func45, Tryd.ntmps45
  go_wp2_with (first | ((with_reducible refine gate_callee (f := 17) rfl ?_); refine goesL_ (some 10) rfl rfl Tryd.func17 (by kernel_rfl) rfl #[.slice A0 l0.length c0] rfl Mq ?_; (with_reducible refine (poly_May.calls k _ _ l0 true _ ?side1 ?side2 A2.out).mono ?_); (case side1 => exact Cq (HR0.out)); (case side2 => exact HC0.out); rintro e w' ⟨rfl, ⟨nd, rfl⟩⟩; refine ⟨_, rfl, ?_⟩) | ((with_reducible refine gate_callee (f := 65) rfl ?_); refine goesL_ (some 13) rfl rfl Tryd.func65 (by kernel_rfl) rfl #[.slice A0 l0.length c0] rfl Mq ?_; (with_reducible refine (slices_Clone_int_int.calls _ _ l0 t119 _ ?side1 ?side2 A4.out).mono ?_); (case side1 => exact Cq (HR0.out)); (case side2 => exact HC0.out); rintro e w5 ⟨v120, rfl, ho0, hb⟩; refine ⟨_, rfl, ?_⟩; have HO121 := Aside0.mk (Kd.R_lower ho0 (below_size Bq)); replace HB := Aside0.mk (below_step Bq hb); clear hb ho0; (try clear A4)))
  go_loopg [3, 4] k (fun kq v3 v4 w' => ∃ (x0_1 : List Int) (x3_1 : Int) (x4_1 : Int), v3 = .int .i64 x3_1 ∧ v4 = .int .i64 x4_1 ∧ Aside0 (poly_Over.l0 kq x0_1 x3_1 x4_1 = some r) ∧ Aside0 (kq ≤ k) ∧ Aside0 (Kd.R (Kd.int .i64) 3 w' w.heap.size (fun _ => True) v120 x0_1) ∧ Aside0 (Below w.heap.size w w'))
  case atStart => exact ⟨(t119), (1), (128), Rq, Rq, H', ⟨Nat.le_refl _⟩, ⟨Wq HO121⟩, ⟨Bq⟩⟩
  case round =>
   clear H'
   try clear c1
   try clear p2
   try clear c3
   try clear c4
   obtain ⟨x0_1, x3_1, x4_1, rfl, rfl, HA, HK1, HO_0, HB⟩ := hrel
   cases gk with
   | zero => exact absurd HA.out (by simp [poly_Over.l0])
   | succ k1 =>
    have H := HA.out
    clear HA
    simp only [poly_Over.l0] at H
    by_cases c6 : x4_1 ≥ 2
    ·rw [if_pos c6] at H
     have c6b0 : decide (2 ≤ x4_1) = true := decide_eq_true c6
     clear c6
     have H' := Aside0.mk H
     clear H
     go_wp2
     go_loopg [3, 5] k1 (fun kq v3 v5 w' => ∃ (x0_2 : List Int) (x3_2 : Int) (x5_2 : Int), v3 = .int .i64 x3_2 ∧ v5 = .int .i64 x5_2 ∧ Aside0 (poly_Over.l1 kq x0_2 x3_2 x4_1 x5_2 = some r) ∧ Aside0 (kq ≤ k1) ∧ Aside0 (Kd.R (Kd.int .i64) 3 w' w.heap.size (fun _ => True) v120 x0_2) ∧ Aside0 (Below w.heap.size w w'))
     case atStart => exact ⟨(x0_1), (x3_1), (0), Rq, Rq, H', ⟨Nat.le_refl _⟩, ⟨Wq HO_0⟩, ⟨Bq⟩⟩
     case round =>
      clear H'
      try clear c1
      try clear p2
      try clear c3
      try clear c4
      try clear c6
      try clear c6b0
      try clear p2
      obtain ⟨x0_2, x3_2, x5_2, rfl, rfl, HA, HK2, HO_0, HB⟩ := hrel
      cases gk with
      | zero => exact absurd HA.out (by simp [poly_Over.l1])
      | succ k2 =>
       have H := HA.out
       clear HA
       simp only [poly_Over.l1] at H
       by_cases c7 : x5_2 < 256
       ·rw [if_pos c7] at H
        have c7b0 : decide (x5_2 < 256) = true := decide_eq_true c7
        clear c7
        replace H := Option.bind_eq_some_iff.mp H
        obtain ⟨t122, A80, H⟩ := H
        try dsimp only at H
        have A8 := Aside0.mk A80
        clear A80
        have H' := Aside0.mk H
        clear H
        go_wp2_with (first | ((with_reducible refine gate_callee (f := 66) rfl ?_); refine goesL_ (some 25) rfl rfl Tryd.func66 (by kernel_rfl) rfl #[.int .i64 x3_2] rfl Mq ?_; (with_reducible refine (ring_Root.calls k2 x3_2 t122 _ A8.out).mono ?_); rintro e w' ⟨rfl, ⟨nd, rfl⟩⟩; refine ⟨_, rfl, ?_⟩))
        go_loopg [7] k2 (fun kq v7 w' => ∃ (x0_3 : List Int) (x7_3 : Int), v7 = .int .i64 x7_3 ∧ Aside0 (poly_Over.l2 kq x0_3 (wrap64 (x3_2 + 1)) x4_1 x5_2 t122 x7_3 = some r) ∧ Aside0 (kq ≤ k2) ∧ Aside0 (Kd.R (Kd.int .i64) 3 w' w.heap.size (fun _ => True) v120 x0_3) ∧ Aside0 (Below w.heap.size w w'))
        case atStart => exact ⟨(x0_2), (x5_2), Rq, H', ⟨Nat.le_refl _⟩, ⟨Wq HO_0⟩, ⟨Bq⟩⟩
        case round =>
         clear H'
         try clear c1
         try clear p2
         try clear c3
         try clear c4
         try clear c6
         try clear c6b0
         try clear p6
         try clear c7
         try clear c7b0
         try clear p2
         obtain ⟨x0_3, x7_3, rfl, HA, HK3, HO_0, HB⟩ := hrel
         cases gk with
         | zero => exact absurd HA.out (by simp [poly_Over.l2])
         | succ k3 =>
          have H := HA.out
          clear HA
          simp only [poly_Over.l2] at H
          by_cases c9 : x7_3 < (wrap64 (x5_2 + x4_1))
          ·rw [if_pos c9] at H
           have c9b0 : decide (x7_3 < (wrap64 (x5_2 + x4_1))) = true := decide_eq_true c9
           clear c9
           obtain ⟨ji10, hji10⟩ : ∃ j_ : Int, (wrap64 (x7_3 + x4_1)) = j_ := ⟨_, rfl⟩
           replace H : (if 0 ≤ (ji10) then (if (ji10) < (x0_3.length : Int) then (if 0 ≤ x7_3 then (if x7_3 < (x0_3.length : Int) then ((some (x0_3.set ((ji10) : Int).toNat (Int.tmod (wrap64 ((wrap64 ((rd x0_3 x7_3) + 3329)) - (Int.tmod (wrap64 (t122 * (rd x0_3 (ji10)))) 3329))) 3329) : List Int)).bind fun y125 => (poly_Over.l2 k3 (y125.set (x7_3 : Int).toNat (Int.tmod (wrap64 ((rd y125 x7_3) + (Int.tmod (wrap64 (t122 * (rd x0_3 (ji10)))) 3329))) 3329)) (wrap64 (x3_2 + 1)) x4_1 x5_2 t122 (wrap64 (x7_3 + 1)))) else (none)) else (none)) else (none)) else (none)) = some r := by first | (rw [hji10] at H; exact H) | (simp only [hji10] at H ⊢; exact H)
           have hji10w : (IntKind.i64.wrap (x7_3 + x4_1)) = ji10 := (i64_w _).trans hji10
           by_cases c11 : 0 ≤ (ji10)
           ·rw [if_pos c11] at H
            have c11b0 : decide (0 ≤ (ji10)) = true := decide_eq_true c11
            clear c11
            by_cases c12 : (ji10) < (x0_3.length : Int)
            ·rw [if_pos c12] at H
             have c12b0 : decide ((ji10) < (x0_3.length : Int)) = true := decide_eq_true c12
             clear c12
             by_cases c13 : 0 ≤ x7_3
             ·rw [if_pos c13] at H
              have c13b0 : decide (0 ≤ x7_3) = true := decide_eq_true c13
              clear c13
              by_cases c14 : x7_3 < (x0_3.length : Int)
              ·rw [if_pos c14] at H
               have c14b0 : decide (x7_3 < (x0_3.length : Int)) = true := decide_eq_true c14
               clear c14
               obtain ⟨y125, Ny125⟩ : ∃ y_ : List Int, Aside0 (y_ = (x0_3.set ((ji10) : Int).toNat (Int.tmod (wrap64 ((wrap64 ((rd x0_3 x7_3) + 3329)) - (Int.tmod (wrap64 (t122 * (rd x0_3 (ji10)))) 3329))) 3329))) := ⟨_, ⟨rfl⟩⟩
               first | rw [Option.bind_some, ← Ny125.out] at H | rw [← Ny125.out] at H
               obtain ⟨y127, Ny127⟩ : ∃ y_ : List Int, Aside0 (y_ = (y125.set (x7_3 : Int).toNat (Int.tmod (wrap64 ((rd y125 x7_3) + (Int.tmod (wrap64 (t122 * (rd x0_3 (ji10)))) 3329))) 3329))) := ⟨_, ⟨rfl⟩⟩
               first | rw [Option.bind_some, ← Ny127.out] at H | rw [← Ny127.out] at H
               have H' := Aside0.mk H
               clear H
               obtain ⟨Ao17, co17, eo17⟩ := Kd.R_slice HO_0.out
               subst eo17
               have p123 : 0 ≤ ((ji10) : Int) := of_decide_eq_true Aq
               have q123 : (ji10) < (x0_3.length : Int) := of_decide_eq_true Aq
               obtain ⟨ad123, e123, hx123_0⟩ := Kd.at_int (Kd.R_reads' HO_0.out).2.2 (ji10) p123 q123
               cases e123
               replace p123 := eq_true p123
               replace q123 := eq_true q123
               have p124 : 0 ≤ (x7_3 : Int) := of_decide_eq_true Aq
               have q124 : x7_3 < (x0_3.length : Int) := of_decide_eq_true Aq
               obtain ⟨ad124, e124, hx124_0⟩ := Kd.at_int (Kd.R_reads' HO_0.out).2.2 x7_3 p124 q124
               obtain rfl : ad123 = ad124 := (by injection e124)
               replace p124 := eq_true p124
               replace q124 := eq_true q124
               have p15 : 0 ≤ ((ji10) : Int) := of_decide_eq_true Aq
               have q15 : ((ji10) : Int) < ((x0_3.length : Int) : Int) := of_decide_eq_true Aq
               obtain ⟨go15, co15, eo15, gb15, gl15, cl15, HG15⟩ := Kd.R_form HO_0.out (by omega)
               (first | cases eo15 | (injection eo15 with ea_ en_ ec_; (first | subst ea_ | (injection ea_ with ea_; subst ea_)); subst ec_; clear en_))
               have GB15 := Aside0.mk gb15
               have GG15 := Aside0.mk HG15
               clear gb15 gl15 HG15
               (first | simp only [add_plain] at hx123_0 | skip)
               (first | simp only [add_plain] at hx124_0 | skip)
               obtain ⟨hx15_0, hf15_0⟩ := Kd.R_celln 0 HO_0.out ((ji10) : Int) p15 q15
               replace p15 := eq_true p15
               replace q15 := eq_true q15
               have HP18 := Kd.R_putg HO_0.out ((ji10) : Int) (Int.tmod (wrap64 ((wrap64 ((rd x0_3 x7_3) + 3329)) - (Int.tmod (wrap64 (t122 * (rd x0_3 (ji10)))) 3329))) 3329)
               go_wp2_with (first | ((with_reducible refine gate_store (t := 3) (p := 57) rfl ?_); refine store_event (t := 3) (p := 57) (v := ?vo_w19) (w1 := (wr.setCell ⟨go15, ((ji10) : Int).toNat, none⟩ (.int .i64 (Int.tmod (wrap64 ((wrap64 ((rd x0_3 x7_3) + 3329)) - (Int.tmod (wrap64 (t122 * (rd x0_3 (ji10)))) 3329))) 3329)))) ?hg ?ho ?hn ?hr ?_; (case ho => rfl); (case hg => rfl); (case hn => rfl); (case hr => first | (go_simp; done) | (go_simp; rfl)); intro w19 hw; have hg : wr.grownBy w19 (some go15) := (by rw [hw]; exact HP18.2); have hp_ : Kd.R (Kd.int .i64) 3 w19 w.heap.size (fun _ => True) (.slice (some ⟨go15, 0, none⟩) x0_3.length co17) y125 := (by rw [hw, Ny125.out]; exact HP18.1); clear HP18; replace HO_0 := Aside0.mk (hp_); replace HB := Aside0.mk ((by rw [hw]; exact below_set (HB.out) GB15.out : Below w.heap.size w w19)); clear hg hw hp_; have p126 : 0 ≤ (x7_3 : Int) := of_decide_eq_true Aq; have q126 : x7_3 < (y125.length : Int) := (by have h_ : (x7_3 : Int) < ((x0_3.length : Int) : Int) := of_decide_eq_true Aq; first | (have e_ := (Kd.R_reads' HO_0.out).1; omega) | simpa only [Ny125.out, List.length_set] using h_); have ql126 : ((x7_3 : Int) < ((x0_3.length : Int) : Int)) = True := eq_true (of_decide_eq_true Aq); obtain ⟨ad126, e126, hx126_0⟩ := Kd.at_int (Kd.R_reads' HO_0.out).2.2 x7_3 p126 q126; obtain rfl : (⟨go15, 0, none⟩ : Addr) = ad126 := (by injection e126); (first | simp only [add_plain] at hx126_0 | simp only [add_at] at hx126_0 | simp only [Addr.add, Nat.zero_add] at hx126_0 | skip); replace p126 := eq_true p126; replace q126 := eq_true q126; have p16 : 0 ≤ (x7_3 : Int) := of_decide_eq_true Aq; have q16 : (x7_3 : Int) < ((x0_3.length : Int) : Int) := of_decide_eq_true Aq; obtain ⟨hx16_0, hf16_0⟩ := Kd.R_celln 0 HO_0.out (x7_3 : Int) p16 q16; replace p16 := eq_true p16; replace q16 := eq_true q16; obtain ⟨hy20_, hz20_⟩ := Kd.R_celln 0 HO_0.out (x7_3 : Int) (of_decide_eq_true Aq) (of_decide_eq_true Aq); have HP20 := Kd.R_putg HO_0.out (x7_3 : Int) (Int.tmod (wrap64 ((rd y125 x7_3) + (Int.tmod (wrap64 (t122 * (rd x0_3 (ji10)))) 3329))) 3329)) | ((with_reducible refine gate_store (t := 3) (p := 67) rfl ?_); refine store_event (t := 3) (p := 67) (v := ?vo_w21) (w1 := (w19.setCell ⟨go15, (x7_3 : Int).toNat, none⟩ (.int .i64 (Int.tmod (wrap64 ((rd y125 x7_3) + (Int.tmod (wrap64 (t122 * (rd x0_3 (ji10)))) 3329))) 3329)))) ?hg ?ho ?hn ?hr ?_; (case ho => rfl); (case hg => rfl); (case hn => rfl); (case hr => first | (go_simp; done) | (go_simp; rfl)); intro w21 hw; have hg : w19.grownBy w21 (some go15) := (by rw [hw]; exact HP20.2); have hp_ : Kd.R (Kd.int .i64) 3 w21 w.heap.size (fun _ => True) (.slice (some ⟨go15, 0, none⟩) x0_3.length co17) y127 := (by rw [hw, Ny127.out]; exact HP20.1); clear HP20; replace HO_0 := Aside0.mk (hp_); replace HB := Aside0.mk ((by rw [hw]; exact below_set (HB.out) GB15.out : Below w.heap.size w w21)); clear hg hw hp_))
               go_roundg k3
               case measure => have := HK1.out; have := HK2.out; have := HK3.out; omega
               case rel => exact ⟨(y127), (wrap64 (x7_3 + 1)), Rq, H', ⟨by have := HK1.out; have := HK2.out; have := HK3.out; omega⟩, ⟨Wq HO_0⟩, ⟨Bq⟩⟩
              ·rw [if_neg c14] at H
               exact absurd H (by simp)
             ·rw [if_neg c13] at H
              exact absurd H (by simp)
            ·rw [if_neg c12] at H
             exact absurd H (by simp)
           ·rw [if_neg c11] at H
            exact absurd H (by simp)
          ·rw [if_neg c9] at H
           have c9b0 : decide (x7_3 < (wrap64 (x5_2 + x4_1))) = false := decide_eq_false c9
           clear c9
           have H' := Aside0.mk H
           clear H
           go_wp2
           go_roundg k3
           case measure => have := HK1.out; have := HK2.out; have := HK3.out; omega
           case rel => exact ⟨(x0_3), ((wrap64 (x3_2 + 1))), (wrap64 (x5_2 + (wrap64 (2 * x4_1)))), Rq, Rq, H', ⟨by have := HK1.out; have := HK2.out; have := HK3.out; omega⟩, ⟨Wq HO_0⟩, ⟨Bq⟩⟩
       ·rw [if_neg c7] at H
        have c7b0 : decide (x5_2 < 256) = false := decide_eq_false c7
        clear c7
        have H' := Aside0.mk H
        clear H
        go_wp2
        go_roundg k2
        case measure => have := HK1.out; have := HK2.out; omega
        case rel => exact ⟨(x0_2), (x3_2), (wrap64 (Int.tdiv x4_1 2)), Rq, Rq, H', ⟨by have := HK1.out; have := HK2.out; omega⟩, ⟨Wq HO_0⟩, ⟨Bq⟩⟩
    ·rw [if_neg c6] at H
     have c6b0 : decide (2 ≤ x4_1) = false := decide_eq_false c6
     clear c6
     obtain rfl := Option.some.inj H
     go_wp2
     go_ret
     exact ⟨_, by first | rfl | (simp [errW_none, errW_some] <;> rfl) | (simp [*, errW_none, errW_some] <;> rfl), Wq HO_0, Bq⟩
 ·replace c3 := Bool.eq_false_iff.mpr c3
  subst c3
  rw [if_neg nf] at H
  obtain rfl := Option.some.inj H
  go_enter Tryd.func45, Tryd.ntmps45
  go_wp2_with (first | ((with_reducible refine gate_callee (f := 17) rfl ?_); refine goesL_ (some 10) rfl rfl Tryd.func17 (by kernel_rfl) rfl #[.slice A0 l0.length c0] rfl Mq ?_; (with_reducible refine (poly_May.calls k _ _ l0 false _ ?side1 ?side2 A2.out).mono ?_); (case side1 => exact Cq (HR0.out)); (case side2 => exact HC0.out); rintro e w' ⟨rfl, ⟨nd, rfl⟩⟩; refine ⟨_, rfl, ?_⟩))
  go_ret
  exact ⟨_, by first | rfl | (simp [errW_none, errW_some] <;> rfl) | (simp [*, errW_none, errW_some] <;> rfl), by first | exact Kd.R_nil _ _ _ _ _ | exact Kd.N_nil _ _ _ _ _ | exact Kd.V_nil _ _ _ _ _ | exact Kd.Q_nil _ _ _ _ _ | exact Kd.S_nil _ _ _ _ _, Bq⟩

end Go.Proofs.YtkdfcgihgndnnaaDoor.PPA
end
section
namespace Go.Proofs.YtkdfcgihgndnnaaDoor.PPA
open Go.RowKit Go.Proofs.YtkdfcgihgndnnaaDoorW.PrintWords Go.Proofs.YtkdfcgihgndnnaaDoorW.PrintLast Go.Proofs.YtkdfcgihgndnnaaDoorW.PrintMore Go.Proofs.YtkdfcgihgndnnaaDoorW.PrintZip
attribute [local go_sem] max2_int min2_int max_two min_two max_three min_three max_four min_four   -- for this text's walks alone
set_option linter.unusedVariables false
set_option linter.unusedSimpArgs false

/-! ### pke_over: function 27 -/
def pke_over.l0 : Nat → List (List Int) → List (List Int) → Int → Int → Option ((List (List Int)))
 | 0, _, _, _, _ => none
 | k + 1, x3, x6, x7, x8 => if x8 < x7 then (if 0 ≤ x8 then (if x8 < (x6.length : Int) then ((poly_Over.f k (rd_L3 x6 x8)).bind fun t129 => (if x3.length < 5864062014805 then (pke_over.l0 k (x3 ++ [t129]) x6 x7 (wrap64 (x8 + 1))) else (none))) else (none)) else (none)) else (some x3)
def pke_over.f (k : Nat) (l0 : List (List Int)) : Option ((List (List Int))) := pke_over.l0 k ([] : List (List Int)) l0 (l0.length : Int) 0
set_option maxHeartbeats 8000000 in
set_option maxRecDepth 100000 in
theorem pke_over.calls (k : Nat) (A0 : Option Addr) (c0 : Nat) (l0 : List (List Int)) (r : List (List Int)) (w : World) (hr0 : Kd.C (Kd.slice 3 (Kd.int .i64)) w A0 l0.length l0) (hc0 : l0.length ≤ c0) (h : pke_over.f k l0 = some r) :
  Calls Tryd.prog 27 #[.slice A0 l0.length c0] w fun e w' => ∃ v0_ : Value, e = .returned (v0_) ∧ Kd.S (Kd.slice 3 (Kd.int .i64)) 40 w' w.heap.size (fun _ => True) v0_ r ∧ Below w.heap.size w w' := by
 have HR0 := Aside0.mk hr0
 have HC0 := Aside0.mk hc0
 clear hr0 hc0
 have HB := Aside0.mk (Below.refl w.heap.size w)
 have H := h
 unfold pke_over.f at H
 clear h
 have H' := Aside0.mk H
 clear H
 go_enter Tryd.func27, Tryd.ntmps27
 go_wp2
 go_loopg [3, 8] k (fun kq v3 v8 w' => ∃ (x3_1 : List (List Int)) (x8_1 : Int), v8 = .int .i64 x8_1 ∧ Aside0 (pke_over.l0 kq x3_1 l0 (l0.length : Int) x8_1 = some r) ∧ Aside0 (kq ≤ k) ∧ Aside0 (Kd.S (Kd.slice 3 (Kd.int .i64)) 40 w' w.heap.size (fun _ => True) v3 x3_1) ∧ Aside0 (Below w.heap.size w w'))
 case atStart => exact ⟨(([] : List (List Int))), (0), Rq, H', ⟨Nat.le_refl _⟩, ⟨by first | exact Kd.S_nil _ _ _ _ _ | exact Kd.N_nil _ _ _ _ _ | exact Kd.V_nil _ _ _ _ _ | exact Kd.Q_nil _ _ _ _ _ | exact Kd.R_nil _ _ _ _ _⟩, ⟨Bq⟩⟩
 case round =>
  clear H'
  obtain ⟨x3_1, x8_1, rfl, HA, HK1, HO_3, HB⟩ := hrel
  cases gk with
  | zero => exact absurd HA.out (by simp [pke_over.l0])
  | succ k1 =>
   have H := HA.out
   clear HA
   simp only [pke_over.l0] at H
   by_cases c2 : x8_1 < (l0.length : Int)
   ·rw [if_pos c2] at H
    have c2b0 : decide (x8_1 < (l0.length : Int)) = true := decide_eq_true c2
    clear c2
    by_cases c3 : 0 ≤ x8_1
    ·rw [if_pos c3] at H
     have c3b0 : decide (0 ≤ x8_1) = true := decide_eq_true c3
     clear c3
     by_cases c4 : x8_1 < (l0.length : Int)
     ·rw [if_pos c4] at H
      have c4b0 : decide (x8_1 < (l0.length : Int)) = true := decide_eq_true c4
      clear c4
      replace H := Option.bind_eq_some_iff.mp H
      obtain ⟨t129, A50, H⟩ := H
      try dsimp only at H
      have A5 := Aside0.mk A50
      clear A50
      by_cases c6 : x3_1.length < 5864062014805
      ·rw [if_pos c6] at H
       have LMc6 := Aside0.mk c6
       clear c6
       obtain ⟨y132, Ny132⟩ : ∃ y_ : List (List Int), Aside0 (y_ = (x3_1 ++ [t129])) := ⟨_, ⟨rfl⟩⟩
       first | rw [Option.bind_some, ← Ny132.out] at H | rw [← Ny132.out] at H
       have H' := Aside0.mk H
       clear H
       have p128 : 0 ≤ (x8_1 : Int) := of_decide_eq_true Aq
       have q128 : x8_1 < (l0.length : Int) := of_decide_eq_true Aq
       obtain ⟨ad128, A128_0, c128_0, e128, hx128_0, hl128_0, hi128_0⟩ := at_L3 HR0.out x8_1 p128 q128
       cases e128
       replace hx128_0 := (HB.out.cell (World.block_lt_of_cell? w _ hx128_0)).trans hx128_0
       have HR128_0 := Aside0.mk hi128_0
       have HC128_0 := Aside0.mk hl128_0
       clear hi128_0 hl128_0
       replace p128 := eq_true p128
       replace q128 := eq_true q128
       go_wp2_with (first | ((with_reducible refine gate_callee (f := 45) rfl ?_); refine goesL_ (some 14) rfl rfl Tryd.func45 (by kernel_rfl) rfl #[.slice A128_0 (rd_L3 l0 x8_1).length c128_0] rfl Mq ?_; (with_reducible refine (poly_Over.calls k1 _ _ (rd_L3 l0 x8_1) t129 _ ?side1 ?side2 A5.out).mono ?_); (case side1 => exact Cq (Kd.C_below HR128_0.out HB.out)); (case side2 => exact HC128_0.out); rintro e w7 ⟨v130, rfl, ho0, hb⟩; refine ⟨_, rfl, ?_⟩; replace HO_3 := Aside0.mk (Kd.S_elder' (Wq HO_3) (Kd.R_base ho0) hb); have HO131 := Aside0.mk (Kd.R_lower ho0 (below_size Bq)); replace HB := Aside0.mk (below_step Bq hb); clear hb ho0; (try clear A5); obtain ⟨Ao9, co9, eo9⟩ := Kd.R_slice HO131.out; subst eo9) | ((with_reducible refine gate_builtin (b := .append) (xs := #[.tmp 12, .tmp 15]) rfl ?_); at_builtin; refine Kd.S_append (Kd.slice 3 (Kd.int .i64)) (w0 := w) w.heap.size rfl (.tmp 12) (.tmp 15) 49 40 (.slice none 0 0) 24 rfl Tryd.underlying49 info40 rfl (by decide) (by omega) u3 x3_1 t129 [.slice Ao9 t129.length co9] (fun _ => True) (fun k_ => some k_ = (.slice Ao9 t129.length co9 : Value).ownBlock) rfl rfl ?aP (fun k_ hk_ => ((Kd.R_mono (ok' := fun k_ => ((fun _ => True)) k_ ∧ some k_ ≠ (u3 : Value).ownBlock) (Kd.R_apart' (HO131.out) (Kd.S_typed HO_3.out) (by decide)) (fun k_ hk => ⟨trivial, hk.2⟩))).1 k_ hk_.symm) ?aF ?aO ?aB ?aS ?aL ?_; (case aP => exact Kd.M_row (Kd.R_mono (Kd.R_tight rfl (Kd.R_mono (ok' := fun k_ => ((fun _ => True)) k_ ∧ some k_ ≠ (u3 : Value).ownBlock) (Kd.R_apart' (HO131.out) (Kd.S_typed HO_3.out) (by decide)) (fun k_ hk => ⟨trivial, hk.2⟩))) (fun _ h_ => h_))); (case aB => exact Bq); (case aF => exact (fun _ _ => trivial)); (case aO => exact (by (with_reducible repeat (first | apply Kd.S_alloc | apply Kd.S_drewN | apply Kd.S_drew)); exact Kd.S_mono HO_3.out (fun k_ hk => ⟨trivial, fun e_ => hk.2 e_⟩))); (case aS => exact (below_size Bq)); (case aL => have := LMc6.out; omega); intro v133 w8 ho hb hg hat; rw [← Ny132.out] at ho; replace HB := Aside0.mk (hb); have HO134 := Aside0.mk (ho); clear HO_3 HO131; clear ho hb hg hat))
       go_roundg k1
       case measure => have := HK1.out; omega
       case rel => exact ⟨(y132), (wrap64 (x8_1 + 1)), Rq, H', ⟨by have := HK1.out; omega⟩, ⟨Wq HO134⟩, ⟨Bq⟩⟩
      ·rw [if_neg c6] at H
       exact absurd H (by simp)
     ·rw [if_neg c4] at H
      exact absurd H (by simp)
    ·rw [if_neg c3] at H
     exact absurd H (by simp)
   ·rw [if_neg c2] at H
    have c2b0 : decide (x8_1 < (l0.length : Int)) = false := decide_eq_false c2
    clear c2
    obtain rfl := Option.some.inj H
    go_wp2
    go_ret
    exact ⟨_, by first | rfl | (simp [errW_none, errW_some] <;> rfl) | (simp [*, errW_none, errW_some] <;> rfl), Wq HO_3, Bq⟩

/-! ### draw_fault: function 67 -/
def draw_fault.f (a0 : Int) : Option ((List (S70))) := some [(⟨a0, (⟨#[100, 114, 97, 119]⟩ : ByteArray)⟩ : S70)]
set_option maxHeartbeats 8000000 in
set_option maxRecDepth 100000 in
theorem draw_fault.calls (a0 : Int) (r : List (S70)) (w : World) (h : draw_fault.f a0 = some r) :
  Calls Tryd.prog 67 #[.int .i64 a0] w fun e w' => ∃ v0_ : Value, e = .returned (v0_) ∧ Kd.R k70 70 w' w.heap.size (fun _ => True) (eRow v0_) r ∧ Below w.heap.size w w' := by
 have hu70 := Tryd.underlying70
 have HB := Aside0.mk (Below.refl w.heap.size w)
 have H := h
 unfold draw_fault.f at H
 clear h
 obtain rfl := Option.some.inj H
 go_enter Tryd.func67, Tryd.ntmps67
 go_wp2_with (first | ((with_reducible refine gate_dst (N := 5) rfl ?_); refine box_event ?hg (N := 5) ?hd (cs := #[.int .i64 a0, .string (⟨#[100, 114, 97, 119]⟩ : ByteArray)]) (t := 70) ?hr ?_; (case hd => rfl); (case hg => rfl); (case hr => first | (go_simp; done) | (go_simp; rfl)); intro gb135 hg w2 hbox hb; have HO136 := Aside0.mk (eRow_box (base := w.heap.size) (ok := (fun _ => True)) hbox (by rw [hg]; exact (below_size Bq) : w.heap.size ≤ gb135) trivial); replace HB := Aside0.mk (below_step Bq hb); clear hb hbox hg))
 go_ret
 exact ⟨_, by first | rfl | (simp [errW_none, errW_some] <;> rfl) | (simp [*, errW_none, errW_some] <;> rfl), Wq HO136, Bq⟩

/-! ### bits_Low: function 35 -/
def bits_Low.f (a0 : Int) (a1 : Int) : Option (Int) := if a0 < 0 then (some 0) else (if a0 > 62 then (some 0) else (if 0 ≤ a0 then (some (Go.bits .and .i64 a1 (wrap64 ((shl .i64 1 a0) - 1)))) else (none)))
set_option maxHeartbeats 8000000 in
set_option maxRecDepth 100000 in
theorem bits_Low.calls (a0 : Int) (a1 : Int) (r : Int) (w : World) (h : bits_Low.f a0 a1 = some r) :
  Calls Tryd.prog 35 #[.int .i64 a0, .int .i64 a1] w fun e w' => e = .returned (.int .i64 r) ∧ Drawn0 w w' := by
 have H := h
 unfold bits_Low.f at H
 clear h
 by_cases c3 : a0 < 0
 ·rw [if_pos c3] at H
  have c3b0 : decide (a0 < 0) = true := decide_eq_true c3
  clear c3
  obtain rfl := Option.some.inj H
  go_enter Tryd.func35, Tryd.ntmps35
  go_wp2
  go_ret
  exact ⟨by first | rfl | (simp; done) | (simp [*]; done), by repeat (first | exact Drawn0.refl _ | apply Drawn0.step)⟩
 ·rw [if_neg c3] at H
  have c3b0 : decide (a0 < 0) = false := decide_eq_false c3
  clear c3
  by_cases c4 : a0 > 62
  ·rw [if_pos c4] at H
   have c4b0 : decide (62 < a0) = true := decide_eq_true c4
   clear c4
   obtain rfl := Option.some.inj H
   go_enter Tryd.func35, Tryd.ntmps35
   go_wp2
   go_ret
   exact ⟨by first | rfl | (simp; done) | (simp [*]; done), by repeat (first | exact Drawn0.refl _ | apply Drawn0.step)⟩
  ·rw [if_neg c4] at H
   have c4b0 : decide (62 < a0) = false := decide_eq_false c4
   clear c4
   by_cases c5 : 0 ≤ a0
   ·rw [if_pos c5] at H
    have c5b0 := eq_true c5
    have c5b1 : decide (0 ≤ a0) = true := decide_eq_true c5
    clear c5
    obtain ⟨ji6, hji6⟩ : ∃ j_ : Int, (shl .i64 1 a0) = j_ := ⟨_, rfl⟩
    replace H : (some (Go.bits .and .i64 a1 (wrap64 ((ji6) - 1)))) = some r := by first | (rw [hji6] at H; exact H) | (simp only [hji6] at H ⊢; exact H)
    have hji6_ : (IntKind.i64.wrap (1 * 2 ^ min a0.toNat 64)) = ji6 := hji6
    have hji6z : a0 ≤ 64 → (IntKind.i64.wrap (1 * 2 ^ a0.toNat)) = ji6 := shl_small hji6
    have hji6u : (IntKind.i64.wrap (2 ^ min a0.toNat 64)) = ji6 := by have h_ := hji6_; rw [Int.one_mul] at h_; exact h_
    have hji6v : a0 ≤ 64 → (IntKind.i64.wrap (2 ^ a0.toNat)) = ji6 := fun hle_ => by have h_ := hji6z hle_; rw [Int.one_mul] at h_; exact h_
    have hji6y : (wrap64 (1 * 2 ^ min a0.toNat 64)) = ji6 := (i64_w _).symm.trans hji6_
    have hji6x : a0 ≤ 64 → (wrap64 (1 * 2 ^ a0.toNat)) = ji6 := fun h_ => (i64_w _).symm.trans (hji6z h_)
    obtain rfl := Option.some.inj H
    go_enter Tryd.func35, Tryd.ntmps35
    go_wp2
    go_ret
    exact ⟨by first | rfl | (simp; done) | (simp only [← hji6] <;> (first | rfl | simp)) | (simp [*]; done), by repeat (first | exact Drawn0.refl _ | apply Drawn0.step)⟩
   ·rw [if_neg c5] at H
    exact absurd H (by simp)

end Go.Proofs.YtkdfcgihgndnnaaDoor.PPA
end
section
namespace Go.Proofs.YtkdfcgihgndnnaaDoor.PPA
open Go.RowKit Go.Proofs.YtkdfcgihgndnnaaDoorW.PrintWords Go.Proofs.YtkdfcgihgndnnaaDoorW.PrintLast Go.Proofs.YtkdfcgihgndnnaaDoorW.PrintMore Go.Proofs.YtkdfcgihgndnnaaDoorW.PrintZip
attribute [local go_sem] max2_int min2_int max_two min_two max_three min_three max_four min_four   -- for this text's walks alone
set_option linter.unusedVariables false
set_option linter.unusedSimpArgs false

/-! ### bits_Unpack: function 16 -/
mutual
def bits_Unpack.j0 : Nat → Int → List Int → Bool → Option (List Int)
 | 0, _, _, _ => none
 | k + 1, x0, x1, x15 => if x15 = true then (some ([] : List Int)) else (bits_Unpack.l0 k x0 ([] : List Int) 0 0 x1 (x1.length : Int) 0)
def bits_Unpack.l0 : Nat → Int → List Int → Int → Int → List Int → Int → Int → Option (List Int)
 | 0, _, _, _, _, _, _, _ => none
 | k + 1, x0, x5, x6, x7, x16, x17, x18 => if x18 < x17 then (if 0 ≤ x18 then (if x18 < (x16.length : Int) then (if 0 ≤ x7 then (bits_Unpack.l1 k x0 x5 (Go.bits .or .i64 x6 (shl .i64 (wrap64 (rd x16 x18)) x7)) (wrap64 (x7 + 8)) x16 x17 x18) else (none)) else (none)) else (none)) else (some x5)
def bits_Unpack.l1 : Nat → Int → List Int → Int → Int → List Int → Int → Int → Option (List Int)
 | 0, _, _, _, _, _, _, _ => none
 | k + 1, x0, x5, x6, x7, x16, x17, x18 => if x7 ≥ x0 then ((bits_Low.f x0 x6).bind fun t138 => (if x5.length < 17592186044416 then (if 0 ≤ x0 then (bits_Unpack.l1 k x0 (x5 ++ [t138]) (shr .i64 x6 x0) (wrap64 (x7 - x0)) x16 x17 x18) else (none)) else (none))) else (bits_Unpack.l0 k x0 x5 x6 x7 x16 x17 (wrap64 (x18 + 1)))
end
def bits_Unpack.f (k : Nat) (a0 : Int) (l1 : List Int) : Option (List Int) := if a0 < 1 then (bits_Unpack.j0 k a0 l1 true) else (bits_Unpack.j0 k a0 l1 (decide (a0 > 24)))
set_option maxHeartbeats 8000000 in
set_option maxRecDepth 100000 in
theorem bits_Unpack.calls (k : Nat) (a0 : Int) (A1 : Option Addr) (c1 : Nat) (l1 : List Int) (r : List Int) (w : World) (hr1 : Kd.C (Kd.int .u8) w A1 l1.length l1) (hc1 : l1.length ≤ c1) (h : bits_Unpack.f k a0 l1 = some r) :
  Calls Tryd.prog 16 #[.int .i64 a0, .slice A1 l1.length c1] w fun e w' => ∃ v0_ : Value, e = .returned (v0_) ∧ Kd.R (Kd.int .i64) 3 w' w.heap.size (fun _ => True) v0_ r ∧ Below w.heap.size w w' := by
 have HR1 := Aside0.mk hr1
 have HC1 := Aside0.mk hc1
 clear hr1 hc1
 have HB := Aside0.mk (Below.refl w.heap.size w)
 have H := h
 unfold bits_Unpack.f at H
 clear h
 have HC3 := Aside0.mk H
 clear H
 go_enter Tryd.func16, Tryd.ntmps16
 go_upto_region 1 with (fail)
 go_cut [15] (fun v15 wc => ∃ (kq : Nat) (x15_2 : Bool), v15 = .bool x15_2 ∧ Aside0 (bits_Unpack.j0 kq a0 l1 x15_2 = some r) ∧ Aside0 (kq ≤ k) ∧ Aside0 (Below w.heap.size w wc))
 case first =>
  have H := HC3.out
  clear HC3
  by_cases c4 : a0 < 1
  ·rw [if_pos c4] at H
   have c4b0 : decide (a0 < 1) = true := decide_eq_true c4
   clear c4
   (first | rw [c4b0] | (simp only [i64_w, i32_w]; rw [c4b0]) | skip)
   have H' := Aside0.mk H
   clear H
   go_wp2
   go_meet
   case rel => exact ⟨_, (true), Rq, H', ⟨by first | omega | exact Nat.le_refl _⟩, ⟨Bq⟩⟩
  ·rw [if_neg c4] at H
   have c4b0 : decide (a0 < 1) = false := decide_eq_false c4
   clear c4
   (first | rw [c4b0] | (simp only [i64_w, i32_w]; rw [c4b0]) | skip)
   have H' := Aside0.mk H
   clear H
   go_wp2
   go_meet
   case rel => exact ⟨_, (decide (a0 > 24)), Rq, H', ⟨by first | omega | exact Nat.le_refl _⟩, ⟨Bq⟩⟩
 case rest =>
  clear HC3
  try clear c1
  try clear p2
  try clear c4
  try clear c4b0
  obtain ⟨kq, x15_2, rfl, HA, HJ2, HB⟩ := hcut
  cases kq with
  | zero => exact absurd HA.out (by simp [bits_Unpack.j0])
  | succ kj2 =>
   have H := HA.out
   clear HA
   simp only [bits_Unpack.j0] at H
   by_cases c5 : x15_2 = true
   ·subst c5
    rw [if_pos rfl] at H
    obtain rfl := Option.some.inj H
    go_wp2
    go_ret
    exact ⟨_, by first | rfl | (simp [errW_none, errW_some] <;> rfl) | (simp [*, errW_none, errW_some] <;> rfl), by first | exact Kd.R_nil _ _ _ _ _ | exact Kd.N_nil _ _ _ _ _ | exact Kd.V_nil _ _ _ _ _ | exact Kd.Q_nil _ _ _ _ _ | exact Kd.S_nil _ _ _ _ _, Bq⟩
   ·replace c5 := Bool.eq_false_iff.mpr c5
    subst c5
    rw [if_neg nf] at H
    have H' := Aside0.mk H
    clear H
    go_wp2
    go_loopg [5, 6, 7, 18] kj2 (fun kq v5 v6 v7 v18 w' => ∃ (x5_2 : List Int) (x6_2 : Int) (x7_2 : Int) (x18_2 : Int), v6 = .int .i64 x6_2 ∧ v7 = .int .i64 x7_2 ∧ v18 = .int .i64 x18_2 ∧ Aside0 (bits_Unpack.l0 kq a0 x5_2 x6_2 x7_2 l1 (l1.length : Int) x18_2 = some r) ∧ Aside0 (kq ≤ kj2) ∧ Aside0 (Kd.R (Kd.int .i64) 3 w' w.heap.size (fun _ => True) v5 x5_2) ∧ Aside0 (Below w.heap.size w w'))
    case atStart => exact ⟨(([] : List Int)), (0), (0), (0), Rq, Rq, Rq, H', ⟨Nat.le_refl _⟩, ⟨by first | exact Kd.R_nil _ _ _ _ _ | exact Kd.N_nil _ _ _ _ _ | exact Kd.V_nil _ _ _ _ _ | exact Kd.Q_nil _ _ _ _ _ | exact Kd.S_nil _ _ _ _ _⟩, ⟨Bq⟩⟩
    case round =>
     clear H'
     try clear c1
     try clear p2
     try clear c4
     try clear c4b0
     try clear c5
     try clear p2
     obtain ⟨x5_2, x6_2, x7_2, x18_2, rfl, rfl, rfl, HA, HK2, HO_5, HB⟩ := hrel
     cases gk with
     | zero => exact absurd HA.out (by simp [bits_Unpack.l0])
     | succ k2 =>
      have H := HA.out
      clear HA
      simp only [bits_Unpack.l0] at H
      by_cases c6 : x18_2 < (l1.length : Int)
      ·rw [if_pos c6] at H
       have c6b0 : decide (x18_2 < (l1.length : Int)) = true := decide_eq_true c6
       clear c6
       by_cases c7 : 0 ≤ x18_2
       ·rw [if_pos c7] at H
        have c7b0 : decide (0 ≤ x18_2) = true := decide_eq_true c7
        clear c7
        by_cases c8 : x18_2 < (l1.length : Int)
        ·rw [if_pos c8] at H
         have c8b0 : decide (x18_2 < (l1.length : Int)) = true := decide_eq_true c8
         clear c8
         by_cases c9 : 0 ≤ x7_2
         ·rw [if_pos c9] at H
          have c9b0 := eq_true c9
          have c9b1 : decide (0 ≤ x7_2) = true := decide_eq_true c9
          clear c9
          obtain ⟨ji10, hji10⟩ : ∃ j_ : Int, (shl .i64 (wrap64 (rd l1 x18_2)) x7_2) = j_ := ⟨_, rfl⟩
          replace H : (bits_Unpack.l1 k2 a0 x5_2 (Go.bits .or .i64 x6_2 (ji10)) (wrap64 (x7_2 + 8)) l1 (l1.length : Int) x18_2) = some r := by first | (rw [hji10] at H; exact H) | (simp only [hji10] at H ⊢; exact H)
          have hji10_ : (IntKind.i64.wrap ((wrap64 (rd l1 x18_2)) * 2 ^ min x7_2.toNat 64)) = ji10 := hji10
          have hji10z : x7_2 ≤ 64 → (IntKind.i64.wrap ((wrap64 (rd l1 x18_2)) * 2 ^ x7_2.toNat)) = ji10 := shl_small hji10
          have hji10y : (wrap64 ((wrap64 (rd l1 x18_2)) * 2 ^ min x7_2.toNat 64)) = ji10 := (i64_w _).symm.trans hji10_
          have hji10x : x7_2 ≤ 64 → (wrap64 ((wrap64 (rd l1 x18_2)) * 2 ^ x7_2.toNat)) = ji10 := fun h_ => (i64_w _).symm.trans (hji10z h_)
          have H' := Aside0.mk H
          clear H
          have p137 : 0 ≤ (x18_2 : Int) := of_decide_eq_true Aq
          have q137 : x18_2 < (l1.length : Int) := of_decide_eq_true Aq
          obtain ⟨ad137, e137, hx137_0⟩ := Kd.at_int HR1.out x18_2 p137 q137
          cases e137
          replace hx137_0 := (HB.out.cell (World.block_lt_of_cell? w _ hx137_0)).trans hx137_0
          replace p137 := eq_true p137
          replace q137 := eq_true q137
          go_wp2
          go_loopg [5, 6, 7] k2 (fun kq v5 v6 v7 w' => ∃ (x5_3 : List Int) (x6_3 : Int) (x7_3 : Int), v6 = .int .i64 x6_3 ∧ v7 = .int .i64 x7_3 ∧ Aside0 (bits_Unpack.l1 kq a0 x5_3 x6_3 x7_3 l1 (l1.length : Int) x18_2 = some r) ∧ Aside0 (kq ≤ k2) ∧ Aside0 (Kd.R (Kd.int .i64) 3 w' w.heap.size (fun _ => True) v5 x5_3) ∧ Aside0 (Below w.heap.size w w'))
          case atStart => exact ⟨(x5_2), (Go.bits .or .i64 x6_2 (ji10)), (wrap64 (x7_2 + 8)), (by first | rfl | (simp; done) | (simp only [← hji10] <;> (first | rfl | simp)) | (simp [*]; done)), Rq, H', ⟨Nat.le_refl _⟩, ⟨Wq HO_5⟩, ⟨Bq⟩⟩
          case round =>
           clear H'
           try clear c1
           try clear p1
           try clear q1
           try clear hx1
           try clear p2
           try clear c4
           try clear c4b0
           try clear c5
           try clear c6
           try clear c6b0
           try clear p6
           try clear c7
           try clear c7b0
           try clear c8
           try clear c8b0
           try clear c9
           try clear c9b0
           try clear c9b1
           try clear hx137_0
           try clear p137
           try clear p2
           try clear q137
           obtain ⟨x5_3, x6_3, x7_3, rfl, rfl, HA, HK3, HO_5, HB⟩ := hrel
           cases gk with
           | zero => exact absurd HA.out (by simp [bits_Unpack.l1])
           | succ k3 =>
            have H := HA.out
            clear HA
            simp only [bits_Unpack.l1] at H
            by_cases c11 : x7_3 ≥ a0
            ·rw [if_pos c11] at H
             have c11b0 : decide (a0 ≤ x7_3) = true := decide_eq_true c11
             clear c11
             replace H := Option.bind_eq_some_iff.mp H
             obtain ⟨t138, A120, H⟩ := H
             try dsimp only at H
             have A12 := Aside0.mk A120
             clear A120
             by_cases c13 : x5_3.length < 17592186044416
             ·rw [if_pos c13] at H
              have LMc13 := Aside0.mk c13
              clear c13
              obtain ⟨y139, Ny139⟩ : ∃ y_ : List Int, Aside0 (y_ = (x5_3 ++ [t138])) := ⟨_, ⟨rfl⟩⟩
              first | rw [Option.bind_some, ← Ny139.out] at H | rw [← Ny139.out] at H
              by_cases c14 : 0 ≤ a0
              ·rw [if_pos c14] at H
               have c14b0 := eq_true c14
               have c14b1 : decide (0 ≤ a0) = true := decide_eq_true c14
               clear c14
               obtain ⟨ji15, hji15⟩ : ∃ j_ : Int, (shr .i64 x6_3 a0) = j_ := ⟨_, rfl⟩
               replace H : (bits_Unpack.l1 k3 a0 y139 ji15 (wrap64 (x7_3 - a0)) l1 (l1.length : Int) x18_2) = some r := by first | (rw [hji15] at H; exact H) | (simp only [hji15] at H ⊢; exact H)
               (try rw [hji15] at A12)
               have hji15_ : (x6_3 / 2 ^ min a0.toNat 64) = ji15 := hji15
               have hji15z : a0 ≤ 64 → (x6_3 / 2 ^ a0.toNat) = ji15 := shr_small hji15
               have H' := Aside0.mk H
               clear H
               go_wp2_with (first | ((with_reducible refine gate_callee (f := 35) rfl ?_); refine goesL_ (some 39) rfl rfl Tryd.func35 (by kernel_rfl) rfl #[.int .i64 a0, .int .i64 x6_3] rfl Mq ?_; (with_reducible refine (bits_Low.calls a0 x6_3 t138 _ A12.out).mono ?_); rintro e w' ⟨rfl, ⟨nd, rfl⟩⟩; refine ⟨_, rfl, ?_⟩) | ((with_reducible refine gate_builtin (b := .append) (xs := #[.tmp 36, .tmp 40]) rfl ?_); at_builtin; refine Kd.R_append (Kd.int .i64) (w0 := w) w.heap.size rfl (.tmp 36) (.tmp 40) 40 3 (.int .i64 0) 8 rfl Tryd.underlying40 info3 rfl (by decide) (by omega) u5 x5_3 t138 [.int .i64 t138] (fun _ => True) (fun _ => False) rfl rfl ?aP (fun _ hk => hk.elim) ?aF ?aO ?aB ?aS ?aL ?_; (case aP => exact rfl); (case aB => exact Bq); (case aF => exact (fun _ _ => trivial)); (case aO => exact (Wq HO_5)); (case aS => exact (below_size Bq)); (case aL => have := LMc13.out; omega); intro v140 w16 ho hb hg hat; rw [← Ny139.out] at ho; replace HB := Aside0.mk (hb); have HO141 := Aside0.mk (ho); clear HO_5; clear ho hb hg hat))
               go_roundg k3
               case measure => have := HJ2.out; have := HK2.out; have := HK3.out; omega
               case rel => exact ⟨(y139), (ji15), (wrap64 (x7_3 - a0)), (by first | rfl | (simp; done) | (simp only [← hji15] <;> (first | rfl | simp)) | (simp [*]; done)), Rq, H', ⟨by have := HJ2.out; have := HK2.out; have := HK3.out; omega⟩, ⟨Wq HO141⟩, ⟨Bq⟩⟩
              ·rw [if_neg c14] at H
               exact absurd H (by simp)
             ·rw [if_neg c13] at H
              exact absurd H (by simp)
            ·rw [if_neg c11] at H
             have c11b0 : decide (a0 ≤ x7_3) = false := decide_eq_false c11
             clear c11
             have H' := Aside0.mk H
             clear H
             go_wp2
             go_roundg k3
             case measure => have := HJ2.out; have := HK2.out; have := HK3.out; omega
             case rel => exact ⟨(x5_3), (x6_3), (x7_3), (wrap64 (x18_2 + 1)), Rq, Rq, Rq, H', ⟨by have := HJ2.out; have := HK2.out; have := HK3.out; omega⟩, ⟨Wq HO_5⟩, ⟨Bq⟩⟩
         ·rw [if_neg c9] at H
          exact absurd H (by simp)
        ·rw [if_neg c8] at H
         exact absurd H (by simp)
       ·rw [if_neg c7] at H
        exact absurd H (by simp)
      ·rw [if_neg c6] at H
       have c6b0 : decide (x18_2 < (l1.length : Int)) = false := decide_eq_false c6
       clear c6
       obtain rfl := Option.some.inj H
       go_wp2
       go_ret
       exact ⟨_, by first | rfl | (simp [errW_none, errW_some] <;> rfl) | (simp [*, errW_none, errW_some] <;> rfl), Wq HO_5, Bq⟩

end Go.Proofs.YtkdfcgihgndnnaaDoor.PPA
end
section
namespace Go.Proofs.YtkdfcgihgndnnaaDoor.PPA
open Go.RowKit Go.Proofs.YtkdfcgihgndnnaaDoorW.PrintWords Go.Proofs.YtkdfcgihgndnnaaDoorW.PrintLast Go.Proofs.YtkdfcgihgndnnaaDoorW.PrintMore Go.Proofs.YtkdfcgihgndnnaaDoorW.PrintZip
attribute [local go_sem] max2_int min2_int max_two min_two max_three min_three max_four min_four   -- for this text's walks alone
set_option linter.unusedVariables false
set_option linter.unusedSimpArgs false

/-! ### bits_Pack: function 18 -/
mutual
def bits_Pack.j0 : Nat → Int → List Int → Bool → Option (List Int)
 | 0, _, _, _ => none
 | k + 1, x0, x1, x15 => if x15 = true then (some ([] : List Int)) else (bits_Pack.l0 k x0 ([] : List Int) 0 0 x1 (x1.length : Int) 0)
def bits_Pack.l0 : Nat → Int → List Int → Int → Int → List Int → Int → Int → Option (List Int)
 | 0, _, _, _, _, _, _, _ => none
 | k + 1, x0, x5, x6, x7, x16, x17, x18 => if x18 < x17 then (if 0 ≤ x18 then (if x18 < (x16.length : Int) then (if (rd x16 x18) < 0 then (bits_Pack.j2 k x0 x5 x6 x7 (rd x16 x18) x16 x17 x18 true) else (if 0 ≤ x0 then (bits_Pack.j2 k x0 x5 x6 x7 (rd x16 x18) x16 x17 x18 ((shr .i64 (rd x16 x18) x0) != 0)) else (none))) else (none)) else (none)) else (if x7 > 0 then (if x5.length < 140737488355328 then (some (x5 ++ [(x6) % 256])) else (none)) else (some x5))
def bits_Pack.j2 : Nat → Int → List Int → Int → Int → Int → List Int → Int → Int → Bool → Option (List Int)
 | 0, _, _, _, _, _, _, _, _, _ => none
 | k + 1, x0, x5, x6, x7, x9, x16, x17, x18, x29 => if x29 = true then (some ([] : List Int)) else (if 0 ≤ x7 then (bits_Pack.l1 k x0 x5 (Go.bits .or .i64 x6 (shl .i64 x9 x7)) (wrap64 (x7 + x0)) x16 x17 x18) else (none))
def bits_Pack.l1 : Nat → Int → List Int → Int → Int → List Int → Int → Int → Option (List Int)
 | 0, _, _, _, _, _, _, _ => none
 | k + 1, x0, x5, x6, x7, x16, x17, x18 => if x7 ≥ 8 then (if x5.length < 140737488355328 then (bits_Pack.l1 k x0 (x5 ++ [(x6) % 256]) (x6 / 256) (wrap64 (x7 - 8)) x16 x17 x18) else (none)) else (bits_Pack.l0 k x0 x5 x6 x7 x16 x17 (wrap64 (x18 + 1)))
end
def bits_Pack.f (k : Nat) (a0 : Int) (l1 : List Int) : Option (List Int) := if a0 < 1 then (bits_Pack.j0 k a0 l1 true) else (bits_Pack.j0 k a0 l1 (decide (a0 > 24)))
set_option maxHeartbeats 8000000 in
set_option maxRecDepth 100000 in
theorem bits_Pack.calls (k : Nat) (a0 : Int) (A1 : Option Addr) (c1 : Nat) (l1 : List Int) (r : List Int) (w : World) (hr1 : Kd.C (Kd.int .i64) w A1 l1.length l1) (hc1 : l1.length ≤ c1) (h : bits_Pack.f k a0 l1 = some r) :
  Calls Tryd.prog 18 #[.int .i64 a0, .slice A1 l1.length c1] w fun e w' => ∃ v0_ : Value, e = .returned (v0_) ∧ Kd.R (Kd.int .u8) 5 w' w.heap.size (fun _ => True) v0_ r ∧ Below w.heap.size w w' := by
 have HR1 := Aside0.mk hr1
 have HC1 := Aside0.mk hc1
 clear hr1 hc1
 have HB := Aside0.mk (Below.refl w.heap.size w)
 have H := h
 unfold bits_Pack.f at H
 clear h
 have HC3 := Aside0.mk H
 clear H
 go_enter Tryd.func18, Tryd.ntmps18
 go_upto_region 1 with (fail)
 go_cut [15] (fun v15 wc => ∃ (kq : Nat) (x15_2 : Bool), v15 = .bool x15_2 ∧ Aside0 (bits_Pack.j0 kq a0 l1 x15_2 = some r) ∧ Aside0 (kq ≤ k) ∧ Aside0 (Below w.heap.size w wc))
 case first =>
  have H := HC3.out
  clear HC3
  by_cases c4 : a0 < 1
  ·rw [if_pos c4] at H
   have c4b0 : decide (a0 < 1) = true := decide_eq_true c4
   clear c4
   (first | rw [c4b0] | (simp only [i64_w, i32_w]; rw [c4b0]) | skip)
   have H' := Aside0.mk H
   clear H
   go_wp2
   go_meet
   case rel => exact ⟨_, (true), Rq, H', ⟨by first | omega | exact Nat.le_refl _⟩, ⟨Bq⟩⟩
  ·rw [if_neg c4] at H
   have c4b0 : decide (a0 < 1) = false := decide_eq_false c4
   clear c4
   (first | rw [c4b0] | (simp only [i64_w, i32_w]; rw [c4b0]) | skip)
   have H' := Aside0.mk H
   clear H
   go_wp2
   go_meet
   case rel => exact ⟨_, (decide (a0 > 24)), Rq, H', ⟨by first | omega | exact Nat.le_refl _⟩, ⟨Bq⟩⟩
 case rest =>
  clear HC3
  try clear c1
  try clear p2
  try clear c4
  try clear c4b0
  obtain ⟨kq, x15_2, rfl, HA, HJ2, HB⟩ := hcut
  cases kq with
  | zero => exact absurd HA.out (by simp [bits_Pack.j0])
  | succ kj2 =>
   have H := HA.out
   clear HA
   simp only [bits_Pack.j0] at H
   by_cases c5 : x15_2 = true
   ·subst c5
    rw [if_pos rfl] at H
    obtain rfl := Option.some.inj H
    go_wp2
    go_ret
    exact ⟨_, by first | rfl | (simp [errW_none, errW_some] <;> rfl) | (simp [*, errW_none, errW_some] <;> rfl), by first | exact Kd.R_nil _ _ _ _ _ | exact Kd.N_nil _ _ _ _ _ | exact Kd.V_nil _ _ _ _ _ | exact Kd.Q_nil _ _ _ _ _ | exact Kd.S_nil _ _ _ _ _, Bq⟩
   ·replace c5 := Bool.eq_false_iff.mpr c5
    subst c5
    rw [if_neg nf] at H
    have H' := Aside0.mk H
    clear H
    go_wp2
    go_loopg [5, 6, 7, 18] kj2 (fun kq v5 v6 v7 v18 w' => ∃ (x5_2 : List Int) (x6_2 : Int) (x7_2 : Int) (x18_2 : Int), v6 = .int .i64 x6_2 ∧ v7 = .int .i64 x7_2 ∧ v18 = .int .i64 x18_2 ∧ Aside0 (bits_Pack.l0 kq a0 x5_2 x6_2 x7_2 l1 (l1.length : Int) x18_2 = some r) ∧ Aside0 (kq ≤ kj2) ∧ Aside0 (Kd.R (Kd.int .u8) 5 w' w.heap.size (fun _ => True) v5 x5_2) ∧ Aside0 (Below w.heap.size w w'))
    case atStart => exact ⟨(([] : List Int)), (0), (0), (0), Rq, Rq, Rq, H', ⟨Nat.le_refl _⟩, ⟨by first | exact Kd.R_nil _ _ _ _ _ | exact Kd.N_nil _ _ _ _ _ | exact Kd.V_nil _ _ _ _ _ | exact Kd.Q_nil _ _ _ _ _ | exact Kd.S_nil _ _ _ _ _⟩, ⟨Bq⟩⟩
    case round =>
     clear H'
     try clear c1
     try clear p2
     try clear c4
     try clear c4b0
     try clear c5
     try clear p2
     obtain ⟨x5_2, x6_2, x7_2, x18_2, rfl, rfl, rfl, HA, HK2, HO_5, HB⟩ := hrel
     cases gk with
     | zero => exact absurd HA.out (by simp [bits_Pack.l0])
     | succ k2 =>
      have H := HA.out
      clear HA
      simp only [bits_Pack.l0] at H
      by_cases c6 : x18_2 < (l1.length : Int)
      ·rw [if_pos c6] at H
       have c6b0 : decide (x18_2 < (l1.length : Int)) = true := decide_eq_true c6
       clear c6
       by_cases c7 : 0 ≤ x18_2
       ·rw [if_pos c7] at H
        have c7b0 : decide (0 ≤ x18_2) = true := decide_eq_true c7
        clear c7
        by_cases c8 : x18_2 < (l1.length : Int)
        ·rw [if_pos c8] at H
         have c8b0 : decide (x18_2 < (l1.length : Int)) = true := decide_eq_true c8
         clear c8
         have HC9 := Aside0.mk H
         clear H
         have p251 : 0 ≤ (x18_2 : Int) := of_decide_eq_true Aq
         have q251 : x18_2 < (l1.length : Int) := of_decide_eq_true Aq
         obtain ⟨ad251, e251, hx251_0⟩ := Kd.at_int HR1.out x18_2 p251 q251
         cases e251
         replace hx251_0 := (HB.out.cell (World.block_lt_of_cell? w _ hx251_0)).trans hx251_0
         replace p251 := eq_true p251
         replace q251 := eq_true q251
         go_upto_region 8 with (fail)
         go_cut [29] (fun v29 wc => ∃ (kq : Nat) (x29_8 : Bool), v29 = .bool x29_8 ∧ Aside0 (bits_Pack.j2 kq a0 x5_2 x6_2 x7_2 (rd l1 x18_2) l1 (l1.length : Int) x18_2 x29_8 = some r) ∧ Aside0 (kq ≤ k2) ∧ Aside0 (Kd.R (Kd.int .u8) 5 wc w.heap.size (fun _ => True) u5 x5_2) ∧ Aside0 (Below w.heap.size w wc))
         case first =>
          have H := HC9.out
          clear HC9
          by_cases c10 : (rd l1 x18_2) < 0
          ·rw [if_pos c10] at H
           have c10b0 : decide ((rd l1 x18_2) < 0) = true := decide_eq_true c10
           clear c10
           (first | rw [c10b0] | (simp only [i64_w, i32_w]; rw [c10b0]) | skip)
           have H' := Aside0.mk H
           clear H
           go_wp2
           go_meet
           case rel => exact ⟨_, (true), Rq, H', ⟨by have := HJ2.out; have := HK2.out; first | omega | exact Nat.le_refl _⟩, ⟨Wq HO_5⟩, ⟨Bq⟩⟩
          ·rw [if_neg c10] at H
           have c10b0 : decide ((rd l1 x18_2) < 0) = false := decide_eq_false c10
           clear c10
           (first | rw [c10b0] | (simp only [i64_w, i32_w]; rw [c10b0]) | skip)
           by_cases c11 : 0 ≤ a0
           ·rw [if_pos c11] at H
            have c11b0 := eq_true c11
            have c11b1 : decide (0 ≤ a0) = true := decide_eq_true c11
            clear c11
            obtain ⟨ji12, hji12⟩ : ∃ j_ : Int, (shr .i64 (rd l1 x18_2) a0) = j_ := ⟨_, rfl⟩
            replace H : (bits_Pack.j2 k2 a0 x5_2 x6_2 x7_2 (rd l1 x18_2) l1 (l1.length : Int) x18_2 ((ji12) != 0)) = some r := by first | (rw [hji12] at H; exact H) | (simp only [hji12] at H ⊢; exact H)
            have hji12_ : ((rd l1 x18_2) / 2 ^ min a0.toNat 64) = ji12 := hji12
            have hji12z : a0 ≤ 64 → ((rd l1 x18_2) / 2 ^ a0.toNat) = ji12 := shr_small hji12
            have H' := Aside0.mk H
            clear H
            go_wp2
            go_meet
            case rel => exact ⟨_, (((ji12) != 0)), (by first | rfl | (simp; done) | (simp only [← hji12] <;> (first | rfl | simp)) | (simp [*]; done)), H', ⟨by have := HJ2.out; have := HK2.out; first | omega | exact Nat.le_refl _⟩, ⟨Wq HO_5⟩, ⟨Bq⟩⟩
           ·rw [if_neg c11] at H
            exact absurd H (by simp)
         case rest =>
          clear HC9
          try clear c1
          try clear p2
          try clear q2
          try clear hx2
          try clear c4
          try clear c4b0
          try clear c5
          try clear c6
          try clear c6b0
          try clear c7
          try clear c7b0
          try clear c8
          try clear c8b0
          try clear c10
          try clear c10b0
          try clear c11
          try clear c11b0
          try clear c11b1
          try clear hx251_0
          try clear p2
          try clear p251
          try clear q251
          obtain ⟨kq, x29_8, rfl, HA, HJ8, HO_5, HB⟩ := hcut
          cases kq with
          | zero => exact absurd HA.out (by simp [bits_Pack.j2])
          | succ kj8 =>
           have H := HA.out
           clear HA
           simp only [bits_Pack.j2] at H
           by_cases c13 : x29_8 = true
           ·subst c13
            rw [if_pos rfl] at H
            obtain rfl := Option.some.inj H
            go_wp2
            go_ret
            exact ⟨_, by first | rfl | (simp [errW_none, errW_some] <;> rfl) | (simp [*, errW_none, errW_some] <;> rfl), by first | exact Kd.R_nil _ _ _ _ _ | exact Kd.N_nil _ _ _ _ _ | exact Kd.V_nil _ _ _ _ _ | exact Kd.Q_nil _ _ _ _ _ | exact Kd.S_nil _ _ _ _ _, Bq⟩
           ·replace c13 := Bool.eq_false_iff.mpr c13
            subst c13
            rw [if_neg nf] at H
            by_cases c14 : 0 ≤ x7_2
            ·rw [if_pos c14] at H
             have c14b0 := eq_true c14
             have c14b1 : decide (0 ≤ x7_2) = true := decide_eq_true c14
             clear c14
             obtain ⟨ji15, hji15⟩ : ∃ j_ : Int, (shl .i64 (rd l1 x18_2) x7_2) = j_ := ⟨_, rfl⟩
             replace H : (bits_Pack.l1 kj8 a0 x5_2 (Go.bits .or .i64 x6_2 (ji15)) (wrap64 (x7_2 + a0)) l1 (l1.length : Int) x18_2) = some r := by first | (rw [hji15] at H; exact H) | (simp only [hji15] at H ⊢; exact H)
             have hji15_ : (IntKind.i64.wrap ((rd l1 x18_2) * 2 ^ min x7_2.toNat 64)) = ji15 := hji15
             have hji15z : x7_2 ≤ 64 → (IntKind.i64.wrap ((rd l1 x18_2) * 2 ^ x7_2.toNat)) = ji15 := shl_small hji15
             have hji15y : (wrap64 ((rd l1 x18_2) * 2 ^ min x7_2.toNat 64)) = ji15 := (i64_w _).symm.trans hji15_
             have hji15x : x7_2 ≤ 64 → (wrap64 ((rd l1 x18_2) * 2 ^ x7_2.toNat)) = ji15 := fun h_ => (i64_w _).symm.trans (hji15z h_)
             have H' := Aside0.mk H
             clear H
             go_wp2
             go_loopg [5, 6, 7] kj8 (fun kq v5 v6 v7 w' => ∃ (x5_4 : List Int) (x6_4 : Int) (x7_4 : Int), v6 = .int .i64 x6_4 ∧ v7 = .int .i64 x7_4 ∧ Aside0 (bits_Pack.l1 kq a0 x5_4 x6_4 x7_4 l1 (l1.length : Int) x18_2 = some r) ∧ Aside0 (kq ≤ kj8) ∧ Aside0 (Kd.R (Kd.int .u8) 5 w' w.heap.size (fun _ => True) v5 x5_4) ∧ Aside0 (Below w.heap.size w w'))
             case atStart => exact ⟨(x5_2), (Go.bits .or .i64 x6_2 (ji15)), (wrap64 (x7_2 + a0)), (by first | rfl | (simp; done) | (simp only [← hji15] <;> (first | rfl | simp)) | (simp [*]; done)), Rq, H', ⟨Nat.le_refl _⟩, ⟨Wq HO_5⟩, ⟨Bq⟩⟩
             case round =>
              clear H'
              try clear c1
              try clear p2
              try clear q2
              try clear hx2
              try clear c4
              try clear c4b0
              try clear c5
              try clear c6
              try clear c6b0
              try clear p6
              try clear c7
              try clear c7b0
              try clear c8
              try clear c8b0
              try clear c10
              try clear c10b0
              try clear c11
              try clear c11b0
              try clear c11b1
              try clear c13
              try clear c14
              try clear c14b0
              try clear c14b1
              try clear hx251_0
              try clear p2
              try clear p251
              try clear q2
              try clear q251
              obtain ⟨x5_4, x6_4, x7_4, rfl, rfl, HA, HK4, HO_5, HB⟩ := hrel
              cases gk with
              | zero => exact absurd HA.out (by simp [bits_Pack.l1])
              | succ k4 =>
               have H := HA.out
               clear HA
               simp only [bits_Pack.l1] at H
               by_cases c16 : x7_4 ≥ 8
               ·rw [if_pos c16] at H
                have c16b0 : decide (8 ≤ x7_4) = true := decide_eq_true c16
                clear c16
                by_cases c17 : x5_4.length < 140737488355328
                ·rw [if_pos c17] at H
                 have LMc17 := Aside0.mk c17
                 clear c17
                 obtain ⟨y252, Ny252⟩ : ∃ y_ : List Int, Aside0 (y_ = (x5_4 ++ [(x6_4) % 256])) := ⟨_, ⟨rfl⟩⟩
                 first | rw [Option.bind_some, ← Ny252.out] at H | rw [← Ny252.out] at H
                 have H' := Aside0.mk H
                 clear H
                 go_wp2_with (first | ((with_reducible refine gate_builtin (b := .append) (xs := #[.tmp 42, .tmp 45]) rfl ?_); at_builtin; refine Kd.R_append (Kd.int .u8) (w0 := w) w.heap.size rfl (.tmp 42) (.tmp 45) 22 5 (.int .u8 0) 1 rfl Tryd.underlying22 info5 rfl (by decide) (by omega) u5 x5_4 ((x6_4) % 256) [.int .u8 ((x6_4) % 256)] (fun _ => True) (fun _ => False) rfl rfl ?aP (fun _ hk => hk.elim) ?aF ?aO ?aB ?aS ?aL ?_; (case aP => exact rfl); (case aB => exact Bq); (case aF => exact (fun _ _ => trivial)); (case aO => exact (Wq HO_5)); (case aS => exact (below_size Bq)); (case aL => have := LMc17.out; omega); intro v253 w18 ho hb hg hat; rw [← Ny252.out] at ho; replace HB := Aside0.mk (hb); have HO254 := Aside0.mk (ho); clear HO_5; clear ho hb hg hat))
                 go_roundg k4
                 case measure => have := HJ2.out; have := HK2.out; have := HJ8.out; have := HK4.out; omega
                 case rel => exact ⟨(y252), (x6_4 / 256), (wrap64 (x7_4 - 8)), Rq, Rq, H', ⟨by have := HJ2.out; have := HK2.out; have := HJ8.out; have := HK4.out; omega⟩, ⟨Wq HO254⟩, ⟨Bq⟩⟩
                ·rw [if_neg c17] at H
                 exact absurd H (by simp)
               ·rw [if_neg c16] at H
                have c16b0 : decide (8 ≤ x7_4) = false := decide_eq_false c16
                clear c16
                have H' := Aside0.mk H
                clear H
                go_wp2
                go_roundg k4
                case measure => have := HJ2.out; have := HK2.out; have := HJ8.out; have := HK4.out; omega
                case rel => exact ⟨(x5_4), (x6_4), (x7_4), (wrap64 (x18_2 + 1)), Rq, Rq, Rq, H', ⟨by have := HJ2.out; have := HK2.out; have := HJ8.out; have := HK4.out; omega⟩, ⟨Wq HO_5⟩, ⟨Bq⟩⟩
            ·rw [if_neg c14] at H
             exact absurd H (by simp)
        ·rw [if_neg c8] at H
         exact absurd H (by simp)
       ·rw [if_neg c7] at H
        exact absurd H (by simp)
      ·rw [if_neg c6] at H
       have c6b0 : decide (x18_2 < (l1.length : Int)) = false := decide_eq_false c6
       clear c6
       by_cases c19 : x7_2 > 0
       ·rw [if_pos c19] at H
        have c19b0 : decide (0 < x7_2) = true := decide_eq_true c19
        clear c19
        by_cases c20 : x5_2.length < 140737488355328
        ·rw [if_pos c20] at H
         have LMc20 := Aside0.mk c20
         clear c20
         obtain ⟨y248, Ny248⟩ : ∃ y_ : List Int, Aside0 (y_ = (x5_2 ++ [(x6_2) % 256])) := ⟨_, ⟨rfl⟩⟩
         first | rw [Option.bind_some, ← Ny248.out] at H | rw [← Ny248.out] at H
         obtain rfl := Option.some.inj H
         go_wp2_with (first | ((with_reducible refine gate_builtin (b := .append) (xs := #[.tmp 52, .tmp 55]) rfl ?_); at_builtin; refine Kd.R_append (Kd.int .u8) (w0 := w) w.heap.size rfl (.tmp 52) (.tmp 55) 22 5 (.int .u8 0) 1 rfl Tryd.underlying22 info5 rfl (by decide) (by omega) u5 x5_2 ((x6_2) % 256) [.int .u8 ((x6_2) % 256)] (fun _ => True) (fun _ => False) rfl rfl ?aP (fun _ hk => hk.elim) ?aF ?aO ?aB ?aS ?aL ?_; (case aP => exact rfl); (case aB => exact Bq); (case aF => exact (fun _ _ => trivial)); (case aO => exact (Wq HO_5)); (case aS => exact (below_size Bq)); (case aL => have := LMc20.out; omega); intro v249 w21 ho hb hg hat; rw [← Ny248.out] at ho; replace HB := Aside0.mk (hb); have HO250 := Aside0.mk (ho); clear HO_5; clear ho hb hg hat))
         go_ret
         exact ⟨_, by first | rfl | (simp [errW_none, errW_some] <;> rfl) | (simp [*, errW_none, errW_some] <;> rfl), Wq HO250, Bq⟩
        ·rw [if_neg c20] at H
         exact absurd H (by simp)
       ·rw [if_neg c19] at H
        have c19b0 : decide (0 < x7_2) = false := decide_eq_false c19
        clear c19
        obtain rfl := Option.some.inj H
        go_wp2
        go_ret
        exact ⟨_, by first | rfl | (simp [errW_none, errW_some] <;> rfl) | (simp [*, errW_none, errW_some] <;> rfl), Wq HO_5, Bq⟩

end Go.Proofs.YtkdfcgihgndnnaaDoor.PPA
end
section
namespace Go.Proofs.YtkdfcgihgndnnaaDoor.PPA
open Go.RowKit Go.Proofs.YtkdfcgihgndnnaaDoorW.PrintWords Go.Proofs.YtkdfcgihgndnnaaDoorW.PrintLast Go.Proofs.YtkdfcgihgndnnaaDoorW.PrintMore Go.Proofs.YtkdfcgihgndnnaaDoorW.PrintZip
attribute [local go_sem] max2_int min2_int max_two min_two max_three min_three max_four min_four   -- for this text's walks alone
set_option linter.unusedVariables false
set_option linter.unusedSimpArgs false

/-! ### draw_Lean: function 68 -/
mutual
def draw_Lean.j0 : Nat → Int → List Int → Bool → Option (List Int × (List (S70)))
 | 0, _, _, _ => none
 | k + 1, x0, x1, x10 => if x10 = true then ((draw_fault.f 2).bind fun t142 => (some (([] : List Int), t142))) else (if (x1.length : Int) = (wrap64 (64 * x0)) then (if 256 ≤ 35184372088832 then ((bits_Unpack.f k 1 x1).bind fun t151 => (draw_Lean.l0 k x0 (List.replicate 256 0) t151 (t151.length : Int) 0)) else (none)) else ((draw_fault.f 3).bind fun t145 => (some (([] : List Int), t145))))
def draw_Lean.l0 : Nat → Int → List Int → List Int → Int → Int → Option (List Int × (List (S70)))
 | 0, _, _, _, _, _ => none
 | k + 1, x0, x6, x27, x28, x29 => if x29 < x28 then (if 0 ≤ x29 then (if x29 < (x27.length : Int) then (if (wrap64 (2 * x0)) = 0 then (none) else (if (Int.tmod x29 (wrap64 (2 * x0))) ≥ x0 then (if 0 ≤ (wrap64 (Int.tdiv x29 (wrap64 (2 * x0)))) then (if (wrap64 (Int.tdiv x29 (wrap64 (2 * x0)))) < (x6.length : Int) then (draw_Lean.l0 k x0 (x6.set ((wrap64 (Int.tdiv x29 (wrap64 (2 * x0)))) : Int).toNat (Int.tmod (wrap64 ((rd x6 (wrap64 (Int.tdiv x29 (wrap64 (2 * x0))))) + (wrap64 (3329 - (rd x27 x29))))) 3329)) x27 x28 (wrap64 (x29 + 1))) else (none)) else (none)) else (if 0 ≤ (wrap64 (Int.tdiv x29 (wrap64 (2 * x0)))) then (if (wrap64 (Int.tdiv x29 (wrap64 (2 * x0)))) < (x6.length : Int) then (draw_Lean.l0 k x0 (x6.set ((wrap64 (Int.tdiv x29 (wrap64 (2 * x0)))) : Int).toNat (Int.tmod (wrap64 ((rd x6 (wrap64 (Int.tdiv x29 (wrap64 (2 * x0))))) + (rd x27 x29))) 3329)) x27 x28 (wrap64 (x29 + 1))) else (none)) else (none)))) else (none)) else (none)) else (some (x6, ([] : List (S70))))
end
def draw_Lean.f (k : Nat) (a0 : Int) (l1 : List Int) : Option (List Int × (List (S70))) := if a0 = 2 then (draw_Lean.j0 k a0 l1 false) else (draw_Lean.j0 k a0 l1 (a0 != 3))
set_option maxHeartbeats 8000000 in
set_option maxRecDepth 100000 in
theorem draw_Lean.calls (k : Nat) (a0 : Int) (A1 : Option Addr) (c1 : Nat) (l1 : List Int) (r1 : List Int) (r2 : List (S70)) (w : World) (hr1 : Kd.C (Kd.int .u8) w A1 l1.length l1) (hc1 : l1.length ≤ c1) (h : draw_Lean.f k a0 l1 = some (r1, r2)) :
  Calls Tryd.prog 68 #[.int .i64 a0, .slice A1 l1.length c1] w fun e w' => ∃ v0_ v1_ : Value, e = .returned (.tuple #[v0_, v1_]) ∧ Kd.R (Kd.int .i64) 3 w' w.heap.size (fun _ => True) v0_ r1 ∧ Kd.R k70 70 w' w.heap.size (fun _ => True) (eRow v1_) r2 ∧ Below w.heap.size w w' := by
 have HR1 := Aside0.mk hr1
 have HC1 := Aside0.mk hc1
 clear hr1 hc1
 have HB := Aside0.mk (Below.refl w.heap.size w)
 have H := h
 unfold draw_Lean.f at H
 clear h
 have HC3 := Aside0.mk H
 clear H
 go_enter Tryd.func68, Tryd.ntmps68
 go_upto_region 1 with (fail)
 go_cut [10] (fun v10 wc => ∃ (kq : Nat) (x10_2 : Bool), v10 = .bool x10_2 ∧ Aside0 (draw_Lean.j0 kq a0 l1 x10_2 = some (r1, r2)) ∧ Aside0 (kq ≤ k) ∧ Aside0 (Below w.heap.size w wc))
 case first =>
  have H := HC3.out
  clear HC3
  by_cases c4 : a0 = 2
  ·rw [if_pos c4] at H
   have c4b0 : (a0 == 2) = true := beq_iff_eq.mpr c4
   have c4b1 : (a0 != 2) = false := bne_eq_false_iff_eq.mpr c4
   clear c4
   (first | rw [c4b0] | (simp only [i64_w, i32_w]; rw [c4b0]) | skip)
   have H' := Aside0.mk H
   clear H
   go_wp2
   go_meet
   case rel => exact ⟨_, (false), Rq, H', ⟨by first | omega | exact Nat.le_refl _⟩, ⟨Bq⟩⟩
  ·rw [if_neg c4] at H
   have c4b0 : (a0 == 2) = false := beq_eq_false_iff_ne.mpr c4
   have c4b1 : (a0 != 2) = true := bne_iff_ne.mpr c4
   (first | rw [c4b0] | (simp only [i64_w, i32_w]; rw [c4b0]) | skip)
   have H' := Aside0.mk H
   clear H
   go_wp2
   go_meet
   case rel => exact ⟨_, ((a0 != 3)), Rq, H', ⟨by first | omega | exact Nat.le_refl _⟩, ⟨Bq⟩⟩
 case rest =>
  clear HC3
  try clear c1
  try clear p2
  try clear c4
  try clear c4b0
  try clear c4b1
  obtain ⟨kq, x10_2, rfl, HA, HJ2, HB⟩ := hcut
  cases kq with
  | zero => exact absurd HA.out (by simp [draw_Lean.j0])
  | succ kj2 =>
   have H := HA.out
   clear HA
   simp only [draw_Lean.j0] at H
   by_cases c5 : x10_2 = true
   ·subst c5
    rw [if_pos rfl] at H
    replace H := Option.bind_eq_some_iff.mp H
    obtain ⟨t142, A60, H⟩ := H
    try dsimp only at H
    have A6 := Aside0.mk A60
    clear A60
    simp only [Option.some.injEq, Prod.mk.injEq] at H
    obtain ⟨rfl, rfl⟩ := H
    go_wp2_with (first | ((with_reducible refine gate_callee (f := 67) rfl ?_); refine goesL_ (some 17) rfl rfl Tryd.func67 (by kernel_rfl) rfl #[.int .i64 2] rfl Mq ?_; (with_reducible refine (draw_fault.calls 2 t142 _ A6.out).mono ?_); rintro e w7 ⟨v143, rfl, ho0, hb⟩; refine ⟨_, rfl, ?_⟩; have HO144 := Aside0.mk (Kd.R_lower ho0 (below_size Bq)); replace HB := Aside0.mk (below_step Bq hb); clear hb ho0; (try clear A6)))
    go_ret2
    exact ⟨_, _, by first | rfl | (simp [errW_none, errW_some] <;> rfl) | (simp [*, errW_none, errW_some] <;> rfl), by first | exact Kd.R_nil _ _ _ _ _ | exact Kd.N_nil _ _ _ _ _ | exact Kd.V_nil _ _ _ _ _ | exact Kd.Q_nil _ _ _ _ _ | exact Kd.S_nil _ _ _ _ _, Wq HO144, Bq⟩
   ·replace c5 := Bool.eq_false_iff.mpr c5
    subst c5
    rw [if_neg nf] at H
    by_cases c8 : (l1.length : Int) = (wrap64 (64 * a0))
    ·rw [if_pos c8] at H
     have c8b0 : ((l1.length : Int) == (wrap64 (64 * a0))) = true := beq_iff_eq.mpr c8
     have c8b1 : ((l1.length : Int) != (wrap64 (64 * a0))) = false := bne_eq_false_iff_eq.mpr c8
     clear c8
     by_cases c9 : 256 ≤ 35184372088832
     ·rw [if_pos c9] at H
      have c9b0 := eq_true c9
      have c9b1 : decide (256 ≤ 35184372088832) = true := decide_eq_true c9
      clear c9
      obtain ⟨y148, Ny148⟩ : ∃ y_ : List Int, Aside0 (y_ = (List.replicate 256 0)) := ⟨_, ⟨rfl⟩⟩
      first | rw [Option.bind_some, ← Ny148.out] at H | rw [← Ny148.out] at H
      replace H := Option.bind_eq_some_iff.mp H
      obtain ⟨t151, A100, H⟩ := H
      try dsimp only at H
      have A10 := Aside0.mk A100
      clear A100
      have H' := Aside0.mk H
      clear H
      go_wp2_with (first | ((with_reducible refine gate_dst (N := 25) rfl ?_); refine Kd.R_make (Kd.int .i64) _ 3 rfl (N := 25) rfl 40 _ _ rfl 256 rfl rfl Tryd.underlying40 (.int .i64 0) 8 info3 rfl (by decide) (by omega) 0 (ok := fun _ => True) (okp := fun _ => True) rfl (fun _ hk => hk) trivial (by omega) (by omega) (Below.refl _ _) (Nat.le_refl _) ?_; intro v149 w11 ho12 hb hg_ hnew_; clear hg_ hnew_; (first | rw [← Ny148.out] at ho12 | (simp only [Int.reduceToNat] at ho12; rw [← Ny148.out] at ho12)); have HO150 := Aside0.mk (Kd.R_lower ho12 (below_size Bq)); replace HB := Aside0.mk (below_step Bq hb); clear hb ho12) | ((with_reducible refine gate_callee (f := 16) rfl ?_); refine goesL_ (some 27) rfl rfl Tryd.func16 (by kernel_rfl) rfl #[.int .i64 1, .slice A1 l1.length c1] rfl Mq ?_; (with_reducible refine (bits_Unpack.calls kj2 1 _ _ l1 t151 _ ?side1 ?side2 A10.out).mono ?_); (case side1 => exact Cq (Kd.C_below HR1.out HB.out)); (case side2 => exact HC1.out); rintro e w13 ⟨v152, rfl, ho0, hb⟩; refine ⟨_, rfl, ?_⟩; have HO153 := Aside0.mk (Kd.R_lower (Kd.R_new' ho0 (Kd.R_lt (Wq HO150))) (below_size Bq)); replace HO150 := Aside0.mk (Kd.R_elder' (Wq HO150) (Kd.R_base ho0) hb); replace HB := Aside0.mk (below_step Bq hb); clear hb ho0; (try clear A10); obtain ⟨Ao14, co14, eo14⟩ := Kd.R_slice HO153.out; subst eo14))
      go_loopg [29] kj2 (fun kq v29 w' => ∃ (x6_2 : List Int) (x29_2 : Int), v29 = .int .i64 x29_2 ∧ Aside0 (draw_Lean.l0 kq a0 x6_2 t151 (t151.length : Int) x29_2 = some (r1, r2)) ∧ Aside0 (kq ≤ kj2) ∧ Aside0 (Kd.R (Kd.int .i64) 3 w' w.heap.size (fun k_ => some k_ ≠ ((.slice Ao14 t151.length co14) : Value).ownBlock) v149 x6_2) ∧ Aside0 (Kd.R (Kd.int .i64) 3 w' w.heap.size (fun k_ => some k_ ≠ (v149 : Value).ownBlock) (.slice Ao14 t151.length co14) t151) ∧ Aside0 (Below w.heap.size w w'))
      case atStart => exact ⟨(y148), (0), Rq, H', ⟨Nat.le_refl _⟩, ⟨by (with_reducible repeat (first | apply Kd.R_alloc | apply Kd.R_drewN | apply Kd.R_drew)); exact Kd.R_mono HO150.out (fun _ hk => hk.2)⟩, ⟨by (with_reducible repeat (first | apply Kd.R_alloc | apply Kd.R_drewN | apply Kd.R_drew)); exact Kd.R_mono HO153.out (fun _ hk => hk.2)⟩, ⟨Bq⟩⟩
      case round =>
       clear H'
       try clear c1
       try clear p2
       try clear c4
       try clear c4b0
       try clear c4b1
       try clear c5
       try clear c6
       try clear p6
       try clear c8
       try clear c8b0
       try clear c8b1
       try clear c9
       try clear c9b0
       try clear c9b1
       try clear p2
       obtain ⟨x6_2, x29_2, rfl, HA, HK2, HO_6, HO_27, HB⟩ := hrel
       cases gk with
       | zero => exact absurd HA.out (by simp [draw_Lean.l0])
       | succ k2 =>
        have H := HA.out
        clear HA
        simp only [draw_Lean.l0] at H
        by_cases c15 : x29_2 < (t151.length : Int)
        ·rw [if_pos c15] at H
         have c15b0 : decide (x29_2 < (t151.length : Int)) = true := decide_eq_true c15
         clear c15
         by_cases c16 : 0 ≤ x29_2
         ·rw [if_pos c16] at H
          have c16b0 : decide (0 ≤ x29_2) = true := decide_eq_true c16
          clear c16
          by_cases c17 : x29_2 < (t151.length : Int)
          ·rw [if_pos c17] at H
           have c17b0 : decide (x29_2 < (t151.length : Int)) = true := decide_eq_true c17
           clear c17
           by_cases c18 : (wrap64 (2 * a0)) = 0
           ·rw [if_pos c18] at H
            exact absurd H (by simp)
           ·rw [if_neg c18] at H
            have c18b0 : ((wrap64 (2 * a0)) == 0) = false := beq_eq_false_iff_ne.mpr c18
            have c18b1 : ((wrap64 (2 * a0)) != 0) = true := bne_iff_ne.mpr c18
            by_cases c19 : (Int.tmod x29_2 (wrap64 (2 * a0))) ≥ a0
            ·rw [if_pos c19] at H
             have c19b0 : decide (a0 ≤ (Int.tmod x29_2 (wrap64 (2 * a0)))) = true := decide_eq_true c19
             clear c19
             obtain ⟨ji20, hji20⟩ : ∃ j_ : Int, (wrap64 (Int.tdiv x29_2 (wrap64 (2 * a0)))) = j_ := ⟨_, rfl⟩
             replace H : (if 0 ≤ (ji20) then (if (ji20) < (x6_2.length : Int) then (draw_Lean.l0 k2 a0 (x6_2.set ((ji20) : Int).toNat (Int.tmod (wrap64 ((rd x6_2 (ji20)) + (wrap64 (3329 - (rd t151 x29_2))))) 3329)) t151 (t151.length : Int) (wrap64 (x29_2 + 1))) else (none)) else (none)) = some (r1, r2) := by first | (rw [hji20] at H; exact H) | (simp only [hji20] at H ⊢; exact H)
             have hji20w : (IntKind.i64.wrap (Int.tdiv x29_2 (wrap64 (2 * a0)))) = ji20 := (i64_w _).trans hji20
             by_cases c21 : 0 ≤ (ji20)
             ·rw [if_pos c21] at H
              have c21b0 : decide (0 ≤ (ji20)) = true := decide_eq_true c21
              clear c21
              by_cases c22 : (ji20) < (x6_2.length : Int)
              ·rw [if_pos c22] at H
               have c22b0 : decide ((ji20) < (x6_2.length : Int)) = true := decide_eq_true c22
               clear c22
               obtain ⟨y156, Ny156⟩ : ∃ y_ : List Int, Aside0 (y_ = (x6_2.set ((ji20) : Int).toNat (Int.tmod (wrap64 ((rd x6_2 (ji20)) + (wrap64 (3329 - (rd t151 x29_2))))) 3329))) := ⟨_, ⟨rfl⟩⟩
               first | rw [Option.bind_some, ← Ny156.out] at H | rw [← Ny156.out] at H
               have H' := Aside0.mk H
               clear H
               have p154 : 0 ≤ (x29_2 : Int) := of_decide_eq_true Aq
               have q154 : x29_2 < (t151.length : Int) := of_decide_eq_true Aq
               obtain ⟨ad154, e154, hx154_0⟩ := Kd.at_int (Kd.R_reads' HO_27.out).2.2 x29_2 p154 q154
               cases e154
               replace p154 := eq_true p154
               replace q154 := eq_true q154
               obtain ⟨Ao24, co24, eo24⟩ := Kd.R_slice HO_6.out
               subst eo24
               have p155 : 0 ≤ ((ji20) : Int) := of_decide_eq_true Aq
               have q155 : (ji20) < (x6_2.length : Int) := of_decide_eq_true Aq
               obtain ⟨ad155, e155, hx155_0⟩ := Kd.at_int (Kd.R_reads' HO_6.out).2.2 (ji20) p155 q155
               cases e155
               replace p155 := eq_true p155
               replace q155 := eq_true q155
               have p23 : 0 ≤ ((ji20) : Int) := of_decide_eq_true Aq
               have q23 : ((ji20) : Int) < ((x6_2.length : Int) : Int) := of_decide_eq_true Aq
               obtain ⟨go23, co23, eo23, gb23, gl23, cl23, HG23⟩ := Kd.R_form HO_6.out (by omega)
               (first | cases eo23 | (injection eo23 with ea_ en_ ec_; (first | subst ea_ | (injection ea_ with ea_; subst ea_)); subst ec_; clear en_))
               have GB23 := Aside0.mk gb23
               have GG23 := Aside0.mk HG23
               clear gb23 gl23 HG23
               (first | simp only [add_plain] at hx155_0 | skip)
               obtain ⟨hx23_0, hf23_0⟩ := Kd.R_celln 0 HO_6.out ((ji20) : Int) p23 q23
               replace p23 := eq_true p23
               replace q23 := eq_true q23
               have HP25 := Kd.R_putg HO_6.out ((ji20) : Int) (Int.tmod (wrap64 ((rd x6_2 (ji20)) + (wrap64 (3329 - (rd t151 x29_2))))) 3329)
               go_wp2_with (first | ((with_reducible refine gate_store (t := 3) (p := 55) rfl ?_); refine store_event (t := 3) (p := 55) (v := ?vo_w26) (w1 := (wr.setCell ⟨go23, ((ji20) : Int).toNat, none⟩ (.int .i64 (Int.tmod (wrap64 ((rd x6_2 (ji20)) + (wrap64 (3329 - (rd t151 x29_2))))) 3329)))) ?hg ?ho ?hn ?hr ?_; (case ho => rfl); (case hg => rfl); (case hn => rfl); (case hr => first | (go_simp; done) | (go_simp; rfl)); intro w26 hw; have hg : wr.grownBy w26 (some go23) := (by rw [hw]; exact HP25.2); have hp_ : Kd.R (Kd.int .i64) 3 w26 w.heap.size (fun k_ => some k_ ≠ (.slice (some ad154) t151.length co14 : Value).ownBlock) (.slice (some ⟨go23, 0, none⟩) x6_2.length co24) y156 := (by rw [hw, Ny156.out]; exact HP25.1); clear HP25; replace HO_6 := Aside0.mk (hp_); replace HO_27 := Aside0.mk (Kd.R_after (v := (.slice (some ⟨go23, 0, none⟩) x6_2.length co24)) (v1 := (.slice (some ⟨go23, 0, none⟩) x6_2.length co24)) (ok := (fun _ => True)) (by (with_reducible repeat (first | apply Kd.R_alloc | apply Kd.R_drewN | apply Kd.R_drew)); exact Kd.R_mono HO_27.out (fun _ hk => ⟨trivial, hk⟩)) hg (.inl rfl)); replace HB := Aside0.mk ((by rw [hw]; exact below_set (HB.out) GB23.out : Below w.heap.size w w26)); clear hg hw hp_))
               go_roundg k2
               case measure => have := HJ2.out; have := HK2.out; omega
               case rel => exact ⟨(y156), (wrap64 (x29_2 + 1)), Rq, H', ⟨by have := HJ2.out; have := HK2.out; omega⟩, ⟨Wq HO_6⟩, ⟨by (with_reducible repeat (first | apply Kd.R_alloc | apply Kd.R_drewN | apply Kd.R_drew)); exact Kd.R_mono HO_27.out (fun _ hk => hk.2)⟩, ⟨Bq⟩⟩
              ·rw [if_neg c22] at H
               exact absurd H (by simp)
             ·rw [if_neg c21] at H
              exact absurd H (by simp)
            ·rw [if_neg c19] at H
             have c19b0 : decide (a0 ≤ (Int.tmod x29_2 (wrap64 (2 * a0)))) = false := decide_eq_false c19
             clear c19
             obtain ⟨ji27, hji27⟩ : ∃ j_ : Int, (wrap64 (Int.tdiv x29_2 (wrap64 (2 * a0)))) = j_ := ⟨_, rfl⟩
             replace H : (if 0 ≤ (ji27) then (if (ji27) < (x6_2.length : Int) then (draw_Lean.l0 k2 a0 (x6_2.set ((ji27) : Int).toNat (Int.tmod (wrap64 ((rd x6_2 (ji27)) + (rd t151 x29_2))) 3329)) t151 (t151.length : Int) (wrap64 (x29_2 + 1))) else (none)) else (none)) = some (r1, r2) := by first | (rw [hji27] at H; exact H) | (simp only [hji27] at H ⊢; exact H)
             have hji27w : (IntKind.i64.wrap (Int.tdiv x29_2 (wrap64 (2 * a0)))) = ji27 := (i64_w _).trans hji27
             by_cases c28 : 0 ≤ (ji27)
             ·rw [if_pos c28] at H
              have c28b0 : decide (0 ≤ (ji27)) = true := decide_eq_true c28
              clear c28
              by_cases c29 : (ji27) < (x6_2.length : Int)
              ·rw [if_pos c29] at H
               have c29b0 : decide ((ji27) < (x6_2.length : Int)) = true := decide_eq_true c29
               clear c29
               obtain ⟨y158, Ny158⟩ : ∃ y_ : List Int, Aside0 (y_ = (x6_2.set ((ji27) : Int).toNat (Int.tmod (wrap64 ((rd x6_2 (ji27)) + (rd t151 x29_2))) 3329))) := ⟨_, ⟨rfl⟩⟩
               first | rw [Option.bind_some, ← Ny158.out] at H | rw [← Ny158.out] at H
               have H' := Aside0.mk H
               clear H
               have p154 : 0 ≤ (x29_2 : Int) := of_decide_eq_true Aq
               have q154 : x29_2 < (t151.length : Int) := of_decide_eq_true Aq
               obtain ⟨ad154, e154, hx154_0⟩ := Kd.at_int (Kd.R_reads' HO_27.out).2.2 x29_2 p154 q154
               cases e154
               replace p154 := eq_true p154
               replace q154 := eq_true q154
               obtain ⟨Ao31, co31, eo31⟩ := Kd.R_slice HO_6.out
               subst eo31
               have p157 : 0 ≤ ((ji27) : Int) := of_decide_eq_true Aq
               have q157 : (ji27) < (x6_2.length : Int) := of_decide_eq_true Aq
               obtain ⟨ad157, e157, hx157_0⟩ := Kd.at_int (Kd.R_reads' HO_6.out).2.2 (ji27) p157 q157
               cases e157
               replace p157 := eq_true p157
               replace q157 := eq_true q157
               have p30 : 0 ≤ ((ji27) : Int) := of_decide_eq_true Aq
               have q30 : ((ji27) : Int) < ((x6_2.length : Int) : Int) := of_decide_eq_true Aq
               obtain ⟨go30, co30, eo30, gb30, gl30, cl30, HG30⟩ := Kd.R_form HO_6.out (by omega)
               (first | cases eo30 | (injection eo30 with ea_ en_ ec_; (first | subst ea_ | (injection ea_ with ea_; subst ea_)); subst ec_; clear en_))
               have GB30 := Aside0.mk gb30
               have GG30 := Aside0.mk HG30
               clear gb30 gl30 HG30
               (first | simp only [add_plain] at hx157_0 | skip)
               obtain ⟨hx30_0, hf30_0⟩ := Kd.R_celln 0 HO_6.out ((ji27) : Int) p30 q30
               replace p30 := eq_true p30
               replace q30 := eq_true q30
               have HP32 := Kd.R_putg HO_6.out ((ji27) : Int) (Int.tmod (wrap64 ((rd x6_2 (ji27)) + (rd t151 x29_2))) 3329)
               go_wp2_with (first | ((with_reducible refine gate_store (t := 3) (p := 55) rfl ?_); refine store_event (t := 3) (p := 55) (v := ?vo_w33) (w1 := (wr.setCell ⟨go30, ((ji27) : Int).toNat, none⟩ (.int .i64 (Int.tmod (wrap64 ((rd x6_2 (ji27)) + (rd t151 x29_2))) 3329)))) ?hg ?ho ?hn ?hr ?_; (case ho => rfl); (case hg => rfl); (case hn => rfl); (case hr => first | (go_simp; done) | (go_simp; rfl)); intro w33 hw; have hg : wr.grownBy w33 (some go30) := (by rw [hw]; exact HP32.2); have hp_ : Kd.R (Kd.int .i64) 3 w33 w.heap.size (fun k_ => some k_ ≠ (.slice (some ad154) t151.length co14 : Value).ownBlock) (.slice (some ⟨go30, 0, none⟩) x6_2.length co31) y158 := (by rw [hw, Ny158.out]; exact HP32.1); clear HP32; replace HO_6 := Aside0.mk (hp_); replace HO_27 := Aside0.mk (Kd.R_after (v := (.slice (some ⟨go30, 0, none⟩) x6_2.length co31)) (v1 := (.slice (some ⟨go30, 0, none⟩) x6_2.length co31)) (ok := (fun _ => True)) (by (with_reducible repeat (first | apply Kd.R_alloc | apply Kd.R_drewN | apply Kd.R_drew)); exact Kd.R_mono HO_27.out (fun _ hk => ⟨trivial, hk⟩)) hg (.inl rfl)); replace HB := Aside0.mk ((by rw [hw]; exact below_set (HB.out) GB30.out : Below w.heap.size w w33)); clear hg hw hp_))
               go_roundg k2
               case measure => have := HJ2.out; have := HK2.out; omega
               case rel => exact ⟨(y158), (wrap64 (x29_2 + 1)), Rq, H', ⟨by have := HJ2.out; have := HK2.out; omega⟩, ⟨Wq HO_6⟩, ⟨by (with_reducible repeat (first | apply Kd.R_alloc | apply Kd.R_drewN | apply Kd.R_drew)); exact Kd.R_mono HO_27.out (fun _ hk => hk.2)⟩, ⟨Bq⟩⟩
              ·rw [if_neg c29] at H
               exact absurd H (by simp)
             ·rw [if_neg c28] at H
              exact absurd H (by simp)
          ·rw [if_neg c17] at H
           exact absurd H (by simp)
         ·rw [if_neg c16] at H
          exact absurd H (by simp)
        ·rw [if_neg c15] at H
         have c15b0 : decide (x29_2 < (t151.length : Int)) = false := decide_eq_false c15
         clear c15
         simp only [Option.some.injEq, Prod.mk.injEq] at H
         obtain ⟨rfl, rfl⟩ := H
         go_wp2
         go_ret2
         exact ⟨_, _, by first | rfl | (simp [errW_none, errW_some] <;> rfl) | (simp [*, errW_none, errW_some] <;> rfl), by (with_reducible repeat (first | apply Kd.R_alloc | apply Kd.R_drewN | apply Kd.R_drew)); exact Kd.R_mono HO_6.out (fun _ hk => trivial), by first | exact Kd.R_nil _ _ _ _ _ | exact Kd.N_nil _ _ _ _ _ | exact Kd.V_nil _ _ _ _ _ | exact Kd.Q_nil _ _ _ _ _ | exact Kd.S_nil _ _ _ _ _, Bq⟩
     ·rw [if_neg c9] at H
      exact absurd H (by simp)
    ·rw [if_neg c8] at H
     have c8b0 : ((l1.length : Int) == (wrap64 (64 * a0))) = false := beq_eq_false_iff_ne.mpr c8
     have c8b1 : ((l1.length : Int) != (wrap64 (64 * a0))) = true := bne_iff_ne.mpr c8
     replace H := Option.bind_eq_some_iff.mp H
     obtain ⟨t145, A340, H⟩ := H
     try dsimp only at H
     have A34 := Aside0.mk A340
     clear A340
     simp only [Option.some.injEq, Prod.mk.injEq] at H
     obtain ⟨rfl, rfl⟩ := H
     go_wp2_with (first | ((with_reducible refine gate_callee (f := 67) rfl ?_); refine goesL_ (some 24) rfl rfl Tryd.func67 (by kernel_rfl) rfl #[.int .i64 3] rfl Mq ?_; (with_reducible refine (draw_fault.calls 3 t145 _ A34.out).mono ?_); rintro e w35 ⟨v146, rfl, ho0, hb⟩; refine ⟨_, rfl, ?_⟩; have HO147 := Aside0.mk (Kd.R_lower ho0 (below_size Bq)); replace HB := Aside0.mk (below_step Bq hb); clear hb ho0; (try clear A34)))
     go_ret2
     exact ⟨_, _, by first | rfl | (simp [errW_none, errW_some] <;> rfl) | (simp [*, errW_none, errW_some] <;> rfl), by first | exact Kd.R_nil _ _ _ _ _ | exact Kd.N_nil _ _ _ _ _ | exact Kd.V_nil _ _ _ _ _ | exact Kd.Q_nil _ _ _ _ _ | exact Kd.S_nil _ _ _ _ _, Wq HO147, Bq⟩

end Go.Proofs.YtkdfcgihgndnnaaDoor.PPA
end
section
namespace Go.Proofs.YtkdfcgihgndnnaaDoor.PPA
open Go.RowKit Go.Proofs.YtkdfcgihgndnnaaDoorW.PrintWords Go.Proofs.YtkdfcgihgndnnaaDoorW.PrintLast Go.Proofs.YtkdfcgihgndnnaaDoorW.PrintMore Go.Proofs.YtkdfcgihgndnnaaDoorW.PrintZip
attribute [local go_sem] max2_int min2_int max_two min_two max_three min_three max_four min_four   -- for this text's walks alone
set_option linter.unusedVariables false
set_option linter.unusedSimpArgs false

/-! ### sponge_Shake256: function 69 -/
def sponge_Shake256.f (n : Int) (l0 : List (List Int)) : Option (List Int) := if (1 ≤ n ∧ n ≤ 1048576) ∧ l0.length < 1000000 ∧ ∀ x ∈ l0, x.length < 1000000 then some (PPK.hash 136 31 n.toNat l0.flatten) else none
theorem sponge_Shake256.calls (n : Int) (A0 : Option Addr) (c0 : Nat) (l0 : List (List Int)) (r : List Int) (w : World) (hr0 : Kd.C (Kd.slice 5 (Kd.int .u8)) w A0 l0.length l0) (hc0 : l0.length ≤ c0) (h : sponge_Shake256.f n l0 = some r) :
  Calls Tryd.prog 69 #[.int .i64 n, .slice A0 l0.length c0] w fun e w' => ∃ v0_ : Value, e = .returned (v0_) ∧ Kd.R (Kd.int .u8) 5 w' w.heap.size (fun _ => True) v0_ r ∧ Below w.heap.size w w' := by
 unfold sponge_Shake256.f at h
 split at h
 ·rename_i hh
  obtain rfl := Option.some.inj h
  obtain ⟨m, rfl⟩ := Int.eq_ofNat_of_zero_le (show 0 ≤ n by omega)
  refine (PPK.SpShake256.calls m (by omega) A0 c0 l0 w hr0 hh.2.1 hh.2.2).mono ?_
  rintro e w' ⟨A', c', h1, h2, h3⟩
  exact ⟨_, h1, h2, h3⟩
 ·cases h

/-! ### draw_From: function 46 -/
def draw_From.j0 : Nat → Int → List Int → Int → Bool → Option (List Int × (List (S70)))
 | 0, _, _, _, _ => none
 | k + 1, x0, x1, x2, x13 => if x13 = true then ((draw_fault.f 2).bind fun t159 => (some (([] : List Int), t159))) else (if (x1.length : Int) = 32 then ((sponge_Shake256.f (wrap64 (64 * x0)) (([x1, (([x2] : List Int))] : List (List Int)))).bind fun t168 => ((draw_Lean.f k x0 t168).bind fun bt171 => (some (bt171.1, bt171.2)))) else ((draw_fault.f 3).bind fun t177 => (some (([] : List Int), t177))))
def draw_From.f (k : Nat) (a0 : Int) (l1 : List Int) (a2 : Int) : Option (List Int × (List (S70))) := if a0 = 2 then (draw_From.j0 k a0 l1 a2 false) else (draw_From.j0 k a0 l1 a2 (a0 != 3))
set_option maxHeartbeats 8000000 in
set_option maxRecDepth 100000 in
theorem draw_From.calls (k : Nat) (a0 : Int) (P1_ : Nat → Prop) (A1 : Option Addr) (c1 : Nat) (l1 : List Int) (a2 : Int) (r1 : List Int) (r2 : List (S70)) (w : World) (hs1 : Kd.V (Kd.int .u8) 5 w w.heap.size (fun k_ => P1_ k_) (.slice A1 l1.length c1) l1) (h : draw_From.f k a0 l1 a2 = some (r1, r2)) :
  Calls Tryd.prog 46 #[.int .i64 a0, .slice A1 l1.length c1, .int .u8 a2] w fun e w' => ∃ v0_ v1_ : Value, e = .returned (.tuple #[v0_, v1_]) ∧ Kd.R (Kd.int .i64) 3 w' w.heap.size (fun k_ => (w.heap.size ≤ k_)) v0_ r1 ∧ Kd.R k70 70 w' w.heap.size (fun k_ => (w.heap.size ≤ k_)) (eRow v1_) r2 ∧ Below w.heap.size w w' := by
 have HO1 := Aside0.mk (show Kd.V (Kd.int .u8) 5 w w.heap.size (fun k_ => (P1_ k_ ∨ w.heap.size ≤ k_)) (.slice A1 l1.length c1) l1 from Kd.V_mono hs1 (fun k_ hk => .inl hk))
 have HB := Aside0.mk (Below.refl w.heap.size w)
 have H := h
 unfold draw_From.f at H
 clear h
 have HC4 := Aside0.mk H
 clear H
 go_enter Tryd.func46, Tryd.ntmps46
 go_upto_region 1 with (fail)
 go_cut [13] (fun v13 wc => ∃ (kq : Nat) (x13_3 : Bool), v13 = .bool x13_3 ∧ Aside0 (draw_From.j0 kq a0 l1 a2 x13_3 = some (r1, r2)) ∧ Aside0 (kq ≤ k) ∧ Aside0 (Kd.V (Kd.int .u8) 5 wc w.heap.size (fun k_ => (P1_ k_ ∨ w.heap.size ≤ k_)) (.slice A1 l1.length c1) l1) ∧ Aside0 (Below w.heap.size w wc))
 case first =>
  have H := HC4.out
  clear HC4
  by_cases c5 : a0 = 2
  ·rw [if_pos c5] at H
   have c5b0 : (a0 == 2) = true := beq_iff_eq.mpr c5
   have c5b1 : (a0 != 2) = false := bne_eq_false_iff_eq.mpr c5
   clear c5
   (first | rw [c5b0] | (simp only [i64_w, i32_w]; rw [c5b0]) | skip)
   have H' := Aside0.mk H
   clear H
   go_wp2
   go_meet
   case rel => exact ⟨_, (false), Rq, H', ⟨by first | omega | exact Nat.le_refl _⟩, ⟨Wq HO1⟩, ⟨Bq⟩⟩
  ·rw [if_neg c5] at H
   have c5b0 : (a0 == 2) = false := beq_eq_false_iff_ne.mpr c5
   have c5b1 : (a0 != 2) = true := bne_iff_ne.mpr c5
   (first | rw [c5b0] | (simp only [i64_w, i32_w]; rw [c5b0]) | skip)
   have H' := Aside0.mk H
   clear H
   go_wp2
   go_meet
   case rel => exact ⟨_, ((a0 != 3)), Rq, H', ⟨by first | omega | exact Nat.le_refl _⟩, ⟨Wq HO1⟩, ⟨Bq⟩⟩
 case rest =>
  clear HC4
  try clear c1
  try clear p2
  try clear c4
  try clear c5
  try clear c5b0
  try clear c5b1
  obtain ⟨kq, x13_3, rfl, HA, HJ3, HO_1, HB⟩ := hcut
  cases kq with
  | zero => exact absurd HA.out (by simp [draw_From.j0])
  | succ kj3 =>
   have H := HA.out
   clear HA
   simp only [draw_From.j0] at H
   by_cases c6 : x13_3 = true
   ·subst c6
    rw [if_pos rfl] at H
    replace H := Option.bind_eq_some_iff.mp H
    obtain ⟨t159, A70, H⟩ := H
    try dsimp only at H
    have A7 := Aside0.mk A70
    clear A70
    simp only [Option.some.injEq, Prod.mk.injEq] at H
    obtain ⟨rfl, rfl⟩ := H
    go_wp2_with (first | ((with_reducible refine gate_callee (f := 67) rfl ?_); refine goesL_ (some 14) rfl rfl Tryd.func67 (by kernel_rfl) rfl #[.int .i64 2] rfl Mq ?_; (with_reducible refine (draw_fault.calls 2 t159 _ A7.out).mono ?_); rintro e w8 ⟨v160, rfl, ho0, hb⟩; refine ⟨_, rfl, ?_⟩; replace HO_1 := Aside0.mk (Kd.V_below (Wq HO_1) hb); have HO161 := Aside0.mk (Kd.R_lower (Kd.R_newM (M := fun k_ => (w.heap.size ≤ k_)) ho0 (below_size Bq) (fun k_ h_ => h_)) (below_size Bq)); replace HB := Aside0.mk (below_step Bq hb); clear hb ho0; (try clear A7)))
    go_ret2
    exact ⟨_, _, by first | rfl | (simp [errW_none, errW_some] <;> rfl) | (simp [*, errW_none, errW_some] <;> rfl), by first | exact Kd.R_nil _ _ _ _ _ | exact Kd.N_nil _ _ _ _ _ | exact Kd.V_nil _ _ _ _ _ | exact Kd.Q_nil _ _ _ _ _ | exact Kd.S_nil _ _ _ _ _, by (with_reducible repeat (first | apply Kd.R_alloc | apply Kd.R_drewN | apply Kd.R_drew)); exact Kd.R_mono HO161.out (fun _ hk => hk.1), Bq⟩
   ·replace c6 := Bool.eq_false_iff.mpr c6
    subst c6
    rw [if_neg nf] at H
    by_cases c9 : (l1.length : Int) = 32
    ·rw [if_pos c9] at H
     have c9b0 : ((l1.length : Int) == 32) = true := beq_iff_eq.mpr c9
     have c9b1 : ((l1.length : Int) != 32) = false := bne_eq_false_iff_eq.mpr c9
     clear c9
     obtain ⟨y162, Ny162⟩ : ∃ y_ : List Int, Aside0 (y_ = (([a2] : List Int))) := ⟨_, ⟨rfl⟩⟩
     first | rw [Option.bind_some, ← Ny162.out] at H | rw [← Ny162.out] at H
     obtain ⟨y165, Ny165⟩ : ∃ y_ : List (List Int), Aside0 (y_ = (([l1, y162] : List (List Int)))) := ⟨_, ⟨rfl⟩⟩
     first | rw [Option.bind_some, ← Ny165.out] at H | rw [← Ny165.out] at H
     replace H := Option.bind_eq_some_iff.mp H
     obtain ⟨t168, A100, H⟩ := H
     try dsimp only at H
     have A10 := Aside0.mk A100
     clear A100
     replace H := Option.bind_eq_some_iff.mp H
     obtain ⟨⟨t171, t172⟩, A110, H⟩ := H
     try dsimp only at H
     have A11 := Aside0.mk A110
     clear A110
     simp only [Option.some.injEq, Prod.mk.injEq] at H
     obtain ⟨rfl, rfl⟩ := H
     go_wp2_with (first | ((with_reducible refine gate_dst (N := 24) rfl ?_); refine Kd.R_lit (Kd.int .u8) _ 5 ?hg (N := 24) ?hd (xs := ([a2] : List Int)) (inner := [.int .u8 a2]) (ok := fun _ => True) (okp := fun _ => True) ?hr ?hp (fun _ hk => hk) trivial (Below.refl _ _) (Nat.le_refl _) (by simp) ?_; (case hd => rfl); (case hg => rfl); (case hr => first | (go_simp; done) | (go_simp; rfl)); (case hp => exact (Reps.one (show Kd.M (Kd.int .u8) _ _ _ a2 [.int .u8 a2] from rfl) (Reps.none _ _))); intro v163 w12 ho13 hb hg_ hnew_; clear hg_ hnew_; (first | rw [← Ny162.out] at ho13 | (simp only [Int.reduceToNat] at ho13; rw [← Ny162.out] at ho13)); replace HO_1 := Aside0.mk (Kd.V_elder' (Wq HO_1) (Kd.R_base ho13) hb); have HO164 := Aside0.mk (Kd.R_lower (Kd.R_newM (M := fun k_ => (w.heap.size ≤ k_)) ho13 (below_size Bq) (fun k_ h_ => h_)) (below_size Bq)); replace HB := Aside0.mk (below_step Bq hb); clear hb ho13; obtain ⟨Ao14, co14, eo14⟩ := Kd.R_slice HO164.out; subst eo14) | ((with_reducible refine gate_dst (N := 25) rfl ?_); refine Kd.N_lit (Kd.slice 5 (Kd.int .u8)) _ 22 ?hg (N' := 25) ?hd (xs := ([l1, y162] : List (List Int))) (inner := [.slice A1 l1.length c1, .slice Ao14 y162.length co14]) (ok := (fun k_ => (P1_ k_ ∨ w.heap.size ≤ k_))) (okp := (fun k_ => (P1_ k_ ∨ w.heap.size ≤ k_))) ?hr ?hp (fun _ hk => hk) ((show ∀ k_, w12.heap.size ≤ k_ → (fun k_ => (P1_ k_ ∨ w.heap.size ≤ k_)) k_ from fun k_ hk => (.inr (Nat.le_trans (below_size Bq) hk))) _ (Nat.le_refl _)) (Below.refl _ _) (Nat.le_refl _) (by simp) ?_; (case hd => rfl); (case hg => rfl); (case hr => first | (go_simp; done) | (go_simp; rfl)); (case hp => exact (Reps.one (show Kd.FK (Kd.slice 5 (Kd.int .u8)) _ _ l1 [.slice A1 l1.length c1] from (Kd.FK_slice_mk (Kd.V_reads' (Kd.V_mono (ok' := (fun k_ => (P1_ k_ ∨ w.heap.size ≤ k_))) (HO_1.out) (fun k_ hk => hk.1))).2.1 (by (with_reducible repeat (first | apply Kd.F_alloc | apply Kd.F_drewN | apply Kd.F_drew)); exact Kd.V_F (Kd.V_mono (ok' := (fun k_ => (P1_ k_ ∨ w.heap.size ≤ k_))) (HO_1.out) (fun k_ hk => hk.1))))) (Reps.one (show Kd.FK (Kd.slice 5 (Kd.int .u8)) _ _ y162 [.slice Ao14 y162.length co14] from (Kd.FK_slice_mk (Kd.R_reads' (Kd.R_mono (ok' := (fun k_ => (P1_ k_ ∨ w.heap.size ≤ k_))) (HO164.out) (fun k_ hk => (.inr (hk.1))))).2.1 (by (with_reducible repeat (first | apply Kd.F_alloc | apply Kd.F_drewN | apply Kd.F_drew)); exact Kd.R_F (Kd.R_mono (ok' := (fun k_ => (P1_ k_ ∨ w.heap.size ≤ k_))) (HO164.out) (fun k_ hk => (.inr (hk.1))))))) (Reps.none _ _)))); intro v166 w15 ho16 hb hg_ hnew_; clear hg_ hnew_; (first | rw [← Ny165.out] at ho16 | (simp only [Int.reduceToNat] at ho16; rw [← Ny165.out] at ho16)); replace HO_1 := Aside0.mk (Kd.V_elder' (Wq HO_1) (Kd.N_base ho16) hb); have HO167 := Aside0.mk (Kd.N_lower ho16 (below_size Bq)); replace HB := Aside0.mk (below_step Bq hb); clear HO164; clear hb ho16; obtain ⟨Ao17, co17, eo17⟩ := Kd.N_slice HO167.out; subst eo17) | ((with_reducible refine gate_callee (f := 69) rfl ?_); refine goesL_ (some 26) rfl rfl Tryd.func69 (by kernel_rfl) rfl #[.int .i64 (wrap64 (64 * a0)), .slice Ao17 y165.length co17] rfl Mq ?_; (with_reducible refine (sponge_Shake256.calls (wrap64 (64 * a0)) _ _ y165 t168 _ ?side1 ?side2 A10.out).mono ?_); (case side1 => repeat (first | exact (Kd.N_reads' HO167.out).2.2 | (with_reducible refine Kd.C_alloc ?_ _) | (with_reducible refine Kd.C_drewN ?_ _) | (with_reducible refine Kd.C_drew ?_))); (case side2 => exact (Kd.N_reads' HO167.out).2.1); rintro e w18 ⟨v169, rfl, ho0, hb⟩; refine ⟨_, rfl, ?_⟩; replace HO_1 := Aside0.mk (Kd.V_elder' (Wq HO_1) (Kd.R_base ho0) hb); replace HO167 := Aside0.mk (Kd.N_elder' (Wq HO167) (Kd.R_base ho0) hb); have HO170 := Aside0.mk (Kd.R_lower (Kd.R_newM (M := fun k_ => (w.heap.size ≤ k_)) ho0 (below_size Bq) (fun k_ h_ => h_)) (below_size Bq)); replace HB := Aside0.mk (below_step Bq hb); clear hb ho0; (try clear A10); obtain ⟨Ao19, co19, eo19⟩ := Kd.R_slice HO170.out; subst eo19) | ((with_reducible refine gate_callee (f := 68) rfl ?_); refine goesL_ (some 27) rfl rfl Tryd.func68 (by kernel_rfl) rfl #[.int .i64 a0, .slice Ao19 t168.length co19] rfl Mq ?_; (with_reducible refine (draw_Lean.calls kj3 a0 _ _ t168 t171 t172 _ ?side1 ?side2 A11.out).mono ?_); (case side1 => repeat (first | exact (Kd.R_reads' HO170.out).2.2 | (with_reducible refine Kd.C_alloc ?_ _) | (with_reducible refine Kd.C_drewN ?_ _) | (with_reducible refine Kd.C_drew ?_))); (case side2 => exact (Kd.R_reads' HO170.out).2.1); rintro e w20 ⟨v173, v175, rfl, ho0, ho1, hb⟩; refine ⟨_, rfl, ?_⟩; replace HO_1 := Aside0.mk (Kd.V_elder' (Wq HO_1) (Kd.R_base ho0) hb); replace HO167 := Aside0.mk (Kd.N_elder' (Wq HO167) (Kd.R_base ho0) hb); replace HO170 := Aside0.mk (Kd.R_below (Wq HO170) hb); have HO174 := Aside0.mk (Kd.R_lower (Kd.R_newM (M := fun k_ => (w.heap.size ≤ k_)) ho0 (below_size Bq) (fun k_ h_ => h_)) (below_size Bq)); have HO176 := Aside0.mk (Kd.R_lower (Kd.R_newM (M := fun k_ => (w.heap.size ≤ k_)) ho1 (below_size Bq) (fun k_ h_ => h_)) (below_size Bq)); replace HB := Aside0.mk (below_step Bq hb); clear hb ho0 ho1; (try clear A11)))
     go_ret2
     exact ⟨_, _, by first | rfl | (simp [errW_none, errW_some] <;> rfl) | (simp [*, errW_none, errW_some] <;> rfl), by (with_reducible repeat (first | apply Kd.R_alloc | apply Kd.R_drewN | apply Kd.R_drew)); exact Kd.R_mono HO174.out (fun _ hk => hk.1), by (with_reducible repeat (first | apply Kd.R_alloc | apply Kd.R_drewN | apply Kd.R_drew)); exact Kd.R_mono HO176.out (fun _ hk => hk.1), Bq⟩
    ·rw [if_neg c9] at H
     have c9b0 : ((l1.length : Int) == 32) = false := beq_eq_false_iff_ne.mpr c9
     have c9b1 : ((l1.length : Int) != 32) = true := bne_iff_ne.mpr c9
     replace H := Option.bind_eq_some_iff.mp H
     obtain ⟨t177, A210, H⟩ := H
     try dsimp only at H
     have A21 := Aside0.mk A210
     clear A210
     simp only [Option.some.injEq, Prod.mk.injEq] at H
     obtain ⟨rfl, rfl⟩ := H
     go_wp2_with (first | ((with_reducible refine gate_callee (f := 67) rfl ?_); refine goesL_ (some 18) rfl rfl Tryd.func67 (by kernel_rfl) rfl #[.int .i64 3] rfl Mq ?_; (with_reducible refine (draw_fault.calls 3 t177 _ A21.out).mono ?_); rintro e w22 ⟨v178, rfl, ho0, hb⟩; refine ⟨_, rfl, ?_⟩; replace HO_1 := Aside0.mk (Kd.V_below (Wq HO_1) hb); have HO179 := Aside0.mk (Kd.R_lower (Kd.R_newM (M := fun k_ => (w.heap.size ≤ k_)) ho0 (below_size Bq) (fun k_ h_ => h_)) (below_size Bq)); replace HB := Aside0.mk (below_step Bq hb); clear hb ho0; (try clear A21)))
     go_ret2
     exact ⟨_, _, by first | rfl | (simp [errW_none, errW_some] <;> rfl) | (simp [*, errW_none, errW_some] <;> rfl), by first | exact Kd.R_nil _ _ _ _ _ | exact Kd.N_nil _ _ _ _ _ | exact Kd.V_nil _ _ _ _ _ | exact Kd.Q_nil _ _ _ _ _ | exact Kd.S_nil _ _ _ _ _, by (with_reducible repeat (first | apply Kd.R_alloc | apply Kd.R_drewN | apply Kd.R_drew)); exact Kd.R_mono HO179.out (fun _ hk => hk.1), Bq⟩

/-! ### pke_lean: function 28 -/
def pke_lean.l0 : Nat → Int → List Int → Int → List (List Int) → Int → Int → Option ((List (List Int)))
 | 0, _, _, _, _, _, _ => none
 | k + 1, x0, x1, x2, x9, x13, x14 => if x14 < x13 then ((draw_From.f k x0 x1 ((wrap64 (x2 + x14)) % 256)).bind fun bt180 => (if x9.length < 5864062014805 then (pke_lean.l0 k x0 x1 x2 (x9 ++ [bt180.1]) x13 (wrap64 (x14 + 1))) else (none))) else (some x9)
def pke_lean.f (k : Nat) (a0 : Int) (l1 : List Int) (a2 : Int) (a3 : Int) : Option ((List (List Int))) := pke_lean.l0 k a0 l1 a2 ([] : List (List Int)) a3 0
set_option maxHeartbeats 8000000 in
set_option maxRecDepth 100000 in
theorem pke_lean.calls (k : Nat) (a0 : Int) (A1 : Option Addr) (c1 : Nat) (l1 : List Int) (a2 : Int) (a3 : Int) (r : List (List Int)) (w : World) (hr1 : Kd.C (Kd.int .u8) w A1 l1.length l1) (hc1 : l1.length ≤ c1) (h : pke_lean.f k a0 l1 a2 a3 = some r) :
  Calls Tryd.prog 28 #[.int .i64 a0, .slice A1 l1.length c1, .int .i64 a2, .int .i64 a3] w fun e w' => ∃ v0_ : Value, e = .returned (v0_) ∧ Kd.S (Kd.slice 3 (Kd.int .i64)) 40 w' w.heap.size (fun _ => True) v0_ r ∧ Below w.heap.size w w' := by
 have HR1 := Aside0.mk hr1
 have HC1 := Aside0.mk hc1
 clear hr1 hc1
 have HB := Aside0.mk (Below.refl w.heap.size w)
 have H := h
 unfold pke_lean.f at H
 clear h
 have H' := Aside0.mk H
 clear H
 go_enter Tryd.func28, Tryd.ntmps28
 go_wp2
 go_loopg [9, 14] k (fun kq v9 v14 w' => ∃ (x9_1 : List (List Int)) (x14_1 : Int), v14 = .int .i64 x14_1 ∧ Aside0 (pke_lean.l0 kq a0 l1 a2 x9_1 a3 x14_1 = some r) ∧ Aside0 (kq ≤ k) ∧ Aside0 (Kd.S (Kd.slice 3 (Kd.int .i64)) 40 w' w.heap.size (fun _ => True) v9 x9_1) ∧ Aside0 (Below w.heap.size w w'))
 case atStart => exact ⟨(([] : List (List Int))), (0), Rq, H', ⟨Nat.le_refl _⟩, ⟨by first | exact Kd.S_nil _ _ _ _ _ | exact Kd.N_nil _ _ _ _ _ | exact Kd.V_nil _ _ _ _ _ | exact Kd.Q_nil _ _ _ _ _ | exact Kd.R_nil _ _ _ _ _⟩, ⟨Bq⟩⟩
 case round =>
  clear H'
  try clear c1
  try clear c2
  try clear p2
  obtain ⟨x9_1, x14_1, rfl, HA, HK1, HO_9, HB⟩ := hrel
  cases gk with
  | zero => exact absurd HA.out (by simp [pke_lean.l0])
  | succ k1 =>
   have H := HA.out
   clear HA
   simp only [pke_lean.l0] at H
   by_cases c5 : x14_1 < a3
   ·rw [if_pos c5] at H
    have c5b0 : decide (x14_1 < a3) = true := decide_eq_true c5
    clear c5
    replace H := Option.bind_eq_some_iff.mp H
    obtain ⟨⟨t180, t183⟩, A60, H⟩ := H
    try dsimp only at H
    have A6 := Aside0.mk A60
    clear A60
    by_cases c7 : x9_1.length < 5864062014805
    ·rw [if_pos c7] at H
     have LMc7 := Aside0.mk c7
     clear c7
     obtain ⟨y186, Ny186⟩ : ∃ y_ : List (List Int), Aside0 (y_ = (x9_1 ++ [t180])) := ⟨_, ⟨rfl⟩⟩
     first | rw [Option.bind_some, ← Ny186.out] at H | rw [← Ny186.out] at H
     have H' := Aside0.mk H
     clear H
     go_wp2_with (first | ((with_reducible refine gate_callee (f := 46) rfl ?_); refine goesL_ (some 24) rfl rfl Tryd.func46 (by kernel_rfl) rfl #[.int .i64 a0, .slice A1 l1.length c1, .int .u8 ((wrap64 (a2 + x14_1)) % 256)] rfl Mq ?_; (with_reducible refine (draw_From.calls k1 a0 (fun k_ => k_ < w.heap.size) _ _ l1 ((wrap64 (a2 + x14_1)) % 256) t180 t183 _ ?side1 A6.out).mono ?_); (case side1 => exact Kd.V_mk HC1.out (Kd.F_below (Kd.C_F (Kd.heap_int .u8) HR1.out) Bq)); rintro e w8 ⟨v181, v184, rfl, ho0, ho1, hb⟩; refine ⟨_, rfl, ?_⟩; replace HO_9 := Aside0.mk (Kd.S_elder' (Wq HO_9) (Kd.R_base ho0) hb); have HO182 := Aside0.mk (Kd.R_lower (Kd.R_mono (ok' := fun k_ => True) ho0 (fun _ hk_ => trivial)) (below_size Bq)); have HO185 := Aside0.mk (Kd.R_lower (Kd.R_mono (ok' := fun k_ => True) ho1 (fun _ hk_ => trivial)) (below_size Bq)); replace HB := Aside0.mk (below_step Bq hb); clear hb ho0 ho1; (try clear A6); obtain ⟨Ao10, co10, eo10⟩ := Kd.R_slice HO182.out; subst eo10) | ((with_reducible refine gate_builtin (b := .append) (xs := #[.tmp 27, .tmp 29]) rfl ?_); at_builtin; refine Kd.S_append (Kd.slice 3 (Kd.int .i64)) (w0 := w) w.heap.size rfl (.tmp 27) (.tmp 29) 49 40 (.slice none 0 0) 24 rfl Tryd.underlying49 info40 rfl (by decide) (by omega) u9 x9_1 t180 [.slice Ao10 t180.length co10] (fun _ => True) (fun k_ => some k_ = (.slice Ao10 t180.length co10 : Value).ownBlock) rfl rfl ?aP (fun k_ hk_ => ((Kd.R_mono (ok' := fun k_ => ((fun _ => True)) k_ ∧ some k_ ≠ (u9 : Value).ownBlock) (Kd.R_apart' (HO182.out) (Kd.S_typed HO_9.out) (by decide)) (fun k_ hk => ⟨trivial, hk.2⟩))).1 k_ hk_.symm) ?aF ?aO ?aB ?aS ?aL ?_; (case aP => exact Kd.M_row (Kd.R_mono (Kd.R_tight rfl (Kd.R_mono (ok' := fun k_ => ((fun _ => True)) k_ ∧ some k_ ≠ (u9 : Value).ownBlock) (Kd.R_apart' (HO182.out) (Kd.S_typed HO_9.out) (by decide)) (fun k_ hk => ⟨trivial, hk.2⟩))) (fun _ h_ => h_))); (case aB => exact Bq); (case aF => exact (fun _ _ => trivial)); (case aO => exact (by (with_reducible repeat (first | apply Kd.S_alloc | apply Kd.S_drewN | apply Kd.S_drew)); exact Kd.S_mono HO_9.out (fun k_ hk => ⟨trivial, fun e_ => hk.2 e_⟩))); (case aS => exact (below_size Bq)); (case aL => have := LMc7.out; omega); intro v187 w9 ho hb hg hat; rw [← Ny186.out] at ho; replace HO185 := Aside0.mk (Kd.R_over' (Wq HO185) (Kd.S_typed (Wq HO_9)) (by decide) hg); replace HB := Aside0.mk (hb); have HO188 := Aside0.mk (ho); clear HO_9 HO182; clear ho hb hg hat))
     go_roundg k1
     case measure => have := HK1.out; omega
     case rel => exact ⟨(y186), (wrap64 (x14_1 + 1)), Rq, H', ⟨by have := HK1.out; omega⟩, ⟨Wq HO188⟩, ⟨Bq⟩⟩
    ·rw [if_neg c7] at H
     exact absurd H (by simp)
   ·rw [if_neg c5] at H
    have c5b0 : decide (x14_1 < a3) = false := decide_eq_false c5
    clear c5
    obtain rfl := Option.some.inj H
    go_wp2
    go_ret
    exact ⟨_, by first | rfl | (simp [errW_none, errW_some] <;> rfl) | (simp [*, errW_none, errW_some] <;> rfl), Wq HO_9, Bq⟩

/-! ### draw_Even: function 47 -/
def draw_Even.f (l0 : List Int) (a1 a2 : Int) : Option (List Int × List (S70)) := if l0.length = 32 then some (PPK.ev l0 a1 a2, []) else none
theorem draw_Even.calls (A0 : Option Addr) (c0 : Nat) (l0 : List Int) (a1 a2 : Int) (r1 : List Int) (r2 : List (S70)) (w : World) (hr0 : Kd.C (Kd.int .u8) w A0 l0.length l0) (hc0 : l0.length ≤ c0) (h : draw_Even.f l0 a1 a2 = some (r1, r2)) :
  Calls Tryd.prog 47 #[.slice A0 l0.length c0, .int .u8 a1, .int .u8 a2] w fun e w' => ∃ v0_ v1_ : Value, e = .returned (.tuple #[v0_, v1_]) ∧ Kd.R (Kd.int .i64) 3 w' w.heap.size (fun _ => True) v0_ r1 ∧ Kd.R k70 70 w' w.heap.size (fun _ => True) (eRow v1_) r2 ∧ Below w.heap.size w w' := by
 unfold draw_Even.f at h
 split at h
 ·rename_i hh
  have e := Option.some.inj h
  obtain ⟨e1, e2⟩ := Prod.mk.inj e
  subst e1
  subst e2
  have hq := PPK.SpEven.calls A0 c0 l0 a1 a2 w hr0 hh (by omega)
  rw [← hh] at hq
  refine hq.mono ?_
  rintro e w' ⟨A', c', h1, h2, h3⟩
  exact ⟨_, _, h1, h2, Kd.R_nil _ _ _ _ _, h3⟩
 ·cases h

end Go.Proofs.YtkdfcgihgndnnaaDoor.PPA
end
section
namespace Go.Proofs.YtkdfcgihgndnnaaDoor.PPA
open Go.RowKit Go.Proofs.YtkdfcgihgndnnaaDoorW.PrintWords Go.Proofs.YtkdfcgihgndnnaaDoorW.PrintLast Go.Proofs.YtkdfcgihgndnnaaDoorW.PrintMore Go.Proofs.YtkdfcgihgndnnaaDoorW.PrintZip
attribute [local go_sem] max2_int min2_int max_two min_two max_three min_three max_four min_four   -- for this text's walks alone
set_option linter.unusedVariables false
set_option linter.unusedSimpArgs false

/-! ### pke_even: function 29 -/
mutual
def pke_even.l0 : Nat → List Int → Bool → List (List (List Int)) → Int → Int → Int → Int → Int → Int → Int → Option ((List (List (List Int))))
 | 0, _, _, _, _, _, _, _, _, _, _ => none
 | k + 1, x1, x2, x7, x16, x17, x190000, x190001, x190002, x190003, x190004 => if x17 < x16 then (pke_even.l1 k x1 x2 x7 x17 ([] : List (List Int)) x16 x17 x190000 0 x190000 x190001 x190002 x190003 x190004) else (some x7)
def pke_even.l1 : Nat → List Int → Bool → List (List (List Int)) → Int → List (List Int) → Int → Int → Int → Int → Int → Int → Int → Int → Int → Option ((List (List (List Int))))
 | 0, _, _, _, _, _, _, _, _, _, _, _, _, _, _ => none
 | k + 1, x1, x2, x7, x8, x9, x16, x17, x21, x22, x190000, x190001, x190002, x190003, x190004 => if x22 < x21 then (if x2 = true then ((draw_Even.f x1 ((x8) % 256) ((x22) % 256)).bind fun bt190 => (if x9.length < 5864062014805 then (pke_even.l1 k x1 x2 x7 x8 (x9 ++ [bt190.1]) x16 x17 x21 (wrap64 (x22 + 1)) x190000 x190001 x190002 x190003 x190004) else (none))) else ((draw_Even.f x1 ((x22) % 256) ((x8) % 256)).bind fun bt199 => (if x9.length < 5864062014805 then (pke_even.l1 k x1 x2 x7 x8 (x9 ++ [bt199.1]) x16 x17 x21 (wrap64 (x22 + 1)) x190000 x190001 x190002 x190003 x190004) else (none)))) else (if x7.length < 5864062014805 then (pke_even.l0 k x1 x2 (x7 ++ [x9]) x16 (wrap64 (x17 + 1)) x190000 x190001 x190002 x190003 x190004) else (none))
end
def pke_even.f (k : Nat) (a0_0 : Int) (a0_1 : Int) (a0_2 : Int) (a0_3 : Int) (a0_4 : Int) (l1 : List Int) (a2 : Bool) : Option ((List (List (List Int)))) := pke_even.l0 k l1 a2 ([] : List (List (List Int))) a0_0 0 a0_0 a0_1 a0_2 a0_3 a0_4
set_option maxHeartbeats 8000000 in
set_option maxRecDepth 100000 in
theorem pke_even.calls (k : Nat) (a0_0 : Int) (a0_1 : Int) (a0_2 : Int) (a0_3 : Int) (a0_4 : Int) (A1 : Option Addr) (c1 : Nat) (l1 : List Int) (a2 : Bool) (r : List (List (List Int))) (w : World) (hr1 : Kd.C (Kd.int .u8) w A1 l1.length l1) (hc1 : l1.length ≤ c1) (h : pke_even.f k a0_0 a0_1 a0_2 a0_3 a0_4 l1 a2 = some r) :
  Calls Tryd.prog 29 #[.agg #[.int .i64 a0_0, .int .i64 a0_1, .int .i64 a0_2, .int .i64 a0_3, .int .i64 a0_4], .slice A1 l1.length c1, .bool a2] w fun e w' => ∃ v0_ : Value, e = .returned (v0_) ∧ Kd.R (Kd.slice 40 (Kd.slice 3 (Kd.int .i64))) 49 w' w.heap.size (fun _ => True) v0_ r ∧ Below w.heap.size w w' := by
 have hu34 := Tryd.underlying34
 have HR1 := Aside0.mk hr1
 have HC1 := Aside0.mk hc1
 clear hr1 hc1
 have HB := Aside0.mk (Below.refl w.heap.size w)
 have H := h
 unfold pke_even.f at H
 clear h
 have H' := Aside0.mk H
 clear H
 go_enter Tryd.func29, Tryd.ntmps29
 go_wp2_with (first | ((with_reducible refine gate_dst (N := 3) rfl ?_); refine box_event ?hg (N := 3) ?hd (cs := #[.int .i64 a0_0, .int .i64 a0_1, .int .i64 a0_2, .int .i64 a0_3, .int .i64 a0_4]) (t := 34) ?hr ?_; (case hd => rfl); (case hg => rfl); (case hr => first | (go_simp; done) | (go_simp; rfl)); intro gb189 hg w4 hbox hb; have BK189 := Aside0.mk (hbox); have GW189 := Aside0.mk ((by rw [hg]; exact (below_size Bq) : w.heap.size ≤ gb189)); have GE189 := Aside0.mk ((by rw [hg]; exact (below_size Bq) : w.heap.size ≤ gb189)); replace HB := Aside0.mk (below_step Bq hb); clear hb hbox hg; have hcz5_0 : w4.cell? ⟨gb189, 0, none⟩ = some (.int .i64 a0_0) := (blk_cell BK189.out 0).trans rfl; have hcz5_1 : w4.cell? ⟨gb189, 1, none⟩ = some (.int .i64 a0_1) := (blk_cell BK189.out 1).trans rfl; have hcz5_2 : w4.cell? ⟨gb189, 2, none⟩ = some (.int .i64 a0_2) := (blk_cell BK189.out 2).trans rfl; have hcz5_3 : w4.cell? ⟨gb189, 3, none⟩ = some (.int .i64 a0_3) := (blk_cell BK189.out 3).trans rfl; have hcz5_4 : w4.cell? ⟨gb189, 4, none⟩ = some (.int .i64 a0_4) := (blk_cell BK189.out 4).trans rfl; have hfz5_0 := blk_frozen BK189.out 0; have hfz5_1 := blk_frozen BK189.out 1; have hfz5_2 := blk_frozen BK189.out 2; have hfz5_3 := blk_frozen BK189.out 3; have hfz5_4 := blk_frozen BK189.out 4))
 go_loopg [7, 17] k (fun kq v7 v17 w' => ∃ (x7_1 : List (List (List Int))) (x17_1 : Int), v17 = .int .i64 x17_1 ∧ Aside0 (pke_even.l0 kq l1 a2 x7_1 a0_0 x17_1 a0_0 a0_1 a0_2 a0_3 a0_4 = some r) ∧ Aside0 (kq ≤ k) ∧ Aside0 (Kd.R (Kd.slice 40 (Kd.slice 3 (Kd.int .i64))) 49 w' w.heap.size (fun _ => True) v7 x7_1) ∧ Aside0 (w'.heap[gb189]? = some (.cells #[.int .i64 a0_0, .int .i64 a0_1, .int .i64 a0_2, .int .i64 a0_3, .int .i64 a0_4] 34 (0, 0))) ∧ Aside0 (Below w.heap.size w w'))
 case atStart => exact ⟨(([] : List (List (List Int)))), (0), Rq, H', ⟨Nat.le_refl _⟩, ⟨by first | exact Kd.R_nil _ _ _ _ _ | exact Kd.N_nil _ _ _ _ _ | exact Kd.V_nil _ _ _ _ _ | exact Kd.Q_nil _ _ _ _ _ | exact Kd.S_nil _ _ _ _ _⟩, ⟨by (with_reducible repeat (first | refine blk_drewN ?_ _ | refine blk_drew ?_ | refine blk_alloc ?_ _)); exact BK189.out⟩, ⟨Bq⟩⟩
 case round =>
  clear H'
  try clear c1
  try clear c2
  try clear p2
  try clear hcz5_0
  try clear hcz5_1
  try clear hcz5_2
  try clear hcz5_3
  try clear hcz5_4
  try clear hfz5_0
  try clear hfz5_1
  try clear hfz5_2
  try clear hfz5_3
  try clear hfz5_4
  obtain ⟨x7_1, x17_1, rfl, HA, HK1, HO_7, BK189, HB⟩ := hrel
  cases gk with
  | zero => exact absurd HA.out (by simp [pke_even.l0])
  | succ k1 =>
   have H := HA.out
   clear HA
   simp only [pke_even.l0] at H
   by_cases c6 : x17_1 < a0_0
   ·rw [if_pos c6] at H
    have c6b0 : decide (x17_1 < a0_0) = true := decide_eq_true c6
    clear c6
    have H' := Aside0.mk H
    clear H
    have hcz7_0 : wr.cell? ⟨gb189, 0, none⟩ = some (.int .i64 a0_0) := (blk_cell BK189.out 0).trans rfl
    have hcz7_1 : wr.cell? ⟨gb189, 1, none⟩ = some (.int .i64 a0_1) := (blk_cell BK189.out 1).trans rfl
    have hcz7_2 : wr.cell? ⟨gb189, 2, none⟩ = some (.int .i64 a0_2) := (blk_cell BK189.out 2).trans rfl
    have hcz7_3 : wr.cell? ⟨gb189, 3, none⟩ = some (.int .i64 a0_3) := (blk_cell BK189.out 3).trans rfl
    have hcz7_4 : wr.cell? ⟨gb189, 4, none⟩ = some (.int .i64 a0_4) := (blk_cell BK189.out 4).trans rfl
    have hfz7_0 := blk_frozen BK189.out 0
    have hfz7_1 := blk_frozen BK189.out 1
    have hfz7_2 := blk_frozen BK189.out 2
    have hfz7_3 := blk_frozen BK189.out 3
    have hfz7_4 := blk_frozen BK189.out 4
    go_wp2
    go_loopg [9, 22] k1 (fun kq v9 v22 w' => ∃ (x9_2 : List (List Int)) (x22_2 : Int), v22 = .int .i64 x22_2 ∧ Aside0 (pke_even.l1 kq l1 a2 x7_1 x17_1 x9_2 a0_0 x17_1 a0_0 x22_2 a0_0 a0_1 a0_2 a0_3 a0_4 = some r) ∧ Aside0 (kq ≤ k1) ∧ Aside0 (Kd.R (Kd.slice 40 (Kd.slice 3 (Kd.int .i64))) 49 w' w.heap.size (fun k_ => some k_ ≠ (v9 : Value).ownBlock) u7 x7_1) ∧ Aside0 (Kd.S (Kd.slice 3 (Kd.int .i64)) 40 w' w.heap.size (fun _ => True) v9 x9_2) ∧ Aside0 (w'.heap[gb189]? = some (.cells #[.int .i64 a0_0, .int .i64 a0_1, .int .i64 a0_2, .int .i64 a0_3, .int .i64 a0_4] 34 (0, 0))) ∧ Aside0 (Below w.heap.size w w'))
    case atStart => exact ⟨(([] : List (List Int))), (0), Rq, H', ⟨Nat.le_refl _⟩, ⟨by (with_reducible repeat (first | apply Kd.R_alloc | apply Kd.R_drewN | apply Kd.R_drew)); exact Kd.R_mono HO_7.out (fun _ hk => (by simp [Value.ownBlock]))⟩, ⟨by first | exact Kd.S_nil _ _ _ _ _ | exact Kd.N_nil _ _ _ _ _ | exact Kd.V_nil _ _ _ _ _ | exact Kd.Q_nil _ _ _ _ _ | exact Kd.R_nil _ _ _ _ _⟩, ⟨by (with_reducible repeat (first | refine blk_drewN ?_ _ | refine blk_drew ?_ | refine blk_alloc ?_ _)); exact BK189.out⟩, ⟨Bq⟩⟩
    case round =>
     clear H'
     try clear c1
     try clear c2
     try clear p2
     try clear c6
     try clear c6b0
     try clear hcz5_0
     try clear hcz5_1
     try clear hcz5_2
     try clear hcz5_3
     try clear hcz5_4
     try clear hcz7_0
     try clear hcz7_1
     try clear hcz7_2
     try clear hcz7_3
     try clear hcz7_4
     try clear hfz5_0
     try clear hfz5_1
     try clear hfz5_2
     try clear hfz5_3
     try clear hfz5_4
     try clear hfz7_0
     try clear hfz7_1
     try clear hfz7_2
     try clear hfz7_3
     try clear hfz7_4
     try clear p2
     obtain ⟨x9_2, x22_2, rfl, HA, HK2, HO_7, HO_9, BK189, HB⟩ := hrel
     cases gk with
     | zero => exact absurd HA.out (by simp [pke_even.l1])
     | succ k2 =>
      have H := HA.out
      clear HA
      simp only [pke_even.l1] at H
      by_cases c8 : x22_2 < a0_0
      ·rw [if_pos c8] at H
       have c8b0 : decide (x22_2 < a0_0) = true := decide_eq_true c8
       clear c8
       by_cases c9 : a2 = true
       ·subst c9
        rw [if_pos rfl] at H
        replace H := Option.bind_eq_some_iff.mp H
        obtain ⟨⟨t190, t191⟩, A100, H⟩ := H
        try dsimp only at H
        have A10 := Aside0.mk A100
        clear A100
        by_cases c11 : x9_2.length < 5864062014805
        ·rw [if_pos c11] at H
         have LMc11 := Aside0.mk c11
         clear c11
         obtain ⟨y196, Ny196⟩ : ∃ y_ : List (List Int), Aside0 (y_ = (x9_2 ++ [t190])) := ⟨_, ⟨rfl⟩⟩
         first | rw [Option.bind_some, ← Ny196.out] at H | rw [← Ny196.out] at H
         have H' := Aside0.mk H
         clear H
         go_wp2_with (first | ((with_reducible refine gate_callee (f := 47) rfl ?_); refine goesL_ (some 36) rfl rfl Tryd.func47 (by kernel_rfl) rfl #[.slice A1 l1.length c1, .int .u8 ((x17_1) % 256), .int .u8 ((x22_2) % 256)] rfl Mq ?_; (with_reducible refine (draw_Even.calls _ _ l1 ((x17_1) % 256) ((x22_2) % 256) t190 t191 _ ?side1 ?side2 A10.out).mono ?_); (case side1 => exact Cq (Kd.C_below HR1.out HB.out)); (case side2 => exact HC1.out); rintro e w12 ⟨v192, v194, rfl, ho0, ho1, hb⟩; refine ⟨_, rfl, ?_⟩; replace HO_7 := Aside0.mk (Kd.R_elder' (Wq HO_7) (Kd.R_base ho0) hb); replace HO_9 := Aside0.mk (Kd.S_elder' (Wq HO_9) (Kd.R_base ho0) hb); have HO193 := Aside0.mk (Kd.R_lower ho0 (below_size Bq)); have HO195 := Aside0.mk (Kd.R_lower ho1 (below_size Bq)); replace BK189 := Aside0.mk (blk_below (g := gb189) (o := .cells #[.int .i64 a0_0, .int .i64 a0_1, .int .i64 a0_2, .int .i64 a0_3, .int .i64 a0_4] 34 (0, 0)) (Kq BK189) hb); replace HB := Aside0.mk (below_step Bq hb); clear hb ho0 ho1; (try clear A10); obtain ⟨Ao14, co14, eo14⟩ := Kd.R_slice HO193.out; subst eo14) | ((with_reducible refine gate_builtin (b := .append) (xs := #[.tmp 39, .tmp 41]) rfl ?_); at_builtin; refine Kd.S_append (Kd.slice 3 (Kd.int .i64)) (w0 := w) w.heap.size rfl (.tmp 39) (.tmp 41) 49 40 (.slice none 0 0) 24 rfl Tryd.underlying49 info40 rfl (by decide) (by omega) u9 x9_2 t190 [.slice Ao14 t190.length co14] (fun _ => True) (fun k_ => some k_ = (.slice Ao14 t190.length co14 : Value).ownBlock) rfl rfl ?aP (fun k_ hk_ => ((Kd.R_mono (ok' := fun k_ => ((fun _ => True)) k_ ∧ some k_ ≠ (u9 : Value).ownBlock) (Kd.R_apart' (HO193.out) (Kd.S_typed HO_9.out) (by decide)) (fun k_ hk => ⟨trivial, hk.2⟩))).1 k_ hk_.symm) ?aF ?aO ?aB ?aS ?aL ?_; (case aP => exact Kd.M_row (Kd.R_mono (Kd.R_tight rfl (Kd.R_mono (ok' := fun k_ => ((fun _ => True)) k_ ∧ some k_ ≠ (u9 : Value).ownBlock) (Kd.R_apart' (HO193.out) (Kd.S_typed HO_9.out) (by decide)) (fun k_ hk => ⟨trivial, hk.2⟩))) (fun _ h_ => h_))); (case aB => exact Bq); (case aF => exact (fun _ _ => trivial)); (case aO => exact (by (with_reducible repeat (first | apply Kd.S_alloc | apply Kd.S_drewN | apply Kd.S_drew)); exact Kd.S_mono HO_9.out (fun k_ hk => ⟨trivial, fun e_ => hk.2 e_⟩))); (case aS => exact (below_size Bq)); (case aL => have := LMc11.out; omega); intro v197 w13 ho hb hg hat; rw [← Ny196.out] at ho; replace HO_7 := Aside0.mk (Kd.R_after (ok := (fun k_ => some k_ ≠ (.slice Ao14 t190.length co14 : Value).ownBlock)) (by (with_reducible repeat (first | apply Kd.R_alloc | apply Kd.R_drewN | apply Kd.R_drew)); exact Kd.R_mono HO_7.out (fun _ hk => ⟨hk.2, hk.1⟩)) hg hat); replace BK189 := Aside0.mk (blk_grown (g := gb189) (o := .cells #[.int .i64 a0_0, .int .i64 a0_1, .int .i64 a0_2, .int .i64 a0_3, .int .i64 a0_4] 34 (0, 0)) (Kq BK189) hg (Kd.S_ne HO_9.out BK189.out (by decide))); replace HO195 := Aside0.mk (Kd.R_over' (Wq HO195) (Kd.S_typed (Wq HO_9)) (by decide) hg); replace HB := Aside0.mk (hb); have HO198 := Aside0.mk (ho); clear HO_9 HO193; clear ho hb hg hat))
         go_roundg k2
         case measure => have := HK1.out; have := HK2.out; omega
         case rel => exact ⟨(y196), (wrap64 (x22_2 + 1)), Rq, H', ⟨by have := HK1.out; have := HK2.out; omega⟩, ⟨by (with_reducible repeat (first | apply Kd.R_alloc | apply Kd.R_drewN | apply Kd.R_drew)); exact Kd.R_mono HO_7.out (fun _ hk => hk.2)⟩, ⟨Wq HO198⟩, ⟨by (with_reducible repeat (first | refine blk_drewN ?_ _ | refine blk_drew ?_ | refine blk_alloc ?_ _)); exact BK189.out⟩, ⟨Bq⟩⟩
        ·rw [if_neg c11] at H
         exact absurd H (by simp)
       ·replace c9 := Bool.eq_false_iff.mpr c9
        subst c9
        rw [if_neg nf] at H
        replace H := Option.bind_eq_some_iff.mp H
        obtain ⟨⟨t199, t200⟩, A150, H⟩ := H
        try dsimp only at H
        have A15 := Aside0.mk A150
        clear A150
        by_cases c16 : x9_2.length < 5864062014805
        ·rw [if_pos c16] at H
         have LMc16 := Aside0.mk c16
         clear c16
         obtain ⟨y205, Ny205⟩ : ∃ y_ : List (List Int), Aside0 (y_ = (x9_2 ++ [t199])) := ⟨_, ⟨rfl⟩⟩
         first | rw [Option.bind_some, ← Ny205.out] at H | rw [← Ny205.out] at H
         have H' := Aside0.mk H
         clear H
         go_wp2_with (first | ((with_reducible refine gate_callee (f := 47) rfl ?_); refine goesL_ (some 36) rfl rfl Tryd.func47 (by kernel_rfl) rfl #[.slice A1 l1.length c1, .int .u8 ((x22_2) % 256), .int .u8 ((x17_1) % 256)] rfl Mq ?_; (with_reducible refine (draw_Even.calls _ _ l1 ((x22_2) % 256) ((x17_1) % 256) t199 t200 _ ?side1 ?side2 A15.out).mono ?_); (case side1 => exact Cq (Kd.C_below HR1.out HB.out)); (case side2 => exact HC1.out); rintro e w17 ⟨v201, v203, rfl, ho0, ho1, hb⟩; refine ⟨_, rfl, ?_⟩; replace HO_7 := Aside0.mk (Kd.R_elder' (Wq HO_7) (Kd.R_base ho0) hb); replace HO_9 := Aside0.mk (Kd.S_elder' (Wq HO_9) (Kd.R_base ho0) hb); have HO202 := Aside0.mk (Kd.R_lower ho0 (below_size Bq)); have HO204 := Aside0.mk (Kd.R_lower ho1 (below_size Bq)); replace BK189 := Aside0.mk (blk_below (g := gb189) (o := .cells #[.int .i64 a0_0, .int .i64 a0_1, .int .i64 a0_2, .int .i64 a0_3, .int .i64 a0_4] 34 (0, 0)) (Kq BK189) hb); replace HB := Aside0.mk (below_step Bq hb); clear hb ho0 ho1; (try clear A15); obtain ⟨Ao19, co19, eo19⟩ := Kd.R_slice HO202.out; subst eo19) | ((with_reducible refine gate_builtin (b := .append) (xs := #[.tmp 39, .tmp 41]) rfl ?_); at_builtin; refine Kd.S_append (Kd.slice 3 (Kd.int .i64)) (w0 := w) w.heap.size rfl (.tmp 39) (.tmp 41) 49 40 (.slice none 0 0) 24 rfl Tryd.underlying49 info40 rfl (by decide) (by omega) u9 x9_2 t199 [.slice Ao19 t199.length co19] (fun _ => True) (fun k_ => some k_ = (.slice Ao19 t199.length co19 : Value).ownBlock) rfl rfl ?aP (fun k_ hk_ => ((Kd.R_mono (ok' := fun k_ => ((fun _ => True)) k_ ∧ some k_ ≠ (u9 : Value).ownBlock) (Kd.R_apart' (HO202.out) (Kd.S_typed HO_9.out) (by decide)) (fun k_ hk => ⟨trivial, hk.2⟩))).1 k_ hk_.symm) ?aF ?aO ?aB ?aS ?aL ?_; (case aP => exact Kd.M_row (Kd.R_mono (Kd.R_tight rfl (Kd.R_mono (ok' := fun k_ => ((fun _ => True)) k_ ∧ some k_ ≠ (u9 : Value).ownBlock) (Kd.R_apart' (HO202.out) (Kd.S_typed HO_9.out) (by decide)) (fun k_ hk => ⟨trivial, hk.2⟩))) (fun _ h_ => h_))); (case aB => exact Bq); (case aF => exact (fun _ _ => trivial)); (case aO => exact (by (with_reducible repeat (first | apply Kd.S_alloc | apply Kd.S_drewN | apply Kd.S_drew)); exact Kd.S_mono HO_9.out (fun k_ hk => ⟨trivial, fun e_ => hk.2 e_⟩))); (case aS => exact (below_size Bq)); (case aL => have := LMc16.out; omega); intro v206 w18 ho hb hg hat; rw [← Ny205.out] at ho; replace HO_7 := Aside0.mk (Kd.R_after (ok := (fun k_ => some k_ ≠ (.slice Ao19 t199.length co19 : Value).ownBlock)) (by (with_reducible repeat (first | apply Kd.R_alloc | apply Kd.R_drewN | apply Kd.R_drew)); exact Kd.R_mono HO_7.out (fun _ hk => ⟨hk.2, hk.1⟩)) hg hat); replace BK189 := Aside0.mk (blk_grown (g := gb189) (o := .cells #[.int .i64 a0_0, .int .i64 a0_1, .int .i64 a0_2, .int .i64 a0_3, .int .i64 a0_4] 34 (0, 0)) (Kq BK189) hg (Kd.S_ne HO_9.out BK189.out (by decide))); replace HO204 := Aside0.mk (Kd.R_over' (Wq HO204) (Kd.S_typed (Wq HO_9)) (by decide) hg); replace HB := Aside0.mk (hb); have HO207 := Aside0.mk (ho); clear HO_9 HO202; clear ho hb hg hat))
         go_roundg k2
         case measure => have := HK1.out; have := HK2.out; omega
         case rel => exact ⟨(y205), (wrap64 (x22_2 + 1)), Rq, H', ⟨by have := HK1.out; have := HK2.out; omega⟩, ⟨by (with_reducible repeat (first | apply Kd.R_alloc | apply Kd.R_drewN | apply Kd.R_drew)); exact Kd.R_mono HO_7.out (fun _ hk => hk.2)⟩, ⟨Wq HO207⟩, ⟨by (with_reducible repeat (first | refine blk_drewN ?_ _ | refine blk_drew ?_ | refine blk_alloc ?_ _)); exact BK189.out⟩, ⟨Bq⟩⟩
        ·rw [if_neg c16] at H
         exact absurd H (by simp)
      ·rw [if_neg c8] at H
       have c8b0 : decide (x22_2 < a0_0) = false := decide_eq_false c8
       clear c8
       by_cases c20 : x7_1.length < 5864062014805
       ·rw [if_pos c20] at H
        have LMc20 := Aside0.mk c20
        clear c20
        obtain ⟨y208, Ny208⟩ : ∃ y_ : List (List (List Int)), Aside0 (y_ = (x7_1 ++ [x9_2])) := ⟨_, ⟨rfl⟩⟩
        first | rw [Option.bind_some, ← Ny208.out] at H | rw [← Ny208.out] at H
        have H' := Aside0.mk H
        clear H
        obtain ⟨Ao22, co22, eo22⟩ := Kd.S_slice HO_9.out
        subst eo22
        go_wp2_with (first | ((with_reducible refine gate_builtin (b := .append) (xs := #[.tmp 44, .tmp 46]) rfl ?_); at_builtin; refine Kd.R_append (Kd.slice 40 (Kd.slice 3 (Kd.int .i64))) (w0 := w) w.heap.size rfl (.tmp 44) (.tmp 46) 52 49 (.slice none 0 0) 24 rfl Tryd.underlying52 info49 rfl (by decide) (by omega) u7 x7_1 x9_2 [.slice Ao22 x9_2.length co22] (fun _ => True) (fun k_ => ((fun _ => True)) k_ ∧ some k_ ≠ (u7 : Value).ownBlock) rfl rfl ?aP (fun _ hk => hk) ?aF ?aO ?aB ?aS ?aL ?_; (case aP => exact Kd.M_row (Kd.R_mono (Kd.R_apart' ((Kd.S_R HO_9.out)) (Kd.R_typed HO_7.out) (by decide)) (fun k_ hk => ⟨trivial, hk.2⟩))); (case aB => exact Bq); (case aF => exact (fun _ _ => trivial)); (case aO => exact (by (with_reducible repeat (first | apply Kd.R_alloc | apply Kd.R_drewN | apply Kd.R_drew)); exact Kd.R_mono HO_7.out (fun _ hk => trivial))); (case aS => exact (below_size Bq)); (case aL => have := LMc20.out; omega); intro v209 w21 ho hb hg hat; rw [← Ny208.out] at ho; replace BK189 := Aside0.mk (blk_grown (g := gb189) (o := .cells #[.int .i64 a0_0, .int .i64 a0_1, .int .i64 a0_2, .int .i64 a0_3, .int .i64 a0_4] 34 (0, 0)) (Kq BK189) hg (Kd.R_ne HO_7.out BK189.out (by decide))); replace HB := Aside0.mk (hb); have HO210 := Aside0.mk (ho); clear HO_7 HO_9; clear ho hb hg hat))
        go_roundg k2
        case measure => have := HK1.out; have := HK2.out; omega
        case rel => exact ⟨(y208), (wrap64 (x17_1 + 1)), Rq, H', ⟨by have := HK1.out; have := HK2.out; omega⟩, ⟨Wq HO210⟩, ⟨by (with_reducible repeat (first | refine blk_drewN ?_ _ | refine blk_drew ?_ | refine blk_alloc ?_ _)); exact BK189.out⟩, ⟨Bq⟩⟩
       ·rw [if_neg c20] at H
        exact absurd H (by simp)
   ·rw [if_neg c6] at H
    have c6b0 : decide (x17_1 < a0_0) = false := decide_eq_false c6
    clear c6
    obtain rfl := Option.some.inj H
    go_wp2
    go_ret
    exact ⟨_, by first | rfl | (simp [errW_none, errW_some] <;> rfl) | (simp [*, errW_none, errW_some] <;> rfl), Wq HO_7, Bq⟩

-- NOT PRINTED: function 48 (poly_each)

/-! ### ring_Add: function 49 -/
def ring_Add.f (a0 : Int) (a1 : Int) : Option (Int) := (ring_Of.f a0).bind fun t211 => ((ring_Of.f a1).bind fun t212 => (some (Int.tmod (wrap64 (t211 + t212)) 3329)))
set_option maxHeartbeats 8000000 in
set_option maxRecDepth 100000 in
theorem ring_Add.calls (a0 : Int) (a1 : Int) (r : Int) (w : World) (h : ring_Add.f a0 a1 = some r) :
  Calls Tryd.prog 49 #[.int .i64 a0, .int .i64 a1] w fun e w' => e = .returned (.int .i64 r) ∧ Drawn0 w w' := by
 have H := h
 unfold ring_Add.f at H
 clear h
 replace H := Option.bind_eq_some_iff.mp H
 obtain ⟨t211, A30, H⟩ := H
 try dsimp only at H
 have A3 := Aside0.mk A30
 clear A30
 replace H := Option.bind_eq_some_iff.mp H
 obtain ⟨t212, A40, H⟩ := H
 try dsimp only at H
 have A4 := Aside0.mk A40
 clear A40
 obtain rfl := Option.some.inj H
 go_enter Tryd.func49, Tryd.ntmps49
 go_wp2_with (first | ((with_reducible refine gate_callee (f := 70) rfl ?_); refine goesL_ (some 6) rfl rfl Tryd.func70 (by kernel_rfl) rfl #[.int .i64 a0] rfl Mq ?_; (with_reducible refine (ring_Of.calls a0 t211 _ A3.out).mono ?_); rintro e w' ⟨rfl, ⟨nd, rfl⟩⟩; refine ⟨_, rfl, ?_⟩) | ((with_reducible refine gate_callee (f := 70) rfl ?_); refine goesL_ (some 8) rfl rfl Tryd.func70 (by kernel_rfl) rfl #[.int .i64 a1] rfl Mq ?_; (with_reducible refine (ring_Of.calls a1 t212 _ A4.out).mono ?_); rintro e w' ⟨rfl, ⟨nd, rfl⟩⟩; refine ⟨_, rfl, ?_⟩))
 go_ret
 exact ⟨by first | rfl | (simp; done) | (simp [*]; done), by repeat (first | exact Drawn0.refl _ | apply Drawn0.step)⟩

end Go.Proofs.YtkdfcgihgndnnaaDoor.PPA
end
