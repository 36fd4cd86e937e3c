-- By a program of this session (wip/myprint.sh) out of the translation; Lean checks it.
import Derived.Test.YtkiofhmpeokipaaPTAx0
import Derived.Test.YtkiofhmpeokipaaPTAx4
import Derived.Test.YtkiofhmpeokipaaPTAx5
namespace Go.Proofs.Ytkiofhmpeokipaa.PTA
open Go.RowKit Go.Proofs.YtkiofhmpeokipaaW.PrintWords Go.Proofs.YtkiofhmpeokipaaW.PrintLast Go.Proofs.YtkiofhmpeokipaaW.PrintMore
attribute [local go_sem] max2_int min2_int max_two min_two max_three min_three max_four min_four   -- for this text's walks alone
set_option linter.unusedVariables false
set_option linter.unusedSimpArgs false

/-! ### chatelaineref24_Frame: function 15 -/
mutual
def chatelaineref24_Frame.l0 : Nat → List (List Int) → Int → Int → Int → List Int → Int → Option (List Int × Int × Bool)
  | 0, _, _, _, _, _, _ => none
  | k + 1, x0, x1, x2, x9, x10, x11 => if x11 < x9 then (if x11 ≥ (x0.length : Int) then (some (([] : List Int), 0, false)) else (if 0 ≤ x11 then (if x11 < (x0.length : Int) then (if 20 ≤ 22 then (if 22 ≤ ((rd_L2 x0 x11).length : Int) then ((chatelaineref24_get.f k (((rd_L2 x0 x11).take 22).drop 20)).bind fun t196 => (if t196 > 488 then (some (([] : List Int), 0, false)) else (if 24 ≤ (wrap64 (24 + t196)) then (if (wrap64 (24 + t196)) ≤ ((rd_L2 x0 x11).length : Int) then (if x10.length + (((rd_L2 x0 x11).take ((wrap64 (24 + t196)) : Int).toNat).drop 24).length < 140737488355328 then (chatelaineref24_Frame.l0 k x0 x1 x2 x9 (x10 ++ (((rd_L2 x0 x11).take ((wrap64 (24 + t196)) : Int).toNat).drop 24)) (wrap64 (x11 + 1))) else (none)) else (none)) else (none)))) else (none)) else (none)) else (none)) else (none))) else ((chatelaineref24_Blocks.f k x1 x2 x10).bind fun t202 => (chatelaineref24_Frame.l1 k x0 x9 x10 t202 0))
def chatelaineref24_Frame.l1 : Nat → List (List Int) → Int → List Int → List (List Int) → Int → Option (List Int × Int × Bool)
  | 0, _, _, _, _, _ => none
  | k + 1, x0, x9, x10, x13, x14 => if x14 < x9 then (if (x13.length : Int) = x9 then (if 0 ≤ x14 then (if x14 < (x13.length : Int) then (if x14 < (x0.length : Int) then (if (strOfNums (rd_L2 x13 x14)).toList = (strOfNums (rd_L2 x0 x14)).toList then (chatelaineref24_Frame.l1 k x0 x9 x10 x13 (wrap64 (x14 + 1))) else (some (([] : List Int), 0, false))) else (none)) else (none)) else (none)) else (some (([] : List Int), 0, false))) else (some (x10, x9, decide (x9 > 0)))
end
def chatelaineref24_Frame.f (k : Nat) (l0 : List (List Int)) (a1 : Int) (a2 : Int) : Option (List Int × Int × Bool) := if (l0.length : Int) = 0 then (some (([] : List Int), 0, false)) else (if 0 < (l0.length : Int) then (if 18 ≤ 20 then (if 20 ≤ ((rd_L2 l0 0).length : Int) then ((chatelaineref24_get.f k (((rd_L2 l0 0).take 20).drop 18)).bind fun t193 => (chatelaineref24_Frame.l0 k l0 a1 a2 t193 ([] : List Int) 0)) else (none)) else (none)) else (none))
theorem chatelaineref24_Frame.mono_l : ∀ k, (∀ y0 y1 y2 y3 y4 y5, LeO (chatelaineref24_Frame.l0 k y0 y1 y2 y3 y4 y5) (chatelaineref24_Frame.l0 (k + 1) y0 y1 y2 y3 y4 y5)) ∧ (∀ y0 y1 y2 y3 y4, LeO (chatelaineref24_Frame.l1 k y0 y1 y2 y3 y4) (chatelaineref24_Frame.l1 (k + 1) y0 y1 y2 y3 y4))
  | 0 => ⟨fun _ _ _ _ _ _ r h => by simp [chatelaineref24_Frame.l0] at h, fun _ _ _ _ _ r h => by simp [chatelaineref24_Frame.l1] at h⟩
  | k + 1 => by
    obtain ⟨ih0, ih1⟩ := chatelaineref24_Frame.mono_l k
    refine ⟨?_, ?_⟩
    · intro y0 y1 y2 y3 y4 y5
      unfold chatelaineref24_Frame.l0
      repeat' first
      | (with_reducible exact ih0 _ _ _ _ _ _)
      | (with_reducible exact ih1 _ _ _ _ _)
      | (with_reducible exact chatelaineref24_Blocks.mono _ _ _ _)
      | (with_reducible exact chatelaineref24_get.mono _ _)
      | (with_reducible exact LeO.refl _)
      | (with_reducible exact LeO.none _)
      | (with_reducible refine LeO.ite ?_ ?_)
      | (with_reducible refine LeO.bind ?_ (fun _ => ?_))
      | exact ih0 _ _ _ _ _ _
      | exact ih1 _ _ _ _ _
      | exact chatelaineref24_Blocks.mono _ _ _ _
      | exact chatelaineref24_get.mono _ _
      | exact LeO.none _
      | refine LeO.ite ?_ ?_
      | refine LeO.bind ?_ (fun _ => ?_)
    · intro y0 y1 y2 y3 y4
      unfold chatelaineref24_Frame.l1
      repeat' first
      | (with_reducible exact ih0 _ _ _ _ _ _)
      | (with_reducible exact ih1 _ _ _ _ _)
      | (with_reducible exact chatelaineref24_Blocks.mono _ _ _ _)
      | (with_reducible exact chatelaineref24_get.mono _ _)
      | (with_reducible exact LeO.refl _)
      | (with_reducible exact LeO.none _)
      | (with_reducible refine LeO.ite ?_ ?_)
      | (with_reducible refine LeO.bind ?_ (fun _ => ?_))
      | exact ih0 _ _ _ _ _ _
      | exact ih1 _ _ _ _ _
      | exact chatelaineref24_Blocks.mono _ _ _ _
      | exact chatelaineref24_get.mono _ _
      | exact LeO.none _
      | refine LeO.ite ?_ ?_
      | refine LeO.bind ?_ (fun _ => ?_)
theorem chatelaineref24_Frame.mono : ∀ a0 a1 a2 k, LeO (chatelaineref24_Frame.f k a0 a1 a2) (chatelaineref24_Frame.f (k + 1) a0 a1 a2) := by
  intro a0 a1 a2 k
  obtain ⟨ih0, ih1⟩ := chatelaineref24_Frame.mono_l k
  unfold chatelaineref24_Frame.f
  repeat' first
      | (with_reducible exact ih0 _ _ _ _ _ _)
      | (with_reducible exact ih1 _ _ _ _ _)
      | (with_reducible exact chatelaineref24_Blocks.mono _ _ _ _)
      | (with_reducible exact chatelaineref24_get.mono _ _)
      | (with_reducible exact LeO.refl _)
      | (with_reducible exact LeO.none _)
      | (with_reducible refine LeO.ite ?_ ?_)
      | (with_reducible refine LeO.bind ?_ (fun _ => ?_))
      | exact ih0 _ _ _ _ _ _
      | exact ih1 _ _ _ _ _
      | exact chatelaineref24_Blocks.mono _ _ _ _
      | exact chatelaineref24_get.mono _ _
      | exact LeO.none _
      | refine LeO.ite ?_ ?_
      | refine LeO.bind ?_ (fun _ => ?_)
set_option maxHeartbeats 8000000 in
set_option maxRecDepth 100000 in
theorem chatelaineref24_Frame.calls (k : Nat) (A0 : Option Addr) (c0 : Nat) (l0 : List (List Int)) (a1 : Int) (a2 : Int) (r1 : List Int) (r2 : Int) (r3 : Bool) (w : World) (hr0 : Kd.C (Kd.slice 5 (Kd.int .u8)) w A0 l0.length l0) (hc0 : l0.length ≤ c0) (h : chatelaineref24_Frame.f k l0 a1 a2 = some (r1, r2, r3)) :
    Calls Try.prog 15 #[.slice A0 l0.length c0, .int .i64 a1, .int .i64 a2] w fun e w' => ∃ v0_ : Value, e = .returned (.tuple #[v0_, .int .i64 r2, .bool r3]) ∧ Kd.R (Kd.int .u8) 5 w' w.heap.size (fun _ => True) v0_ r1 ∧ Below w.heap.size w w' := by
  have HR0 := Aside0.mk hr0
  have HC0 := Aside0.mk hc0
  clear hr0 hc0
  have HB := Aside0.mk (Below.refl w.heap.size w)
  have H : (if (l0.length : Int) = 0 then (some (([] : List Int), 0, false)) else (if 0 < (l0.length : Int) then (if 18 ≤ 20 then (if 20 ≤ ((rd_L2 l0 0).length : Int) then ((chatelaineref24_get.f k (((rd_L2 l0 0).take 20).drop 18)).bind fun t193 => (chatelaineref24_Frame.l0 k l0 a1 a2 t193 ([] : List Int) 0)) else (none)) else (none)) else (none))) = some (r1, r2, r3) := h
  clear h
  by_cases c4 : (l0.length : Int) = 0
  · rw [if_pos c4] at H
    have c4b0 : ((l0.length : Int) == 0) = true := beq_iff_eq.mpr c4
    have c4b1 : ((l0.length : Int) != 0) = false := bne_eq_false_iff_eq.mpr c4
    clear c4
    simp only [Option.some.injEq, Prod.mk.injEq] at H
    obtain ⟨rfl, rfl, rfl⟩ := H
    go_enter Try.func15, Try.ntmps15
    go_wp2
    repeat (go_quiet (fail); try go_wp2)
    go_ret3
    exact ⟨_, by first | rfl | (simp [errW_none, errW_some] <;> rfl) | (simp [*, errW_none, errW_some] <;> rfl), by first | exact Kd.R_nil _ _ _ _ _ | exact Kd.N_nil _ _ _ _ _ | exact Kd.V_nil _ _ _ _ _ | exact Kd.Q_nil _ _ _ _ _ | exact Kd.S_nil _ _ _ _ _, by repeat (first | (with_reducible first | exact HB.out | apply below_alloc | apply pw_below_drewN | apply below_drew1) | exact HB.out)⟩
  · rw [if_neg c4] at H
    have c4b0 : ((l0.length : Int) == 0) = false := beq_eq_false_iff_ne.mpr c4
    have c4b1 : ((l0.length : Int) != 0) = true := bne_iff_ne.mpr c4
    have c4b2 : ¬ (l0 = []) := fun h_ => c4 (by rw [h_]; rfl)
    by_cases c5 : 0 < (l0.length : Int)
    · rw [if_pos c5] at H
      have c5b0 : decide (0 < (l0.length : Int)) = true := decide_eq_true c5
      have c5b1 : decide (0 < l0.length) = true := decide_eq_true (by omega)
      clear c5
      by_cases c6 : 18 ≤ 20
      · rw [if_pos c6] at H
        have c6b0 := eq_true c6
        have c6b1 : decide (18 ≤ 20) = true := decide_eq_true c6
        clear c6
        by_cases c7 : 20 ≤ ((rd_L2 l0 0).length : Int)
        · rw [if_pos c7] at H
          have c7b0 := eq_true c7
          have c7b1 : decide (20 ≤ ((rd_L2 l0 0).length : Int)) = true := decide_eq_true c7
          clear c7
          replace H := Option.bind_eq_some_iff.mp H
          obtain ⟨t193, A80, H⟩ := H
          replace H : (chatelaineref24_Frame.l0 k l0 a1 a2 t193 ([] : List Int) 0) = some (r1, r2, r3) := H
          have A8 := Aside0.mk A80
          clear A80
          have H' := Aside0.mk H
          clear H
          have p191 : 0 ≤ (0 : Int) := (by omega)
          have q191 : 0 < (l0.length : Int) := of_decide_eq_true (by first | (with_reducible assumption) | assumption)
          obtain ⟨ad191, A191_0, c191_0, e191, hx191_0, hl191_0, hi191_0⟩ := at_L2 HR0.out 0 p191 q191
          cases e191
          have qi191 : (0 < l0.length) = True := eq_true (by omega)
          (try rw [show ((0 : Int)).toNat = 0 from rfl] at hx191_0)
          (try rw [Addr.add_zero'] at hx191_0)
          have HR191_0 := Aside0.mk hi191_0
          have HC191_0 := Aside0.mk hl191_0
          clear hi191_0 hl191_0
          replace p191 := eq_true p191
          replace q191 := eq_true q191
          obtain ⟨i09, hi09, _, hsz9, _⟩ := info_parts info5
          obtain ⟨A9, hcut9, hA9, hC9⟩ := print_mid_of (P := Try.prog) (Value.int .u8) 0 27 5 .i64 .i64 Try.underlying27 hi09 hsz9 A191_0 c191_0 (rd_L2 l0 0) 18 20 (by omega) (by first | omega | exact of_decide_eq_true (by first | (with_reducible assumption) | assumption)) (of_decide_eq_true (by first | (with_reducible assumption) | assumption)) HC191_0.out
          have HR192 := Aside0.mk (Kd.C_of_reads (h1 := fun _ => rfl) (hA9 _ (Kd.reads_of_C HR191_0.out)))
          have HC192 := Aside0.mk hC9
          clear hA9 hC9 hi09 hsz9
          go_enter Try.func15, Try.ntmps15
          go_wp2_with (first | (go_at_call 32; refine calls_of_args (args' := #[.slice A9 (((rd_L2 l0 0).take 20).drop 18).length (c191_0 - 18)]) (by first | (rw [show (((rd_L2 l0 0).take 20).drop 18).length = (20 - 18) from (by rw [List.length_drop, List.length_take]; have h_ : (20 : Int) ≤ ((rd_L2 l0 0).length : Int) := of_decide_eq_true (by first | (with_reducible assumption) | assumption); omega)] <;> rfl) | rfl | (simp only [List.length_drop, List.length_take]; done) | (simp only [List.length_drop, List.length_take]; rfl)) ?_; (with_reducible refine (chatelaineref24_get.calls k _ _ (((rd_L2 l0 0).take 20).drop 18) t193 _ ?side1 ?side2 A8.out).mono ?_); (case side1 => repeat (first | exact HR192.out | (with_reducible refine Kd.C_alloc ?_ _) | (with_reducible refine Kd.C_drewN ?_ _) | (with_reducible refine Kd.C_drew ?_))); (case side2 => exact HC192.out); rintro e w' ⟨rfl, ⟨nd, rfl⟩⟩; (try first | exact ⟨rfl, _, World.drewN_drewN _ _ _⟩ | exact ⟨rfl, _, Eq.trans (World.drewN_drewN _ _ _) (congrArg (World.drewN _) (Nat.add_assoc _ _ _))⟩)))
          repeat (go_quiet (first | (go_at_call 32; refine calls_of_args (args' := #[.slice A9 (((rd_L2 l0 0).take 20).drop 18).length (c191_0 - 18)]) (by first | (rw [show (((rd_L2 l0 0).take 20).drop 18).length = (20 - 18) from (by rw [List.length_drop, List.length_take]; have h_ : (20 : Int) ≤ ((rd_L2 l0 0).length : Int) := of_decide_eq_true (by first | (with_reducible assumption) | assumption); omega)] <;> rfl) | rfl | (simp only [List.length_drop, List.length_take]; done) | (simp only [List.length_drop, List.length_take]; rfl)) ?_; (with_reducible refine (chatelaineref24_get.calls k _ _ (((rd_L2 l0 0).take 20).drop 18) t193 _ ?side1 ?side2 A8.out).mono ?_); (case side1 => repeat (first | exact HR192.out | (with_reducible refine Kd.C_alloc ?_ _) | (with_reducible refine Kd.C_drewN ?_ _) | (with_reducible refine Kd.C_drew ?_))); (case side2 => exact HC192.out); rintro e w' ⟨rfl, ⟨nd, rfl⟩⟩; (try first | exact ⟨rfl, _, World.drewN_drewN _ _ _⟩ | exact ⟨rfl, _, Eq.trans (World.drewN_drewN _ _ _) (congrArg (World.drewN _) (Nat.add_assoc _ _ _))⟩))); try go_wp2_with (first | (go_at_call 32; refine calls_of_args (args' := #[.slice A9 (((rd_L2 l0 0).take 20).drop 18).length (c191_0 - 18)]) (by first | (rw [show (((rd_L2 l0 0).take 20).drop 18).length = (20 - 18) from (by rw [List.length_drop, List.length_take]; have h_ : (20 : Int) ≤ ((rd_L2 l0 0).length : Int) := of_decide_eq_true (by first | (with_reducible assumption) | assumption); omega)] <;> rfl) | rfl | (simp only [List.length_drop, List.length_take]; done) | (simp only [List.length_drop, List.length_take]; rfl)) ?_; (with_reducible refine (chatelaineref24_get.calls k _ _ (((rd_L2 l0 0).take 20).drop 18) t193 _ ?side1 ?side2 A8.out).mono ?_); (case side1 => repeat (first | exact HR192.out | (with_reducible refine Kd.C_alloc ?_ _) | (with_reducible refine Kd.C_drewN ?_ _) | (with_reducible refine Kd.C_drew ?_))); (case side2 => exact HC192.out); rintro e w' ⟨rfl, ⟨nd, rfl⟩⟩; (try first | exact ⟨rfl, _, World.drewN_drewN _ _ _⟩ | exact ⟨rfl, _, Eq.trans (World.drewN_drewN _ _ _) (congrArg (World.drewN _) (Nat.add_assoc _ _ _))⟩))))
          go_loopg [10, 11] k (fun kq v10 v11 w' => ∃ (x10_1 : List Int) (x11_1 : Int), v11 = .int .i64 x11_1 ∧ Aside0 (chatelaineref24_Frame.l0 kq l0 a1 a2 t193 x10_1 x11_1 = some (r1, r2, r3)) ∧ Aside0 (kq ≤ k) ∧ Aside0 (Kd.R (Kd.int .u8) 5 w' w.heap.size (fun _ => True) v10 x10_1) ∧ Aside0 (Below w.heap.size w w'))
          case atStart => exact ⟨(([] : List Int)), (0), (by first | rfl | (simp; done) | (simp [*]; done)), H', ⟨Nat.le_refl _⟩, ⟨by first | exact Kd.R_nil _ _ _ _ _ | exact Kd.N_nil _ _ _ _ _ | exact Kd.V_nil _ _ _ _ _ | exact Kd.Q_nil _ _ _ _ _ | exact Kd.S_nil _ _ _ _ _⟩, ⟨by repeat (first | (with_reducible first | exact HB.out | apply below_alloc | apply pw_below_drewN | apply below_drew1) | exact HB.out)⟩⟩
          case round =>
            clear H'
            try clear c1
            try clear p1
            try clear q1
            try clear hx1
            try clear qi1
            try clear p2
            try clear c4
            try clear c4b0
            try clear c4b1
            try clear c4b2
            try clear c5
            try clear c5b0
            try clear c5b1
            try clear c6
            try clear c6b0
            try clear c6b1
            try clear c7
            try clear c7b0
            try clear c7b1
            try clear hx191_0
            try clear p191
            try clear q191
            obtain ⟨x10_1, x11_1, rfl, HA, HK1, HO_10, HB⟩ := hrel
            cases gk with
            | zero => exact absurd HA.out (by simp [chatelaineref24_Frame.l0])
            | succ k1 =>
              have H := HA.out
              clear HA
              simp only [chatelaineref24_Frame.l0] at H
              by_cases c10 : x11_1 < t193
              · rw [if_pos c10] at H
                have c10b0 : decide (x11_1 < t193) = true := decide_eq_true c10
                clear c10
                by_cases c11 : x11_1 ≥ (l0.length : Int)
                · rw [if_pos c11] at H
                  have c11b0 : decide ((l0.length : Int) ≤ x11_1) = true := decide_eq_true c11
                  clear c11
                  simp only [Option.some.injEq, Prod.mk.injEq] at H
                  obtain ⟨rfl, rfl, rfl⟩ := H
                  go_wp2
                  repeat (go_quiet (fail); try go_wp2)
                  go_ret3
                  exact ⟨_, by first | rfl | (simp [errW_none, errW_some] <;> rfl) | (simp [*, errW_none, errW_some] <;> rfl), by first | exact Kd.R_nil _ _ _ _ _ | exact Kd.N_nil _ _ _ _ _ | exact Kd.V_nil _ _ _ _ _ | exact Kd.Q_nil _ _ _ _ _ | exact Kd.S_nil _ _ _ _ _, by repeat (first | (with_reducible first | exact HB.out | apply below_alloc | apply pw_below_drewN | apply below_drew1) | exact HB.out)⟩
                · rw [if_neg c11] at H
                  have c11b0 : decide ((l0.length : Int) ≤ x11_1) = false := decide_eq_false c11
                  clear c11
                  by_cases c12 : 0 ≤ x11_1
                  · rw [if_pos c12] at H
                    have c12b0 : decide (0 ≤ x11_1) = true := decide_eq_true c12
                    clear c12
                    by_cases c13 : x11_1 < (l0.length : Int)
                    · rw [if_pos c13] at H
                      have c13b0 : decide (x11_1 < (l0.length : Int)) = true := decide_eq_true c13
                      clear c13
                      by_cases c14 : 20 ≤ 22
                      · rw [if_pos c14] at H
                        have c14b0 := eq_true c14
                        have c14b1 : decide (20 ≤ 22) = true := decide_eq_true c14
                        clear c14
                        by_cases c15 : 22 ≤ ((rd_L2 l0 x11_1).length : Int)
                        · rw [if_pos c15] at H
                          have c15b0 := eq_true c15
                          have c15b1 : decide (22 ≤ ((rd_L2 l0 x11_1).length : Int)) = true := decide_eq_true c15
                          clear c15
                          replace H := Option.bind_eq_some_iff.mp H
                          obtain ⟨t196, A160, H⟩ := H
                          replace H : (if t196 > 488 then (some (([] : List Int), 0, false)) else (if 24 ≤ (wrap64 (24 + t196)) then (if (wrap64 (24 + t196)) ≤ ((rd_L2 l0 x11_1).length : Int) then (if x10_1.length + (((rd_L2 l0 x11_1).take ((wrap64 (24 + t196)) : Int).toNat).drop 24).length < 140737488355328 then (chatelaineref24_Frame.l0 k1 l0 a1 a2 t193 (x10_1 ++ (((rd_L2 l0 x11_1).take ((wrap64 (24 + t196)) : Int).toNat).drop 24)) (wrap64 (x11_1 + 1))) else (none)) else (none)) else (none))) = some (r1, r2, r3) := H
                          have A16 := Aside0.mk A160
                          clear A160
                          by_cases c17 : t196 > 488
                          · rw [if_pos c17] at H
                            have c17b0 : decide (488 < t196) = true := decide_eq_true c17
                            clear c17
                            simp only [Option.some.injEq, Prod.mk.injEq] at H
                            obtain ⟨rfl, rfl, rfl⟩ := H
                            have p194 : 0 ≤ (x11_1 : Int) := of_decide_eq_true (by first | (with_reducible assumption) | assumption)
                            have q194 : x11_1 < (l0.length : Int) := of_decide_eq_true (by first | (with_reducible assumption) | assumption)
                            obtain ⟨ad194, A194_0, c194_0, e194, hx194_0, hl194_0, hi194_0⟩ := at_L2 HR0.out x11_1 p194 q194
                            obtain rfl : ad191 = ad194 := (by injection e194)
                            replace hx194_0 := (HB.out.cell (World.block_lt_of_cell? w _ hx194_0)).trans hx194_0
                            have HR194_0 := Aside0.mk hi194_0
                            have HC194_0 := Aside0.mk hl194_0
                            clear hi194_0 hl194_0
                            replace p194 := eq_true p194
                            replace q194 := eq_true q194
                            obtain ⟨i018, hi018, _, hsz18, _⟩ := info_parts info5
                            obtain ⟨A18, hcut18, hA18, hC18⟩ := print_mid_of (P := Try.prog) (Value.int .u8) 0 27 5 .i64 .i64 Try.underlying27 hi018 hsz18 A194_0 c194_0 (rd_L2 l0 x11_1) 20 22 (by omega) (by first | omega | exact of_decide_eq_true (by first | (with_reducible assumption) | assumption)) (of_decide_eq_true (by first | (with_reducible assumption) | assumption)) HC194_0.out
                            have HR195 := Aside0.mk (Kd.C_of_reads (h1 := fun _ => rfl) (hA18 _ (Kd.reads_of_C HR194_0.out)))
                            have HC195 := Aside0.mk hC18
                            clear hA18 hC18 hi018 hsz18
                            go_wp2_with (first | (go_at_call 32; refine calls_of_args (args' := #[.slice A18 (((rd_L2 l0 x11_1).take 22).drop 20).length (c194_0 - 20)]) (by first | (rw [show (((rd_L2 l0 x11_1).take 22).drop 20).length = (22 - 20) from (by rw [List.length_drop, List.length_take]; have h_ : (22 : Int) ≤ ((rd_L2 l0 x11_1).length : Int) := of_decide_eq_true (by first | (with_reducible assumption) | assumption); omega)] <;> rfl) | rfl | (simp only [List.length_drop, List.length_take]; done) | (simp only [List.length_drop, List.length_take]; rfl)) ?_; (with_reducible refine (chatelaineref24_get.calls k1 _ _ (((rd_L2 l0 x11_1).take 22).drop 20) t196 _ ?side1 ?side2 A16.out).mono ?_); (case side1 => repeat (first | exact (Kd.C_below HR195.out HB.out) | (with_reducible refine Kd.C_alloc ?_ _) | (with_reducible refine Kd.C_drewN ?_ _) | (with_reducible refine Kd.C_drew ?_))); (case side2 => exact HC195.out); rintro e w' ⟨rfl, ⟨nd, rfl⟩⟩; (try first | exact ⟨rfl, _, World.drewN_drewN _ _ _⟩ | exact ⟨rfl, _, Eq.trans (World.drewN_drewN _ _ _) (congrArg (World.drewN _) (Nat.add_assoc _ _ _))⟩)))
                            repeat (go_quiet (first | (go_at_call 32; refine calls_of_args (args' := #[.slice A18 (((rd_L2 l0 x11_1).take 22).drop 20).length (c194_0 - 20)]) (by first | (rw [show (((rd_L2 l0 x11_1).take 22).drop 20).length = (22 - 20) from (by rw [List.length_drop, List.length_take]; have h_ : (22 : Int) ≤ ((rd_L2 l0 x11_1).length : Int) := of_decide_eq_true (by first | (with_reducible assumption) | assumption); omega)] <;> rfl) | rfl | (simp only [List.length_drop, List.length_take]; done) | (simp only [List.length_drop, List.length_take]; rfl)) ?_; (with_reducible refine (chatelaineref24_get.calls k1 _ _ (((rd_L2 l0 x11_1).take 22).drop 20) t196 _ ?side1 ?side2 A16.out).mono ?_); (case side1 => repeat (first | exact (Kd.C_below HR195.out HB.out) | (with_reducible refine Kd.C_alloc ?_ _) | (with_reducible refine Kd.C_drewN ?_ _) | (with_reducible refine Kd.C_drew ?_))); (case side2 => exact HC195.out); rintro e w' ⟨rfl, ⟨nd, rfl⟩⟩; (try first | exact ⟨rfl, _, World.drewN_drewN _ _ _⟩ | exact ⟨rfl, _, Eq.trans (World.drewN_drewN _ _ _) (congrArg (World.drewN _) (Nat.add_assoc _ _ _))⟩))); try go_wp2_with (first | (go_at_call 32; refine calls_of_args (args' := #[.slice A18 (((rd_L2 l0 x11_1).take 22).drop 20).length (c194_0 - 20)]) (by first | (rw [show (((rd_L2 l0 x11_1).take 22).drop 20).length = (22 - 20) from (by rw [List.length_drop, List.length_take]; have h_ : (22 : Int) ≤ ((rd_L2 l0 x11_1).length : Int) := of_decide_eq_true (by first | (with_reducible assumption) | assumption); omega)] <;> rfl) | rfl | (simp only [List.length_drop, List.length_take]; done) | (simp only [List.length_drop, List.length_take]; rfl)) ?_; (with_reducible refine (chatelaineref24_get.calls k1 _ _ (((rd_L2 l0 x11_1).take 22).drop 20) t196 _ ?side1 ?side2 A16.out).mono ?_); (case side1 => repeat (first | exact (Kd.C_below HR195.out HB.out) | (with_reducible refine Kd.C_alloc ?_ _) | (with_reducible refine Kd.C_drewN ?_ _) | (with_reducible refine Kd.C_drew ?_))); (case side2 => exact HC195.out); rintro e w' ⟨rfl, ⟨nd, rfl⟩⟩; (try first | exact ⟨rfl, _, World.drewN_drewN _ _ _⟩ | exact ⟨rfl, _, Eq.trans (World.drewN_drewN _ _ _) (congrArg (World.drewN _) (Nat.add_assoc _ _ _))⟩))))
                            go_ret3
                            exact ⟨_, by first | rfl | (simp [errW_none, errW_some] <;> rfl) | (simp [*, errW_none, errW_some] <;> rfl), by first | exact Kd.R_nil _ _ _ _ _ | exact Kd.N_nil _ _ _ _ _ | exact Kd.V_nil _ _ _ _ _ | exact Kd.Q_nil _ _ _ _ _ | exact Kd.S_nil _ _ _ _ _, by repeat (first | (with_reducible first | exact HB.out | apply below_alloc | apply pw_below_drewN | apply below_drew1) | exact HB.out)⟩
                          · rw [if_neg c17] at H
                            have c17b0 : decide (488 < t196) = false := decide_eq_false c17
                            clear c17
                            by_cases c19 : 24 ≤ (wrap64 (24 + t196))
                            · rw [if_pos c19] at H
                              have c19b0 := eq_true c19
                              have c19b1 : decide (24 ≤ (wrap64 (24 + t196))) = true := decide_eq_true c19
                              by_cases c20 : (wrap64 (24 + t196)) ≤ ((rd_L2 l0 x11_1).length : Int)
                              · rw [if_pos c20] at H
                                have c20b0 := eq_true c20
                                have c20b1 : decide ((wrap64 (24 + t196)) ≤ ((rd_L2 l0 x11_1).length : Int)) = true := decide_eq_true c20
                                by_cases c21 : x10_1.length + (((rd_L2 l0 x11_1).take ((wrap64 (24 + t196)) : Int).toNat).drop 24).length < 140737488355328
                                · rw [if_pos c21] at H
                                  have LMc21 := Aside0.mk c21
                                  clear c21
                                  obtain ⟨y199, hy199⟩ : ∃ y_ : List Int, y_ = (x10_1 ++ (((rd_L2 l0 x11_1).take ((wrap64 (24 + t196)) : Int).toNat).drop 24)) := ⟨_, rfl⟩
                                  replace H : (chatelaineref24_Frame.l0 k1 l0 a1 a2 t193 y199 (wrap64 (x11_1 + 1))) = some (r1, r2, r3) := by first | (rw [hy199]; with_reducible exact H) | (have H2_ := (Option.bind_some _ _).symm.trans H; rw [hy199]; with_reducible exact H2_) | (have H2_ := (Option.bind_some _ _).symm.trans H; with_reducible exact H2_) | with_reducible exact H | (rw [hy199]; exact H) | exact H
                                  have Ny199 := Aside0.mk hy199
                                  clear hy199
                                  have H' := Aside0.mk H
                                  clear H
                                  have p194 : 0 ≤ (x11_1 : Int) := of_decide_eq_true (by first | (with_reducible assumption) | assumption)
                                  have q194 : x11_1 < (l0.length : Int) := of_decide_eq_true (by first | (with_reducible assumption) | assumption)
                                  obtain ⟨ad194, A194_0, c194_0, e194, hx194_0, hl194_0, hi194_0⟩ := at_L2 HR0.out x11_1 p194 q194
                                  obtain rfl : ad191 = ad194 := (by injection e194)
                                  replace hx194_0 := (HB.out.cell (World.block_lt_of_cell? w _ hx194_0)).trans hx194_0
                                  have HR194_0 := Aside0.mk hi194_0
                                  have HC194_0 := Aside0.mk hl194_0
                                  clear hi194_0 hl194_0
                                  replace p194 := eq_true p194
                                  replace q194 := eq_true q194
                                  obtain ⟨i022, hi022, _, hsz22, _⟩ := info_parts info5
                                  obtain ⟨A22, hcut22, hA22, hC22⟩ := print_mid_of (P := Try.prog) (Value.int .u8) 0 27 5 .i64 .i64 Try.underlying27 hi022 hsz22 A194_0 c194_0 (rd_L2 l0 x11_1) 20 22 (by omega) (by first | omega | exact of_decide_eq_true (by first | (with_reducible assumption) | assumption)) (of_decide_eq_true (by first | (with_reducible assumption) | assumption)) HC194_0.out
                                  have HR195 := Aside0.mk (Kd.C_of_reads (h1 := fun _ => rfl) (hA22 _ (Kd.reads_of_C HR194_0.out)))
                                  have HC195 := Aside0.mk hC22
                                  clear hA22 hC22 hi022 hsz22
                                  go_wp2_with (first | (go_at_call 32; refine calls_of_args (args' := #[.slice A22 (((rd_L2 l0 x11_1).take 22).drop 20).length (c194_0 - 20)]) (by first | (rw [show (((rd_L2 l0 x11_1).take 22).drop 20).length = (22 - 20) from (by rw [List.length_drop, List.length_take]; have h_ : (22 : Int) ≤ ((rd_L2 l0 x11_1).length : Int) := of_decide_eq_true (by first | (with_reducible assumption) | assumption); omega)] <;> rfl) | rfl | (simp only [List.length_drop, List.length_take]; done) | (simp only [List.length_drop, List.length_take]; rfl)) ?_; (with_reducible refine (chatelaineref24_get.calls k1 _ _ (((rd_L2 l0 x11_1).take 22).drop 20) t196 _ ?side1 ?side2 A16.out).mono ?_); (case side1 => repeat (first | exact (Kd.C_below HR195.out HB.out) | (with_reducible refine Kd.C_alloc ?_ _) | (with_reducible refine Kd.C_drewN ?_ _) | (with_reducible refine Kd.C_drew ?_))); (case side2 => exact HC195.out); rintro e w' ⟨rfl, ⟨nd, rfl⟩⟩; (try first | exact ⟨rfl, _, World.drewN_drewN _ _ _⟩ | exact ⟨rfl, _, Eq.trans (World.drewN_drewN _ _ _) (congrArg (World.drewN _) (Nat.add_assoc _ _ _))⟩); have p197 : 0 ≤ (x11_1 : Int) := of_decide_eq_true (by first | (with_reducible assumption) | assumption); have q197 : x11_1 < (l0.length : Int) := of_decide_eq_true (by first | (with_reducible assumption) | assumption); obtain ⟨ad197, A197_0, c197_0, e197, hx197_0, hl197_0, hi197_0⟩ := at_L2 HR0.out x11_1 p197 q197; obtain rfl : ad191 = ad197 := (by injection e197); replace hx197_0 := (HB.out.cell (World.block_lt_of_cell? w _ hx197_0)).trans hx197_0; have HR197_0 := Aside0.mk hi197_0; have HC197_0 := Aside0.mk hl197_0; clear hi197_0 hl197_0; replace p197 := eq_true p197; replace q197 := eq_true q197; have ea_ := Option.some.inj (hx194_0.symm.trans hx197_0); injection ea_ with ea_ en_ ec_; subst ea_; subst ec_; clear en_; obtain ⟨i023, hi023, _, hsz23, _⟩ := info_parts info5; obtain ⟨A23, hcut23, hA23, hC23⟩ := print_mid_of (P := Try.prog) (Value.int .u8) 0 27 5 .i64 .i64 Try.underlying27 hi023 hsz23 A194_0 c194_0 (rd_L2 l0 x11_1) 24 (wrap64 (24 + t196)) (by omega) (by first | omega | exact of_decide_eq_true (by first | (with_reducible assumption) | assumption)) (of_decide_eq_true (by first | (with_reducible assumption) | assumption)) HC197_0.out; have HR198 := Aside0.mk (Kd.C_of_reads (h1 := fun _ => rfl) (hA23 _ (Kd.reads_of_C HR197_0.out))); have HC198 := Aside0.mk hC23; clear hA23 hC23 hi023 hsz23) | ((with_reducible refine gate_builtin (b := .append) (xs := #[.tmp 40, .tmp 47]) rfl ?_); at_builtin; refine Kd.R_append_rows (Kd.int .u8) (w0 := w) w.heap.size rfl (.tmp 40) (.tmp 47) 27 5 (.int .u8 0) 1 rfl Try.underlying27 info5 rfl (by decide) (by omega) u10 x10_1 (((rd_L2 l0 x11_1).take ((wrap64 (24 + t196)) : Int).toNat).drop 24) _ _ _ (fun _ => True) (fun _ => False) rfl rfl ?aO ?aR (fun _ _ h => h) (fun _ h => h.elim) ?aF ?aB ?aS ?aL ?_; (case aR => first | (rw [← show (((rd_L2 l0 x11_1).take ((wrap64 (24 + t196)) : Int).toNat).drop 24).length = ((wrap64 (24 + t196)).toNat - 24) from (by rw [List.length_drop, List.length_take]; have h_ : ((wrap64 (24 + t196)) : Int) ≤ ((rd_L2 l0 x11_1).length : Int) := of_decide_eq_true (by first | (with_reducible assumption) | assumption); omega)]; repeat (first | exact (Kd.C_below HR198.out (by repeat (first | (with_reducible first | exact HB.out | apply below_alloc | apply pw_below_drewN | apply below_drew1) | exact HB.out))) | (with_reducible refine Kd.C_alloc ?_ _) | (with_reducible refine Kd.C_drewN ?_ _) | (with_reducible refine Kd.C_drew ?_))) | (repeat (first | exact (Kd.C_below HR198.out (by repeat (first | (with_reducible first | exact HB.out | apply below_alloc | apply pw_below_drewN | apply below_drew1) | exact HB.out))) | (with_reducible refine Kd.C_alloc ?_ _) | (with_reducible refine Kd.C_drewN ?_ _) | (with_reducible refine Kd.C_drew ?_)))); (case aB => exact (by repeat (first | (with_reducible first | exact HB.out | apply below_alloc | apply pw_below_drewN | apply below_drew1) | exact HB.out))); (case aF => exact (fun _ _ => trivial)); (case aO => exact (by (with_reducible repeat (first | apply Kd.R_alloc | apply Kd.R_drewN | apply Kd.R_drew)); exact HO_10.out)); (case aS => exact (below_size (by repeat (first | (with_reducible first | exact HB.out | apply below_alloc | apply pw_below_drewN | apply below_drew1) | exact HB.out)))); (case aL => have := LMc21.out; have hlx_ := (show (((rd_L2 l0 x11_1).take ((wrap64 (24 + t196)) : Int).toNat).drop 24).length = ((wrap64 (24 + t196)).toNat - 24) from (by rw [List.length_drop, List.length_take]; have h_ : ((wrap64 (24 + t196)) : Int) ≤ ((rd_L2 l0 x11_1).length : Int) := of_decide_eq_true (by first | (with_reducible assumption) | assumption); omega)); omega); intro v200 w24 ho hb hg hat; rw [← Ny199.out] at ho; have n0_ := Aside0.mk (hb); have n1_ := Aside0.mk (ho); clear HB; clear HO_10; have HB := n0_; have HO201 := n1_; clear n0_ n1_; clear ho hb hg hat))
                                  repeat (go_quiet (first | (go_at_call 32; refine calls_of_args (args' := #[.slice A22 (((rd_L2 l0 x11_1).take 22).drop 20).length (c194_0 - 20)]) (by first | (rw [show (((rd_L2 l0 x11_1).take 22).drop 20).length = (22 - 20) from (by rw [List.length_drop, List.length_take]; have h_ : (22 : Int) ≤ ((rd_L2 l0 x11_1).length : Int) := of_decide_eq_true (by first | (with_reducible assumption) | assumption); omega)] <;> rfl) | rfl | (simp only [List.length_drop, List.length_take]; done) | (simp only [List.length_drop, List.length_take]; rfl)) ?_; (with_reducible refine (chatelaineref24_get.calls k1 _ _ (((rd_L2 l0 x11_1).take 22).drop 20) t196 _ ?side1 ?side2 A16.out).mono ?_); (case side1 => repeat (first | exact (Kd.C_below HR195.out HB.out) | (with_reducible refine Kd.C_alloc ?_ _) | (with_reducible refine Kd.C_drewN ?_ _) | (with_reducible refine Kd.C_drew ?_))); (case side2 => exact HC195.out); rintro e w' ⟨rfl, ⟨nd, rfl⟩⟩; (try first | exact ⟨rfl, _, World.drewN_drewN _ _ _⟩ | exact ⟨rfl, _, Eq.trans (World.drewN_drewN _ _ _) (congrArg (World.drewN _) (Nat.add_assoc _ _ _))⟩); have p197 : 0 ≤ (x11_1 : Int) := of_decide_eq_true (by first | (with_reducible assumption) | assumption); have q197 : x11_1 < (l0.length : Int) := of_decide_eq_true (by first | (with_reducible assumption) | assumption); obtain ⟨ad197, A197_0, c197_0, e197, hx197_0, hl197_0, hi197_0⟩ := at_L2 HR0.out x11_1 p197 q197; obtain rfl : ad191 = ad197 := (by injection e197); replace hx197_0 := (HB.out.cell (World.block_lt_of_cell? w _ hx197_0)).trans hx197_0; have HR197_0 := Aside0.mk hi197_0; have HC197_0 := Aside0.mk hl197_0; clear hi197_0 hl197_0; replace p197 := eq_true p197; replace q197 := eq_true q197; have ea_ := Option.some.inj (hx194_0.symm.trans hx197_0); injection ea_ with ea_ en_ ec_; subst ea_; subst ec_; clear en_; obtain ⟨i023, hi023, _, hsz23, _⟩ := info_parts info5; obtain ⟨A23, hcut23, hA23, hC23⟩ := print_mid_of (P := Try.prog) (Value.int .u8) 0 27 5 .i64 .i64 Try.underlying27 hi023 hsz23 A194_0 c194_0 (rd_L2 l0 x11_1) 24 (wrap64 (24 + t196)) (by omega) (by first | omega | exact of_decide_eq_true (by first | (with_reducible assumption) | assumption)) (of_decide_eq_true (by first | (with_reducible assumption) | assumption)) HC197_0.out; have HR198 := Aside0.mk (Kd.C_of_reads (h1 := fun _ => rfl) (hA23 _ (Kd.reads_of_C HR197_0.out))); have HC198 := Aside0.mk hC23; clear hA23 hC23 hi023 hsz23) | ((with_reducible refine gate_builtin (b := .append) (xs := #[.tmp 40, .tmp 47]) rfl ?_); at_builtin; refine Kd.R_append_rows (Kd.int .u8) (w0 := w) w.heap.size rfl (.tmp 40) (.tmp 47) 27 5 (.int .u8 0) 1 rfl Try.underlying27 info5 rfl (by decide) (by omega) u10 x10_1 (((rd_L2 l0 x11_1).take ((wrap64 (24 + t196)) : Int).toNat).drop 24) _ _ _ (fun _ => True) (fun _ => False) rfl rfl ?aO ?aR (fun _ _ h => h) (fun _ h => h.elim) ?aF ?aB ?aS ?aL ?_; (case aR => first | (rw [← show (((rd_L2 l0 x11_1).take ((wrap64 (24 + t196)) : Int).toNat).drop 24).length = ((wrap64 (24 + t196)).toNat - 24) from (by rw [List.length_drop, List.length_take]; have h_ : ((wrap64 (24 + t196)) : Int) ≤ ((rd_L2 l0 x11_1).length : Int) := of_decide_eq_true (by first | (with_reducible assumption) | assumption); omega)]; repeat (first | exact (Kd.C_below HR198.out (by repeat (first | (with_reducible first | exact HB.out | apply below_alloc | apply pw_below_drewN | apply below_drew1) | exact HB.out))) | (with_reducible refine Kd.C_alloc ?_ _) | (with_reducible refine Kd.C_drewN ?_ _) | (with_reducible refine Kd.C_drew ?_))) | (repeat (first | exact (Kd.C_below HR198.out (by repeat (first | (with_reducible first | exact HB.out | apply below_alloc | apply pw_below_drewN | apply below_drew1) | exact HB.out))) | (with_reducible refine Kd.C_alloc ?_ _) | (with_reducible refine Kd.C_drewN ?_ _) | (with_reducible refine Kd.C_drew ?_)))); (case aB => exact (by repeat (first | (with_reducible first | exact HB.out | apply below_alloc | apply pw_below_drewN | apply below_drew1) | exact HB.out))); (case aF => exact (fun _ _ => trivial)); (case aO => exact (by (with_reducible repeat (first | apply Kd.R_alloc | apply Kd.R_drewN | apply Kd.R_drew)); exact HO_10.out)); (case aS => exact (below_size (by repeat (first | (with_reducible first | exact HB.out | apply below_alloc | apply pw_below_drewN | apply below_drew1) | exact HB.out)))); (case aL => have := LMc21.out; have hlx_ := (show (((rd_L2 l0 x11_1).take ((wrap64 (24 + t196)) : Int).toNat).drop 24).length = ((wrap64 (24 + t196)).toNat - 24) from (by rw [List.length_drop, List.length_take]; have h_ : ((wrap64 (24 + t196)) : Int) ≤ ((rd_L2 l0 x11_1).length : Int) := of_decide_eq_true (by first | (with_reducible assumption) | assumption); omega)); omega); intro v200 w24 ho hb hg hat; rw [← Ny199.out] at ho; have n0_ := Aside0.mk (hb); have n1_ := Aside0.mk (ho); clear HB; clear HO_10; have HB := n0_; have HO201 := n1_; clear n0_ n1_; clear ho hb hg hat)); try go_wp2_with (first | (go_at_call 32; refine calls_of_args (args' := #[.slice A22 (((rd_L2 l0 x11_1).take 22).drop 20).length (c194_0 - 20)]) (by first | (rw [show (((rd_L2 l0 x11_1).take 22).drop 20).length = (22 - 20) from (by rw [List.length_drop, List.length_take]; have h_ : (22 : Int) ≤ ((rd_L2 l0 x11_1).length : Int) := of_decide_eq_true (by first | (with_reducible assumption) | assumption); omega)] <;> rfl) | rfl | (simp only [List.length_drop, List.length_take]; done) | (simp only [List.length_drop, List.length_take]; rfl)) ?_; (with_reducible refine (chatelaineref24_get.calls k1 _ _ (((rd_L2 l0 x11_1).take 22).drop 20) t196 _ ?side1 ?side2 A16.out).mono ?_); (case side1 => repeat (first | exact (Kd.C_below HR195.out HB.out) | (with_reducible refine Kd.C_alloc ?_ _) | (with_reducible refine Kd.C_drewN ?_ _) | (with_reducible refine Kd.C_drew ?_))); (case side2 => exact HC195.out); rintro e w' ⟨rfl, ⟨nd, rfl⟩⟩; (try first | exact ⟨rfl, _, World.drewN_drewN _ _ _⟩ | exact ⟨rfl, _, Eq.trans (World.drewN_drewN _ _ _) (congrArg (World.drewN _) (Nat.add_assoc _ _ _))⟩); have p197 : 0 ≤ (x11_1 : Int) := of_decide_eq_true (by first | (with_reducible assumption) | assumption); have q197 : x11_1 < (l0.length : Int) := of_decide_eq_true (by first | (with_reducible assumption) | assumption); obtain ⟨ad197, A197_0, c197_0, e197, hx197_0, hl197_0, hi197_0⟩ := at_L2 HR0.out x11_1 p197 q197; obtain rfl : ad191 = ad197 := (by injection e197); replace hx197_0 := (HB.out.cell (World.block_lt_of_cell? w _ hx197_0)).trans hx197_0; have HR197_0 := Aside0.mk hi197_0; have HC197_0 := Aside0.mk hl197_0; clear hi197_0 hl197_0; replace p197 := eq_true p197; replace q197 := eq_true q197; have ea_ := Option.some.inj (hx194_0.symm.trans hx197_0); injection ea_ with ea_ en_ ec_; subst ea_; subst ec_; clear en_; obtain ⟨i023, hi023, _, hsz23, _⟩ := info_parts info5; obtain ⟨A23, hcut23, hA23, hC23⟩ := print_mid_of (P := Try.prog) (Value.int .u8) 0 27 5 .i64 .i64 Try.underlying27 hi023 hsz23 A194_0 c194_0 (rd_L2 l0 x11_1) 24 (wrap64 (24 + t196)) (by omega) (by first | omega | exact of_decide_eq_true (by first | (with_reducible assumption) | assumption)) (of_decide_eq_true (by first | (with_reducible assumption) | assumption)) HC197_0.out; have HR198 := Aside0.mk (Kd.C_of_reads (h1 := fun _ => rfl) (hA23 _ (Kd.reads_of_C HR197_0.out))); have HC198 := Aside0.mk hC23; clear hA23 hC23 hi023 hsz23) | ((with_reducible refine gate_builtin (b := .append) (xs := #[.tmp 40, .tmp 47]) rfl ?_); at_builtin; refine Kd.R_append_rows (Kd.int .u8) (w0 := w) w.heap.size rfl (.tmp 40) (.tmp 47) 27 5 (.int .u8 0) 1 rfl Try.underlying27 info5 rfl (by decide) (by omega) u10 x10_1 (((rd_L2 l0 x11_1).take ((wrap64 (24 + t196)) : Int).toNat).drop 24) _ _ _ (fun _ => True) (fun _ => False) rfl rfl ?aO ?aR (fun _ _ h => h) (fun _ h => h.elim) ?aF ?aB ?aS ?aL ?_; (case aR => first | (rw [← show (((rd_L2 l0 x11_1).take ((wrap64 (24 + t196)) : Int).toNat).drop 24).length = ((wrap64 (24 + t196)).toNat - 24) from (by rw [List.length_drop, List.length_take]; have h_ : ((wrap64 (24 + t196)) : Int) ≤ ((rd_L2 l0 x11_1).length : Int) := of_decide_eq_true (by first | (with_reducible assumption) | assumption); omega)]; repeat (first | exact (Kd.C_below HR198.out (by repeat (first | (with_reducible first | exact HB.out | apply below_alloc | apply pw_below_drewN | apply below_drew1) | exact HB.out))) | (with_reducible refine Kd.C_alloc ?_ _) | (with_reducible refine Kd.C_drewN ?_ _) | (with_reducible refine Kd.C_drew ?_))) | (repeat (first | exact (Kd.C_below HR198.out (by repeat (first | (with_reducible first | exact HB.out | apply below_alloc | apply pw_below_drewN | apply below_drew1) | exact HB.out))) | (with_reducible refine Kd.C_alloc ?_ _) | (with_reducible refine Kd.C_drewN ?_ _) | (with_reducible refine Kd.C_drew ?_)))); (case aB => exact (by repeat (first | (with_reducible first | exact HB.out | apply below_alloc | apply pw_below_drewN | apply below_drew1) | exact HB.out))); (case aF => exact (fun _ _ => trivial)); (case aO => exact (by (with_reducible repeat (first | apply Kd.R_alloc | apply Kd.R_drewN | apply Kd.R_drew)); exact HO_10.out)); (case aS => exact (below_size (by repeat (first | (with_reducible first | exact HB.out | apply below_alloc | apply pw_below_drewN | apply below_drew1) | exact HB.out)))); (case aL => have := LMc21.out; have hlx_ := (show (((rd_L2 l0 x11_1).take ((wrap64 (24 + t196)) : Int).toNat).drop 24).length = ((wrap64 (24 + t196)).toNat - 24) from (by rw [List.length_drop, List.length_take]; have h_ : ((wrap64 (24 + t196)) : Int) ≤ ((rd_L2 l0 x11_1).length : Int) := of_decide_eq_true (by first | (with_reducible assumption) | assumption); omega)); omega); intro v200 w24 ho hb hg hat; rw [← Ny199.out] at ho; have n0_ := Aside0.mk (hb); have n1_ := Aside0.mk (ho); clear HB; clear HO_10; have HB := n0_; have HO201 := n1_; clear n0_ n1_; clear ho hb hg hat)))
                                  go_roundg k1
                                  case measure => have := HK1.out; omega
                                  case rel => exact ⟨(y199), (wrap64 (x11_1 + 1)), (by first | rfl | (simp; done) | (simp [*]; done)), H', ⟨by have := HK1.out; omega⟩, ⟨by (with_reducible repeat (first | apply Kd.R_alloc | apply Kd.R_drewN | apply Kd.R_drew)); exact HO201.out⟩, ⟨by repeat (first | (with_reducible first | exact HB.out | apply below_alloc | apply pw_below_drewN | apply below_drew1) | exact HB.out)⟩⟩
                                · rw [if_neg c21] at H
                                  exact absurd H (by simp)
                              · rw [if_neg c20] at H
                                exact absurd H (by simp)
                            · rw [if_neg c19] at H
                              exact absurd H (by simp)
                        · rw [if_neg c15] at H
                          exact absurd H (by simp)
                      · rw [if_neg c14] at H
                        exact absurd H (by simp)
                    · rw [if_neg c13] at H
                      exact absurd H (by simp)
                  · rw [if_neg c12] at H
                    exact absurd H (by simp)
              · rw [if_neg c10] at H
                have c10b0 : decide (x11_1 < t193) = false := decide_eq_false c10
                clear c10
                replace H := Option.bind_eq_some_iff.mp H
                obtain ⟨t202, A250, H⟩ := H
                replace H : (chatelaineref24_Frame.l1 k1 l0 t193 x10_1 t202 0) = some (r1, r2, r3) := H
                have A25 := Aside0.mk A250
                clear A250
                have H' := Aside0.mk H
                clear H
                obtain ⟨Ao26, co26, eo26⟩ := Kd.R_slice HO_10.out
                subst eo26
                go_wp2_with (first | (go_at_call 33; (with_reducible refine (chatelaineref24_Blocks.calls k1 a1 a2 _ _ x10_1 t202 _ ?side1 ?side2 A25.out).mono ?_); (case side1 => repeat (first | exact (Kd.R_reads' HO_10.out).2.2 | (with_reducible refine Kd.C_alloc ?_ _) | (with_reducible refine Kd.C_drewN ?_ _) | (with_reducible refine Kd.C_drew ?_))); (case side2 => exact (Kd.R_reads' HO_10.out).2.1); rintro e w27 ⟨v203, rfl, ho0, hb⟩; have n0_ := Aside0.mk (Kd.R_below (by (with_reducible repeat (first | apply Kd.R_alloc | apply Kd.R_drewN | apply Kd.R_drew)); exact HO_10.out) hb); have n1_ := Aside0.mk (Kd.S_lower (Kd.S_new' ho0 (Kd.R_lt (by (with_reducible repeat (first | apply Kd.R_alloc | apply Kd.R_drewN | apply Kd.R_drew)); exact HO_10.out))) (below_size (by repeat (first | (with_reducible first | exact HB.out | apply below_alloc | apply pw_below_drewN | apply below_drew1) | exact HB.out)))); have n2_ := Aside0.mk (below_step (by repeat (first | (with_reducible first | exact HB.out | apply below_alloc | apply pw_below_drewN | apply below_drew1) | exact HB.out)) hb); clear HO_10; clear HB; have HO_10 := n0_; have HO204 := n1_; have HB := n2_; clear n0_ n1_ n2_; (try clear hb); (try clear hb2); (try clear hk); (try clear hi); (try clear ho0); (try clear A25)))
                repeat (go_quiet (first | (go_at_call 33; (with_reducible refine (chatelaineref24_Blocks.calls k1 a1 a2 _ _ x10_1 t202 _ ?side1 ?side2 A25.out).mono ?_); (case side1 => repeat (first | exact (Kd.R_reads' HO_10.out).2.2 | (with_reducible refine Kd.C_alloc ?_ _) | (with_reducible refine Kd.C_drewN ?_ _) | (with_reducible refine Kd.C_drew ?_))); (case side2 => exact (Kd.R_reads' HO_10.out).2.1); rintro e w27 ⟨v203, rfl, ho0, hb⟩; have n0_ := Aside0.mk (Kd.R_below (by (with_reducible repeat (first | apply Kd.R_alloc | apply Kd.R_drewN | apply Kd.R_drew)); exact HO_10.out) hb); have n1_ := Aside0.mk (Kd.S_lower (Kd.S_new' ho0 (Kd.R_lt (by (with_reducible repeat (first | apply Kd.R_alloc | apply Kd.R_drewN | apply Kd.R_drew)); exact HO_10.out))) (below_size (by repeat (first | (with_reducible first | exact HB.out | apply below_alloc | apply pw_below_drewN | apply below_drew1) | exact HB.out)))); have n2_ := Aside0.mk (below_step (by repeat (first | (with_reducible first | exact HB.out | apply below_alloc | apply pw_below_drewN | apply below_drew1) | exact HB.out)) hb); clear HO_10; clear HB; have HO_10 := n0_; have HO204 := n1_; have HB := n2_; clear n0_ n1_ n2_; (try clear hb); (try clear hb2); (try clear hk); (try clear hi); (try clear ho0); (try clear A25))); try go_wp2_with (first | (go_at_call 33; (with_reducible refine (chatelaineref24_Blocks.calls k1 a1 a2 _ _ x10_1 t202 _ ?side1 ?side2 A25.out).mono ?_); (case side1 => repeat (first | exact (Kd.R_reads' HO_10.out).2.2 | (with_reducible refine Kd.C_alloc ?_ _) | (with_reducible refine Kd.C_drewN ?_ _) | (with_reducible refine Kd.C_drew ?_))); (case side2 => exact (Kd.R_reads' HO_10.out).2.1); rintro e w27 ⟨v203, rfl, ho0, hb⟩; have n0_ := Aside0.mk (Kd.R_below (by (with_reducible repeat (first | apply Kd.R_alloc | apply Kd.R_drewN | apply Kd.R_drew)); exact HO_10.out) hb); have n1_ := Aside0.mk (Kd.S_lower (Kd.S_new' ho0 (Kd.R_lt (by (with_reducible repeat (first | apply Kd.R_alloc | apply Kd.R_drewN | apply Kd.R_drew)); exact HO_10.out))) (below_size (by repeat (first | (with_reducible first | exact HB.out | apply below_alloc | apply pw_below_drewN | apply below_drew1) | exact HB.out)))); have n2_ := Aside0.mk (below_step (by repeat (first | (with_reducible first | exact HB.out | apply below_alloc | apply pw_below_drewN | apply below_drew1) | exact HB.out)) hb); clear HO_10; clear HB; have HO_10 := n0_; have HO204 := n1_; have HB := n2_; clear n0_ n1_ n2_; (try clear hb); (try clear hb2); (try clear hk); (try clear hi); (try clear ho0); (try clear A25))))
                go_loopg [14] k1 (fun kq v14 w' => ∃ (x14_2 : Int), v14 = .int .i64 x14_2 ∧ Aside0 (chatelaineref24_Frame.l1 kq l0 t193 x10_1 t202 x14_2 = some (r1, r2, r3)) ∧ Aside0 (kq ≤ k1) ∧ Aside0 (Kd.R (Kd.int .u8) 5 w' w.heap.size (fun _ => True) (.slice Ao26 x10_1.length co26) x10_1) ∧ Aside0 (Kd.S (Kd.slice 5 (Kd.int .u8)) 27 w' w.heap.size (fun k_ => some k_ ≠ ((.slice Ao26 x10_1.length co26) : Value).ownBlock) v203 t202) ∧ Aside0 (Below w.heap.size w w'))
                case atStart => exact ⟨(0), (by first | rfl | (simp; done) | (simp [*]; done)), H', ⟨Nat.le_refl _⟩, ⟨by (with_reducible repeat (first | apply Kd.R_alloc | apply Kd.R_drewN | apply Kd.R_drew)); exact HO_10.out⟩, ⟨by (with_reducible repeat (first | apply Kd.S_alloc | apply Kd.S_drewN | apply Kd.S_drew)); exact Kd.S_mono HO204.out (fun _ hk => hk.2)⟩, ⟨by repeat (first | (with_reducible first | exact HB.out | apply below_alloc | apply pw_below_drewN | apply below_drew1) | exact HB.out)⟩⟩
                case round =>
                  clear H'
                  try clear c1
                  try clear p1
                  try clear q1
                  try clear hx1
                  try clear qi1
                  try clear c2
                  try clear p2
                  try clear c4
                  try clear c4b0
                  try clear c4b1
                  try clear c4b2
                  try clear c5
                  try clear c5b0
                  try clear c5b1
                  try clear c6
                  try clear c6b0
                  try clear c6b1
                  try clear p6
                  try clear c7
                  try clear c7b0
                  try clear c7b1
                  try clear c10
                  try clear c10b0
                  try clear c11
                  try clear c11b0
                  try clear c12
                  try clear c12b0
                  try clear c13
                  try clear c13b0
                  try clear c14
                  try clear c14b0
                  try clear c14b1
                  try clear c15
                  try clear c15b0
                  try clear c15b1
                  try clear c17
                  try clear c17b0
                  try clear c19
                  try clear c19b0
                  try clear c19b1
                  try clear p19
                  try clear q19
                  try clear hx19
                  try clear qi19
                  try clear c20
                  try clear c20b0
                  try clear c20b1
                  try clear c21
                  try clear hx191_0
                  try clear hx194_0
                  try clear hx197_0
                  try clear p1
                  try clear p191
                  try clear p194
                  try clear p197
                  try clear p2
                  try clear q1
                  try clear q191
                  try clear q194
                  try clear q197
                  obtain ⟨x14_2, rfl, HA, HK2, HO_10, HO_13, HB⟩ := hrel
                  cases gk with
                  | zero => exact absurd HA.out (by simp [chatelaineref24_Frame.l1])
                  | succ k2 =>
                    have H := HA.out
                    clear HA
                    simp only [chatelaineref24_Frame.l1] at H
                    by_cases c28 : x14_2 < t193
                    · rw [if_pos c28] at H
                      have c28b0 : decide (x14_2 < t193) = true := decide_eq_true c28
                      clear c28
                      by_cases c29 : (t202.length : Int) = t193
                      · rw [if_pos c29] at H
                        have c29b0 : ((t202.length : Int) == t193) = true := beq_iff_eq.mpr c29
                        have c29b1 : ((t202.length : Int) != t193) = false := bne_eq_false_iff_eq.mpr c29
                        clear c29
                        by_cases c30 : 0 ≤ x14_2
                        · rw [if_pos c30] at H
                          have c30b0 : decide (0 ≤ x14_2) = true := decide_eq_true c30
                          clear c30
                          by_cases c31 : x14_2 < (t202.length : Int)
                          · rw [if_pos c31] at H
                            have c31b0 : decide (x14_2 < (t202.length : Int)) = true := decide_eq_true c31
                            clear c31
                            by_cases c32 : x14_2 < (l0.length : Int)
                            · rw [if_pos c32] at H
                              have c32b0 : decide (x14_2 < (l0.length : Int)) = true := decide_eq_true c32
                              clear c32
                              by_cases c33 : (strOfNums (rd_L2 t202 x14_2)).toList = (strOfNums (rd_L2 l0 x14_2)).toList
                              · rw [if_pos c33] at H
                                have c33b0 : ((strOfNums (rd_L2 t202 x14_2)).toList == (strOfNums (rd_L2 l0 x14_2)).toList) = true := beq_iff_eq.mpr c33
                                have c33b1 : ((strOfNums (rd_L2 t202 x14_2)).toList != (strOfNums (rd_L2 l0 x14_2)).toList) = false := bne_eq_false_iff_eq.mpr c33
                                clear c33
                                have H' := Aside0.mk H
                                clear H
                                obtain ⟨Ao34, co34, eo34⟩ := Kd.S_slice HO_13.out
                                subst eo34
                                have p205 : 0 ≤ (x14_2 : Int) := of_decide_eq_true (by first | (with_reducible assumption) | assumption)
                                have q205 : x14_2 < (t202.length : Int) := of_decide_eq_true (by first | (with_reducible assumption) | assumption)
                                obtain ⟨ad205, A205_0, c205_0, e205, hx205_0, hl205_0, hi205_0⟩ := at_L2 (Kd.S_reads' HO_13.out).2.2 x14_2 p205 q205
                                cases e205
                                obtain ⟨ce205, hce205, hMe205, hcc205⟩ := Kd.S_get HO_13.out [] x14_2 p205 (by first | exact q205 | exact of_decide_eq_true (by first | (with_reducible assumption) | assumption) | (have e_ := (Kd.S_reads' HO_13.out).1; omega))
                                obtain ⟨ve205_0, rfl, ge205_0⟩ := hMe205
                                have hv205_0 := hcc205 0 _ rfl
                                rw [Nat.add_zero, show ((Kd.slice 5 (Kd.int .u8))).sz = 1 from rfl, Nat.mul_one] at hv205_0
                                replace hv205_0 := Option.some.inj (hv205_0.symm.trans hx205_0)
                                rw [hv205_0] at ge205_0
                                have HL205_0 := Aside0.mk (show Kd.R (Kd.int .u8) 5 _ _ _ _ (rd_L2 t202 x14_2) from ge205_0)
                                clear hv205_0 ge205_0
                                clear hcc205 hce205
                                have HR205_0 := Aside0.mk hi205_0
                                have HC205_0 := Aside0.mk hl205_0
                                clear hi205_0 hl205_0
                                replace p205 := eq_true p205
                                replace q205 := eq_true q205
                                have hcv35 := Kd.C_string (P := Try.prog) (A := A205_0) (c := c205_0) Try.underlying27 Try.underlying5 Try.underlying9 (by repeat (first | (with_reducible exact HR205_0.out) | (with_reducible refine Kd.C_alloc ?_ _) | (with_reducible refine Kd.C_drewN ?_ _) | (with_reducible refine Kd.C_drew ?_) | exact HR205_0.out))
                                have hcd35 := fun n_ => Kd.C_string (P := Try.prog) (A := A205_0) (c := c205_0) Try.underlying27 Try.underlying5 Try.underlying9 (Kd.C_drewN (by repeat (first | (with_reducible exact HR205_0.out) | (with_reducible refine Kd.C_alloc ?_ _) | (with_reducible refine Kd.C_drewN ?_ _) | (with_reducible refine Kd.C_drew ?_) | exact HR205_0.out)) n_)
                                have p206 : 0 ≤ (x14_2 : Int) := of_decide_eq_true (by first | (with_reducible assumption) | assumption)
                                have q206 : x14_2 < (l0.length : Int) := of_decide_eq_true (by first | (with_reducible assumption) | assumption)
                                obtain ⟨ad206, A206_0, c206_0, e206, hx206_0, hl206_0, hi206_0⟩ := at_L2 HR0.out x14_2 p206 q206
                                obtain rfl : ad191 = ad206 := (by injection e206)
                                replace hx206_0 := (HB.out.cell (World.block_lt_of_cell? w _ hx206_0)).trans hx206_0
                                have HR206_0 := Aside0.mk hi206_0
                                have HC206_0 := Aside0.mk hl206_0
                                clear hi206_0 hl206_0
                                replace p206 := eq_true p206
                                replace q206 := eq_true q206
                                have hcv36 := Kd.C_string (P := Try.prog) (A := A206_0) (c := c206_0) Try.underlying27 Try.underlying5 Try.underlying9 (Kd.C_below HR206_0.out HB.out)
                                have hcd36 := fun n_ => Kd.C_string (P := Try.prog) (A := A206_0) (c := c206_0) Try.underlying27 Try.underlying5 Try.underlying9 (Kd.C_drewN (Kd.C_below HR206_0.out HB.out) n_)
                                go_wp2
                                repeat (go_quiet (fail); try go_wp2)
                                go_roundg k2
                                case measure => have := HK1.out; have := HK2.out; omega
                                case rel => exact ⟨(wrap64 (x14_2 + 1)), (by first | rfl | (simp; done) | (simp [*]; done)), H', ⟨by have := HK1.out; have := HK2.out; omega⟩, ⟨by (with_reducible repeat (first | apply Kd.R_alloc | apply Kd.R_drewN | apply Kd.R_drew)); exact HO_10.out⟩, ⟨by (with_reducible repeat (first | apply Kd.S_alloc | apply Kd.S_drewN | apply Kd.S_drew)); exact HO_13.out⟩, ⟨by repeat (first | (with_reducible first | exact HB.out | apply below_alloc | apply pw_below_drewN | apply below_drew1) | exact HB.out)⟩⟩
                              · rw [if_neg c33] at H
                                have c33b0 : ((strOfNums (rd_L2 t202 x14_2)).toList == (strOfNums (rd_L2 l0 x14_2)).toList) = false := beq_eq_false_iff_ne.mpr c33
                                have c33b1 : ((strOfNums (rd_L2 t202 x14_2)).toList != (strOfNums (rd_L2 l0 x14_2)).toList) = true := bne_iff_ne.mpr c33
                                simp only [Option.some.injEq, Prod.mk.injEq] at H
                                obtain ⟨rfl, rfl, rfl⟩ := H
                                obtain ⟨Ao37, co37, eo37⟩ := Kd.S_slice HO_13.out
                                subst eo37
                                have p205 : 0 ≤ (x14_2 : Int) := of_decide_eq_true (by first | (with_reducible assumption) | assumption)
                                have q205 : x14_2 < (t202.length : Int) := of_decide_eq_true (by first | (with_reducible assumption) | assumption)
                                obtain ⟨ad205, A205_0, c205_0, e205, hx205_0, hl205_0, hi205_0⟩ := at_L2 (Kd.S_reads' HO_13.out).2.2 x14_2 p205 q205
                                cases e205
                                obtain ⟨ce205, hce205, hMe205, hcc205⟩ := Kd.S_get HO_13.out [] x14_2 p205 (by first | exact q205 | exact of_decide_eq_true (by first | (with_reducible assumption) | assumption) | (have e_ := (Kd.S_reads' HO_13.out).1; omega))
                                obtain ⟨ve205_0, rfl, ge205_0⟩ := hMe205
                                have hv205_0 := hcc205 0 _ rfl
                                rw [Nat.add_zero, show ((Kd.slice 5 (Kd.int .u8))).sz = 1 from rfl, Nat.mul_one] at hv205_0
                                replace hv205_0 := Option.some.inj (hv205_0.symm.trans hx205_0)
                                rw [hv205_0] at ge205_0
                                have HL205_0 := Aside0.mk (show Kd.R (Kd.int .u8) 5 _ _ _ _ (rd_L2 t202 x14_2) from ge205_0)
                                clear hv205_0 ge205_0
                                clear hcc205 hce205
                                have HR205_0 := Aside0.mk hi205_0
                                have HC205_0 := Aside0.mk hl205_0
                                clear hi205_0 hl205_0
                                replace p205 := eq_true p205
                                replace q205 := eq_true q205
                                have hcv38 := Kd.C_string (P := Try.prog) (A := A205_0) (c := c205_0) Try.underlying27 Try.underlying5 Try.underlying9 (by repeat (first | (with_reducible exact HR205_0.out) | (with_reducible refine Kd.C_alloc ?_ _) | (with_reducible refine Kd.C_drewN ?_ _) | (with_reducible refine Kd.C_drew ?_) | exact HR205_0.out))
                                have hcd38 := fun n_ => Kd.C_string (P := Try.prog) (A := A205_0) (c := c205_0) Try.underlying27 Try.underlying5 Try.underlying9 (Kd.C_drewN (by repeat (first | (with_reducible exact HR205_0.out) | (with_reducible refine Kd.C_alloc ?_ _) | (with_reducible refine Kd.C_drewN ?_ _) | (with_reducible refine Kd.C_drew ?_) | exact HR205_0.out)) n_)
                                have p206 : 0 ≤ (x14_2 : Int) := of_decide_eq_true (by first | (with_reducible assumption) | assumption)
                                have q206 : x14_2 < (l0.length : Int) := of_decide_eq_true (by first | (with_reducible assumption) | assumption)
                                obtain ⟨ad206, A206_0, c206_0, e206, hx206_0, hl206_0, hi206_0⟩ := at_L2 HR0.out x14_2 p206 q206
                                obtain rfl : ad191 = ad206 := (by injection e206)
                                replace hx206_0 := (HB.out.cell (World.block_lt_of_cell? w _ hx206_0)).trans hx206_0
                                have HR206_0 := Aside0.mk hi206_0
                                have HC206_0 := Aside0.mk hl206_0
                                clear hi206_0 hl206_0
                                replace p206 := eq_true p206
                                replace q206 := eq_true q206
                                have hcv39 := Kd.C_string (P := Try.prog) (A := A206_0) (c := c206_0) Try.underlying27 Try.underlying5 Try.underlying9 (Kd.C_below HR206_0.out HB.out)
                                have hcd39 := fun n_ => Kd.C_string (P := Try.prog) (A := A206_0) (c := c206_0) Try.underlying27 Try.underlying5 Try.underlying9 (Kd.C_drewN (Kd.C_below HR206_0.out HB.out) n_)
                                go_wp2
                                repeat (go_quiet (fail); try go_wp2)
                                go_ret3
                                exact ⟨_, by first | rfl | (simp [errW_none, errW_some] <;> rfl) | (simp [*, errW_none, errW_some] <;> rfl), by first | exact Kd.R_nil _ _ _ _ _ | exact Kd.N_nil _ _ _ _ _ | exact Kd.V_nil _ _ _ _ _ | exact Kd.Q_nil _ _ _ _ _ | exact Kd.S_nil _ _ _ _ _, by repeat (first | (with_reducible first | exact HB.out | apply below_alloc | apply pw_below_drewN | apply below_drew1) | exact HB.out)⟩
                            · rw [if_neg c32] at H
                              exact absurd H (by simp)
                          · rw [if_neg c31] at H
                            exact absurd H (by simp)
                        · rw [if_neg c30] at H
                          exact absurd H (by simp)
                      · rw [if_neg c29] at H
                        have c29b0 : ((t202.length : Int) == t193) = false := beq_eq_false_iff_ne.mpr c29
                        have c29b1 : ((t202.length : Int) != t193) = true := bne_iff_ne.mpr c29
                        simp only [Option.some.injEq, Prod.mk.injEq] at H
                        obtain ⟨rfl, rfl, rfl⟩ := H
                        obtain ⟨Ao40, co40, eo40⟩ := Kd.S_slice HO_13.out
                        subst eo40
                        go_wp2
                        repeat (go_quiet (fail); try go_wp2)
                        go_ret3
                        exact ⟨_, by first | rfl | (simp [errW_none, errW_some] <;> rfl) | (simp [*, errW_none, errW_some] <;> rfl), by first | exact Kd.R_nil _ _ _ _ _ | exact Kd.N_nil _ _ _ _ _ | exact Kd.V_nil _ _ _ _ _ | exact Kd.Q_nil _ _ _ _ _ | exact Kd.S_nil _ _ _ _ _, by repeat (first | (with_reducible first | exact HB.out | apply below_alloc | apply pw_below_drewN | apply below_drew1) | exact HB.out)⟩
                    · rw [if_neg c28] at H
                      have c28b0 : decide (x14_2 < t193) = false := decide_eq_false c28
                      clear c28
                      simp only [Option.some.injEq, Prod.mk.injEq] at H
                      obtain ⟨rfl, rfl, rfl⟩ := H
                      go_wp2
                      repeat (go_quiet (fail); try go_wp2)
                      go_ret3
                      exact ⟨_, by first | rfl | (simp [errW_none, errW_some] <;> rfl) | (simp [*, errW_none, errW_some] <;> rfl), by (with_reducible repeat (first | apply Kd.R_alloc | apply Kd.R_drewN | apply Kd.R_drew)); exact HO_10.out, by repeat (first | (with_reducible first | exact HB.out | apply below_alloc | apply pw_below_drewN | apply below_drew1) | exact HB.out)⟩
        · rw [if_neg c7] at H
          exact absurd H (by simp)
      · rw [if_neg c6] at H
        exact absurd H (by simp)
    · rw [if_neg c5] at H
      exact absurd H (by simp)

end Go.Proofs.Ytkiofhmpeokipaa.PTA
