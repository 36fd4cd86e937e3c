-- By a program of this session (wip/myprint.sh) out of the translation; Lean checks it.
import Derived.Test.YtkiofhmpeokipaaPTAx0
import Derived.Test.YtkiofhmpeokipaaPTAx4
namespace Go.Proofs.Ytkiofhmpeokipaa.PTA
open Go.RowKit Go.Proofs.YtkiofhmpeokipaaW.PrintWords Go.Proofs.YtkiofhmpeokipaaW.PrintLast Go.Proofs.YtkiofhmpeokipaaW.PrintMore
attribute [local go_sem] max2_int min2_int max_two min_two max_three min_three max_four min_four   -- for this text's walks alone
set_option linter.unusedVariables false
set_option linter.unusedSimpArgs false

/-! ### chatelaineref24_Blocks: function 33 -/
def chatelaineref24_Blocks.l0 : Nat → Int → Int → List Int → Int → List (List Int) → Int → Option ((List (List Int)))
  | 0, _, _, _, _, _, _ => none
  | k + 1, x0, x1, x2, x7, x8, x9 => if x9 < x7 then (if 0 ≤ (wrap64 (x9 * 488)) then (if (wrap64 (x9 * 488)) ≤ (mn (x2.length : Int) (wrap64 ((wrap64 (x9 + 1)) * 488))) then (if (mn (x2.length : Int) (wrap64 ((wrap64 (x9 + 1)) * 488))) ≤ (x2.length : Int) then ((chatelaineref24_num.f k ([] : List Int) x0 8).bind fun t164 => ((chatelaineref24_num.f k t164 x1 8).bind fun t167 => ((chatelaineref24_num.f k t167 x9 2).bind fun t170 => ((chatelaineref24_num.f k t170 x7 2).bind fun t173 => ((chatelaineref24_num.f k t173 (((x2.take ((mn (x2.length : Int) (wrap64 ((wrap64 (x9 + 1)) * 488))) : Int).toNat).drop ((wrap64 (x9 * 488)) : Int).toNat).length : Int) 2).bind fun t176 => ((chatelaineref24_num.f k t176 0 2).bind fun t179 => (if t179.length + ((x2.take ((mn (x2.length : Int) (wrap64 ((wrap64 (x9 + 1)) * 488))) : Int).toNat).drop ((wrap64 (x9 * 488)) : Int).toNat).length < 140737488355328 then ((some (t179 ++ ((x2.take ((mn (x2.length : Int) (wrap64 ((wrap64 (x9 + 1)) * 488))) : Int).toNat).drop ((wrap64 (x9 * 488)) : Int).toNat) : List Int)).bind fun y182 => (if 0 ≤ (wrap64 (512 - (y182.length : Int))) then (if y182.length + (wrap64 (512 - (y182.length : Int)) : Int).toNat < 140737488355328 then (if x8.length < 5864062014805 then (chatelaineref24_Blocks.l0 k x0 x1 x2 x7 (x8 ++ [(y182 ++ List.replicate (wrap64 (512 - (y182.length : Int)) : Int).toNat 0)]) (wrap64 (x9 + 1))) else (none)) else (none)) else (none))) else (none)))))))) else (none)) else (none)) else (none)) else (some x8)
def chatelaineref24_Blocks.f (k : Nat) (a0 : Int) (a1 : Int) (l2 : List Int) : Option ((List (List Int))) := (chatelaineref24_Parts.f (l2.length : Int)).bind fun t162 => (chatelaineref24_Blocks.l0 k a0 a1 l2 t162 ([] : List (List Int)) 0)
theorem chatelaineref24_Blocks.mono_l : ∀ k, (∀ y0 y1 y2 y3 y4 y5, LeO (chatelaineref24_Blocks.l0 k y0 y1 y2 y3 y4 y5) (chatelaineref24_Blocks.l0 (k + 1) y0 y1 y2 y3 y4 y5))
  | 0 => fun _ _ _ _ _ _ r h => by simp [chatelaineref24_Blocks.l0] at h
  | k + 1 => by
    have ih0 := chatelaineref24_Blocks.mono_l k
    · intro y0 y1 y2 y3 y4 y5
      unfold chatelaineref24_Blocks.l0
      repeat' first
      | (with_reducible exact ih0 _ _ _ _ _ _)
      | (with_reducible exact chatelaineref24_num.mono _ _ _ _)
      | (with_reducible exact LeO.refl _)
      | (with_reducible exact LeO.none _)
      | (with_reducible refine LeO.ite ?_ ?_)
      | (with_reducible refine LeO.bind ?_ (fun _ => ?_))
      | exact ih0 _ _ _ _ _ _
      | exact chatelaineref24_num.mono _ _ _ _
      | exact LeO.none _
      | refine LeO.ite ?_ ?_
      | refine LeO.bind ?_ (fun _ => ?_)
theorem chatelaineref24_Blocks.mono : ∀ a0 a1 a2 k, LeO (chatelaineref24_Blocks.f k a0 a1 a2) (chatelaineref24_Blocks.f (k + 1) a0 a1 a2) := by
  intro a0 a1 a2 k
  have ih0 := chatelaineref24_Blocks.mono_l k
  unfold chatelaineref24_Blocks.f
  repeat' first
      | (with_reducible exact ih0 _ _ _ _ _ _)
      | (with_reducible exact chatelaineref24_num.mono _ _ _ _)
      | (with_reducible exact LeO.refl _)
      | (with_reducible exact LeO.none _)
      | (with_reducible refine LeO.ite ?_ ?_)
      | (with_reducible refine LeO.bind ?_ (fun _ => ?_))
      | exact ih0 _ _ _ _ _ _
      | exact chatelaineref24_num.mono _ _ _ _
      | exact LeO.none _
      | refine LeO.ite ?_ ?_
      | refine LeO.bind ?_ (fun _ => ?_)
set_option maxHeartbeats 8000000 in
set_option maxRecDepth 100000 in
theorem chatelaineref24_Blocks.calls (k : Nat) (a0 : Int) (a1 : Int) (A2 : Option Addr) (c2 : Nat) (l2 : List Int) (r : List (List Int)) (w : World) (hr2 : Kd.C (Kd.int .u8) w A2 l2.length l2) (hc2 : l2.length ≤ c2) (h : chatelaineref24_Blocks.f k a0 a1 l2 = some r) :
    Calls Try.prog 33 #[.int .i64 a0, .int .i64 a1, .slice A2 l2.length c2] w fun e w' => ∃ v0_ : Value, e = .returned (v0_) ∧ Kd.S (Kd.slice 5 (Kd.int .u8)) 27 w' w.heap.size (fun _ => True) v0_ r ∧ Below w.heap.size w w' := by
  have HR2 := Aside0.mk hr2
  have HC2 := Aside0.mk hc2
  clear hr2 hc2
  have HB := Aside0.mk (Below.refl w.heap.size w)
  have H : ((chatelaineref24_Parts.f (l2.length : Int)).bind fun t162 => (chatelaineref24_Blocks.l0 k a0 a1 l2 t162 ([] : List (List Int)) 0)) = some r := h
  clear h
  replace H := Option.bind_eq_some_iff.mp H
  obtain ⟨t162, A40, H⟩ := H
  replace H : (chatelaineref24_Blocks.l0 k a0 a1 l2 t162 ([] : List (List Int)) 0) = some r := H
  have A4 := Aside0.mk A40
  clear A40
  have H' := Aside0.mk H
  clear H
  go_enter Try.func33, Try.ntmps33
  go_wp2_with (first | ((with_reducible refine gate_callee (f := 38) rfl ?_); refine goesL_ (some 14) rfl rfl Try.func38 (by kernel_rfl) rfl #[.int .i64 (l2.length : Int)] rfl (by (try simp only [List.map_toArray, List.map_cons, List.map_nil]); first | done | rfl | (simp only [List.length_drop, List.length_take]; rfl)) ?_; (with_reducible refine (chatelaineref24_Parts.calls (l2.length : Int) t162 _ A4.out).mono ?_); rintro e w5 ⟨rfl, hb⟩; refine ⟨_, rfl, ?_⟩; have n0_ := Aside0.mk (below_step (by repeat (first | (with_reducible first | exact HB.out | apply below_alloc | apply pw_below_drewN | apply below_drew1) | exact HB.out)) hb); clear HB; have HB := n0_; clear n0_; (try clear hb); (try clear hb2); (try clear hk); (try clear hi); (try clear A4)))
  go_loopg [8, 9] k (fun kq v8 v9 w' => ∃ (x8_1 : List (List Int)) (x9_1 : Int), v9 = .int .i64 x9_1 ∧ Aside0 (chatelaineref24_Blocks.l0 kq a0 a1 l2 t162 x8_1 x9_1 = some r) ∧ Aside0 (kq ≤ k) ∧ Aside0 (Kd.S (Kd.slice 5 (Kd.int .u8)) 27 w' w.heap.size (fun _ => True) v8 x8_1) ∧ Aside0 (Below w.heap.size w w'))
  case atStart => exact ⟨(([] : List (List Int))), (0), (by first | rfl | (simp; done) | (simp [*]; done)), H', ⟨Nat.le_refl _⟩, ⟨by first | exact Kd.S_nil _ _ _ _ _ | exact Kd.N_nil _ _ _ _ _ | exact Kd.V_nil _ _ _ _ _ | exact Kd.Q_nil _ _ _ _ _ | exact Kd.R_nil _ _ _ _ _⟩, ⟨by repeat (first | (with_reducible first | exact HB.out | apply below_alloc | apply pw_below_drewN | apply below_drew1) | exact HB.out)⟩⟩
  case round =>
    clear H'
    try clear c2
    try clear p2
    try clear c3
    obtain ⟨x8_1, x9_1, rfl, HA, HK1, HO_8, HB⟩ := hrel
    cases gk with
    | zero => exact absurd HA.out (by simp [chatelaineref24_Blocks.l0])
    | succ k1 =>
      have H := HA.out
      clear HA
      simp only [chatelaineref24_Blocks.l0] at H
      by_cases c6 : x9_1 < t162
      · rw [if_pos c6] at H
        have c6b0 : decide (x9_1 < t162) = true := decide_eq_true c6
        clear c6
        obtain ⟨ji7, hji7⟩ : ∃ j_ : Int, (mn (l2.length : Int) (wrap64 ((wrap64 (x9_1 + 1)) * 488))) = j_ := ⟨_, rfl⟩
        replace H : (if 0 ≤ (wrap64 (x9_1 * 488)) then (if (wrap64 (x9_1 * 488)) ≤ (ji7) then (if (ji7) ≤ (l2.length : Int) then ((chatelaineref24_num.f k1 ([] : List Int) a0 8).bind fun t164 => ((chatelaineref24_num.f k1 t164 a1 8).bind fun t167 => ((chatelaineref24_num.f k1 t167 x9_1 2).bind fun t170 => ((chatelaineref24_num.f k1 t170 t162 2).bind fun t173 => ((chatelaineref24_num.f k1 t173 (((l2.take ((ji7) : Int).toNat).drop ((wrap64 (x9_1 * 488)) : Int).toNat).length : Int) 2).bind fun t176 => ((chatelaineref24_num.f k1 t176 0 2).bind fun t179 => (if t179.length + ((l2.take ((ji7) : Int).toNat).drop ((wrap64 (x9_1 * 488)) : Int).toNat).length < 140737488355328 then ((some (t179 ++ ((l2.take ((ji7) : Int).toNat).drop ((wrap64 (x9_1 * 488)) : Int).toNat) : List Int)).bind fun y182 => (if 0 ≤ (wrap64 (512 - (y182.length : Int))) then (if y182.length + (wrap64 (512 - (y182.length : Int)) : Int).toNat < 140737488355328 then (if x8_1.length < 5864062014805 then (chatelaineref24_Blocks.l0 k1 a0 a1 l2 t162 (x8_1 ++ [(y182 ++ List.replicate (wrap64 (512 - (y182.length : Int)) : Int).toNat 0)]) (wrap64 (x9_1 + 1))) else (none)) else (none)) else (none))) else (none)))))))) else (none)) else (none)) else (none)) = some r := by first | (rw [hji7] at H; exact H) | (simp only [hji7] at H ⊢; exact H)
        have hji7_ : (if (wrap64 ((wrap64 (x9_1 + 1)) * 488)) < (l2.length : Int) then (wrap64 ((wrap64 (x9_1 + 1)) * 488)) else (l2.length : Int)) = ji7 := hji7
        obtain ⟨ji8, hji8⟩ : ∃ j_ : Int, (wrap64 (x9_1 * 488)) = j_ := ⟨_, rfl⟩
        replace H : (if 0 ≤ (ji8) then (if (ji8) ≤ (ji7) then (if (ji7) ≤ (l2.length : Int) then ((chatelaineref24_num.f k1 ([] : List Int) a0 8).bind fun t164 => ((chatelaineref24_num.f k1 t164 a1 8).bind fun t167 => ((chatelaineref24_num.f k1 t167 x9_1 2).bind fun t170 => ((chatelaineref24_num.f k1 t170 t162 2).bind fun t173 => ((chatelaineref24_num.f k1 t173 (((l2.take ((ji7) : Int).toNat).drop ((ji8) : Int).toNat).length : Int) 2).bind fun t176 => ((chatelaineref24_num.f k1 t176 0 2).bind fun t179 => (if t179.length + ((l2.take ((ji7) : Int).toNat).drop ((ji8) : Int).toNat).length < 140737488355328 then ((some (t179 ++ ((l2.take ((ji7) : Int).toNat).drop ((ji8) : Int).toNat) : List Int)).bind fun y182 => (if 0 ≤ (wrap64 (512 - (y182.length : Int))) then (if y182.length + (wrap64 (512 - (y182.length : Int)) : Int).toNat < 140737488355328 then (if x8_1.length < 5864062014805 then (chatelaineref24_Blocks.l0 k1 a0 a1 l2 t162 (x8_1 ++ [(y182 ++ List.replicate (wrap64 (512 - (y182.length : Int)) : Int).toNat 0)]) (wrap64 (x9_1 + 1))) else (none)) else (none)) else (none))) else (none)))))))) else (none)) else (none)) else (none)) = some r := by first | (rw [hji8] at H; exact H) | (simp only [hji8] at H ⊢; exact H)
        have hji8w : (IntKind.i64.wrap (x9_1 * 488)) = ji8 := (i64_w _).trans hji8
        by_cases c9 : 0 ≤ (ji8)
        · rw [if_pos c9] at H
          have c9b0 := eq_true c9
          have c9b1 : decide (0 ≤ (ji8)) = true := decide_eq_true c9
          clear c9
          by_cases c10 : (ji8) ≤ (ji7)
          · rw [if_pos c10] at H
            have c10b0 := eq_true c10
            have c10b1 : decide ((ji8) ≤ (ji7)) = true := decide_eq_true c10
            clear c10
            by_cases c11 : (ji7) ≤ (l2.length : Int)
            · rw [if_pos c11] at H
              have c11b0 := eq_true c11
              have c11b1 : decide ((ji7) ≤ (l2.length : Int)) = true := decide_eq_true c11
              clear c11
              replace H := Option.bind_eq_some_iff.mp H
              obtain ⟨t164, A120, H⟩ := H
              replace H : ((chatelaineref24_num.f k1 t164 a1 8).bind fun t167 => ((chatelaineref24_num.f k1 t167 x9_1 2).bind fun t170 => ((chatelaineref24_num.f k1 t170 t162 2).bind fun t173 => ((chatelaineref24_num.f k1 t173 (((l2.take ((ji7) : Int).toNat).drop ((ji8) : Int).toNat).length : Int) 2).bind fun t176 => ((chatelaineref24_num.f k1 t176 0 2).bind fun t179 => (if t179.length + ((l2.take ((ji7) : Int).toNat).drop ((ji8) : Int).toNat).length < 140737488355328 then ((some (t179 ++ ((l2.take ((ji7) : Int).toNat).drop ((ji8) : Int).toNat) : List Int)).bind fun y182 => (if 0 ≤ (wrap64 (512 - (y182.length : Int))) then (if y182.length + (wrap64 (512 - (y182.length : Int)) : Int).toNat < 140737488355328 then (if x8_1.length < 5864062014805 then (chatelaineref24_Blocks.l0 k1 a0 a1 l2 t162 (x8_1 ++ [(y182 ++ List.replicate (wrap64 (512 - (y182.length : Int)) : Int).toNat 0)]) (wrap64 (x9_1 + 1))) else (none)) else (none)) else (none))) else (none))))))) = some r := H
              have A12 := Aside0.mk A120
              clear A120
              replace H := Option.bind_eq_some_iff.mp H
              obtain ⟨t167, A130, H⟩ := H
              replace H : ((chatelaineref24_num.f k1 t167 x9_1 2).bind fun t170 => ((chatelaineref24_num.f k1 t170 t162 2).bind fun t173 => ((chatelaineref24_num.f k1 t173 (((l2.take ((ji7) : Int).toNat).drop ((ji8) : Int).toNat).length : Int) 2).bind fun t176 => ((chatelaineref24_num.f k1 t176 0 2).bind fun t179 => (if t179.length + ((l2.take ((ji7) : Int).toNat).drop ((ji8) : Int).toNat).length < 140737488355328 then ((some (t179 ++ ((l2.take ((ji7) : Int).toNat).drop ((ji8) : Int).toNat) : List Int)).bind fun y182 => (if 0 ≤ (wrap64 (512 - (y182.length : Int))) then (if y182.length + (wrap64 (512 - (y182.length : Int)) : Int).toNat < 140737488355328 then (if x8_1.length < 5864062014805 then (chatelaineref24_Blocks.l0 k1 a0 a1 l2 t162 (x8_1 ++ [(y182 ++ List.replicate (wrap64 (512 - (y182.length : Int)) : Int).toNat 0)]) (wrap64 (x9_1 + 1))) else (none)) else (none)) else (none))) else (none)))))) = some r := H
              have A13 := Aside0.mk A130
              clear A130
              replace H := Option.bind_eq_some_iff.mp H
              obtain ⟨t170, A140, H⟩ := H
              replace H : ((chatelaineref24_num.f k1 t170 t162 2).bind fun t173 => ((chatelaineref24_num.f k1 t173 (((l2.take ((ji7) : Int).toNat).drop ((ji8) : Int).toNat).length : Int) 2).bind fun t176 => ((chatelaineref24_num.f k1 t176 0 2).bind fun t179 => (if t179.length + ((l2.take ((ji7) : Int).toNat).drop ((ji8) : Int).toNat).length < 140737488355328 then ((some (t179 ++ ((l2.take ((ji7) : Int).toNat).drop ((ji8) : Int).toNat) : List Int)).bind fun y182 => (if 0 ≤ (wrap64 (512 - (y182.length : Int))) then (if y182.length + (wrap64 (512 - (y182.length : Int)) : Int).toNat < 140737488355328 then (if x8_1.length < 5864062014805 then (chatelaineref24_Blocks.l0 k1 a0 a1 l2 t162 (x8_1 ++ [(y182 ++ List.replicate (wrap64 (512 - (y182.length : Int)) : Int).toNat 0)]) (wrap64 (x9_1 + 1))) else (none)) else (none)) else (none))) else (none))))) = some r := H
              have A14 := Aside0.mk A140
              clear A140
              replace H := Option.bind_eq_some_iff.mp H
              obtain ⟨t173, A150, H⟩ := H
              replace H : ((chatelaineref24_num.f k1 t173 (((l2.take ((ji7) : Int).toNat).drop ((ji8) : Int).toNat).length : Int) 2).bind fun t176 => ((chatelaineref24_num.f k1 t176 0 2).bind fun t179 => (if t179.length + ((l2.take ((ji7) : Int).toNat).drop ((ji8) : Int).toNat).length < 140737488355328 then ((some (t179 ++ ((l2.take ((ji7) : Int).toNat).drop ((ji8) : Int).toNat) : List Int)).bind fun y182 => (if 0 ≤ (wrap64 (512 - (y182.length : Int))) then (if y182.length + (wrap64 (512 - (y182.length : Int)) : Int).toNat < 140737488355328 then (if x8_1.length < 5864062014805 then (chatelaineref24_Blocks.l0 k1 a0 a1 l2 t162 (x8_1 ++ [(y182 ++ List.replicate (wrap64 (512 - (y182.length : Int)) : Int).toNat 0)]) (wrap64 (x9_1 + 1))) else (none)) else (none)) else (none))) else (none)))) = some r := H
              have A15 := Aside0.mk A150
              clear A150
              replace H := Option.bind_eq_some_iff.mp H
              obtain ⟨t176, A160, H⟩ := H
              replace H : ((chatelaineref24_num.f k1 t176 0 2).bind fun t179 => (if t179.length + ((l2.take ((ji7) : Int).toNat).drop ((ji8) : Int).toNat).length < 140737488355328 then ((some (t179 ++ ((l2.take ((ji7) : Int).toNat).drop ((ji8) : Int).toNat) : List Int)).bind fun y182 => (if 0 ≤ (wrap64 (512 - (y182.length : Int))) then (if y182.length + (wrap64 (512 - (y182.length : Int)) : Int).toNat < 140737488355328 then (if x8_1.length < 5864062014805 then (chatelaineref24_Blocks.l0 k1 a0 a1 l2 t162 (x8_1 ++ [(y182 ++ List.replicate (wrap64 (512 - (y182.length : Int)) : Int).toNat 0)]) (wrap64 (x9_1 + 1))) else (none)) else (none)) else (none))) else (none))) = some r := H
              have A16 := Aside0.mk A160
              clear A160
              replace H := Option.bind_eq_some_iff.mp H
              obtain ⟨t179, A170, H⟩ := H
              replace H : (if t179.length + ((l2.take ((ji7) : Int).toNat).drop ((ji8) : Int).toNat).length < 140737488355328 then ((some (t179 ++ ((l2.take ((ji7) : Int).toNat).drop ((ji8) : Int).toNat) : List Int)).bind fun y182 => (if 0 ≤ (wrap64 (512 - (y182.length : Int))) then (if y182.length + (wrap64 (512 - (y182.length : Int)) : Int).toNat < 140737488355328 then (if x8_1.length < 5864062014805 then (chatelaineref24_Blocks.l0 k1 a0 a1 l2 t162 (x8_1 ++ [(y182 ++ List.replicate (wrap64 (512 - (y182.length : Int)) : Int).toNat 0)]) (wrap64 (x9_1 + 1))) else (none)) else (none)) else (none))) else (none)) = some r := H
              have A17 := Aside0.mk A170
              clear A170
              by_cases c18 : t179.length + ((l2.take ((ji7) : Int).toNat).drop ((ji8) : Int).toNat).length < 140737488355328
              · rw [if_pos c18] at H
                have LMc18 := Aside0.mk c18
                clear c18
                obtain ⟨y182, hy182⟩ : ∃ y_ : List Int, y_ = (t179 ++ ((l2.take ((ji7) : Int).toNat).drop ((ji8) : Int).toNat)) := ⟨_, rfl⟩
                replace H : (if 0 ≤ (wrap64 (512 - (y182.length : Int))) then (if y182.length + (wrap64 (512 - (y182.length : Int)) : Int).toNat < 140737488355328 then (if x8_1.length < 5864062014805 then (chatelaineref24_Blocks.l0 k1 a0 a1 l2 t162 (x8_1 ++ [(y182 ++ List.replicate (wrap64 (512 - (y182.length : Int)) : Int).toNat 0)]) (wrap64 (x9_1 + 1))) else (none)) else (none)) else (none)) = some r := by first | (rw [hy182]; with_reducible exact H) | (have H2_ := (Option.bind_some _ _).symm.trans H; rw [hy182]; with_reducible exact H2_) | (have H2_ := (Option.bind_some _ _).symm.trans H; with_reducible exact H2_) | with_reducible exact H | (rw [hy182]; exact H) | exact H
                have Ny182 := Aside0.mk hy182
                clear hy182
                obtain ⟨ji19, hji19⟩ : ∃ j_ : Int, (wrap64 (512 - (y182.length : Int))) = j_ := ⟨_, rfl⟩
                replace H : (if 0 ≤ (ji19) then (if y182.length + (ji19 : Int).toNat < 140737488355328 then (if x8_1.length < 5864062014805 then (chatelaineref24_Blocks.l0 k1 a0 a1 l2 t162 (x8_1 ++ [(y182 ++ List.replicate (ji19 : Int).toNat 0)]) (wrap64 (x9_1 + 1))) else (none)) else (none)) else (none)) = some r := by first | (rw [hji19] at H; exact H) | (simp only [hji19] at H ⊢; exact H)
                (try rw [hji19] at A12)
                (try rw [hji19] at A13)
                (try rw [hji19] at A14)
                (try rw [hji19] at A15)
                (try rw [hji19] at A16)
                (try rw [hji19] at A17)
                have hji19w : (IntKind.i64.wrap (512 - (y182.length : Int))) = ji19 := (i64_w _).trans hji19
                by_cases c20 : 0 ≤ (ji19)
                · rw [if_pos c20] at H
                  have c20b0 := eq_true c20
                  have c20b1 : decide (0 ≤ (ji19)) = true := decide_eq_true c20
                  clear c20
                  by_cases c21 : y182.length + (ji19 : Int).toNat < 140737488355328
                  · rw [if_pos c21] at H
                    have LMc21 := Aside0.mk c21
                    clear c21
                    obtain ⟨y185, hy185⟩ : ∃ y_ : List Int, y_ = (y182 ++ List.replicate (ji19 : Int).toNat 0) := ⟨_, rfl⟩
                    replace H : (if x8_1.length < 5864062014805 then (chatelaineref24_Blocks.l0 k1 a0 a1 l2 t162 (x8_1 ++ [y185]) (wrap64 (x9_1 + 1))) else (none)) = some r := by first | (rw [hy185]; with_reducible exact H) | (have H2_ := (Option.bind_some _ _).symm.trans H; rw [hy185]; with_reducible exact H2_) | (have H2_ := (Option.bind_some _ _).symm.trans H; with_reducible exact H2_) | with_reducible exact H | (rw [hy185]; exact H) | exact H
                    have Ny185 := Aside0.mk hy185
                    clear hy185
                    by_cases c22 : x8_1.length < 5864062014805
                    · rw [if_pos c22] at H
                      have LMc22 := Aside0.mk c22
                      clear c22
                      obtain ⟨y188, hy188⟩ : ∃ y_ : List (List Int), y_ = (x8_1 ++ [y185]) := ⟨_, rfl⟩
                      replace H : (chatelaineref24_Blocks.l0 k1 a0 a1 l2 t162 y188 (wrap64 (x9_1 + 1))) = some r := by first | (rw [hy188]; with_reducible exact H) | (have H2_ := (Option.bind_some _ _).symm.trans H; rw [hy188]; with_reducible exact H2_) | (have H2_ := (Option.bind_some _ _).symm.trans H; with_reducible exact H2_) | with_reducible exact H | (rw [hy188]; exact H) | exact H
                      have Ny188 := Aside0.mk hy188
                      clear hy188
                      have H' := Aside0.mk H
                      clear H
                      obtain ⟨i023, hi023, _, hsz23, _⟩ := info_parts info5
                      obtain ⟨A23, hcut23, hA23, hC23⟩ := print_mid_of (P := Try.prog) (Value.int .u8) 0 27 5 .i64 .i64 Try.underlying27 hi023 hsz23 A2 c2 l2 (ji8) (ji7) (of_decide_eq_true (by first | (with_reducible assumption) | assumption)) (by first | omega | exact of_decide_eq_true (by first | (with_reducible assumption) | assumption)) (of_decide_eq_true (by first | (with_reducible assumption) | assumption)) HC2.out
                      have HR163 := Aside0.mk (Kd.C_of_reads (h1 := fun _ => rfl) (hA23 _ (Kd.reads_of_C HR2.out)))
                      have HC163 := Aside0.mk hC23
                      clear hA23 hC23 hi023 hsz23
                      go_wp2_with (first | ((with_reducible refine gate_callee (f := 39) rfl ?_); refine goesL_ (some 31) rfl rfl Try.func39 (by kernel_rfl) rfl #[.slice none 0 0, .int .i64 a0, .int .i64 8] rfl (by (try simp only [List.map_toArray, List.map_cons, List.map_nil]); first | done | rfl | (simp only [List.length_drop, List.length_take]; rfl)) ?_; (refine (chatelaineref24_num.calls k1 (fun k_ => some k_ = (.slice none 0 0 : Value).ownBlock) (.slice none 0 0) ([] : List Int) a0 8 t164 w _ ?side1 ?side2 A12.out).mono ?_); (case side1 => repeat (first | (with_reducible first | exact HB.out | apply below_alloc | apply pw_below_drewN | apply below_drew1) | exact HB.out)); (case side2 => exact Kd.R_nil _ _ _ _ _); rintro e w24 ⟨v165, rfl, ho0, hb, hkp⟩; refine ⟨_, rfl, ?_⟩; have n0_ := Aside0.mk (Kd.S_mono (ok' := fun k_ => some k_ ≠ (v165 : Value).ownBlock) (Kd.S_keptB (HO_8.out) hkp (fun k_ hk_ hs_ => (fun e_ => by simp [Value.ownBlock] at e_) hs_)) (fun k_ hk_ => fun e_ => Or.elim (ho0.1 k_ e_.symm) (fun hs_ => hk_.2.1 hs_) (fun hn_ => Nat.not_le.2 hk_.2.2 hn_))); have n1_ := Aside0.mk (Kd.R_mono (ok' := fun k_ => True) ho0 (fun k_ hk_ => trivial)); have n2_ := Aside0.mk (hb); clear HO_8; clear HB; have HO_8 := n0_; have HO166 := n1_; have HB := n2_; clear n0_ n1_ n2_; (try clear hb); (try clear hkp); (try clear ho0); (try clear A12); obtain ⟨Ao25, co25, eo25⟩ := Kd.R_slice HO166.out; subst eo25) | ((with_reducible refine gate_callee (f := 39) rfl ?_); refine goesL_ (some 33) rfl rfl Try.func39 (by kernel_rfl) rfl #[.slice Ao25 t164.length co25, .int .i64 a1, .int .i64 8] rfl (by (try simp only [List.map_toArray, List.map_cons, List.map_nil]); first | done | rfl | (simp only [List.length_drop, List.length_take]; rfl)) ?_; (with_reducible refine (chatelaineref24_num.calls k1 (fun k_ => some k_ = (.slice Ao25 t164.length co25 : Value).ownBlock) (.slice Ao25 t164.length co25) t164 a1 8 t167 w _ ?side1 ?side2 A13.out).mono ?_); (case side1 => repeat (first | (with_reducible first | exact HB.out | apply below_alloc | apply pw_below_drewN | apply below_drew1) | exact HB.out)); (case side2 => exact Kd.R_tight rfl HO166.out); rintro e w26 ⟨v168, rfl, ho0, hb, hkp⟩; refine ⟨_, rfl, ?_⟩; have n0_ := Aside0.mk (Kd.S_mono (ok' := fun k_ => some k_ ≠ (v168 : Value).ownBlock) (Kd.S_keptB (HO_8.out) hkp (fun k_ hk_ hs_ => (hk_) hs_)) (fun k_ hk_ => fun e_ => Or.elim (ho0.1 k_ e_.symm) (fun hs_ => hk_.2.1 hs_) (fun hn_ => Nat.not_le.2 hk_.2.2 hn_))); have n1_ := Aside0.mk (Kd.R_mono (ok' := fun k_ => True) ho0 (fun k_ hk_ => trivial)); have n2_ := Aside0.mk (hb); clear HO_8; clear HB; clear HO166; have HO_8 := n0_; have HO169 := n1_; have HB := n2_; clear n0_ n1_ n2_; (try clear hb); (try clear hkp); (try clear ho0); (try clear A13); obtain ⟨Ao27, co27, eo27⟩ := Kd.R_slice HO169.out; subst eo27) | ((with_reducible refine gate_callee (f := 39) rfl ?_); refine goesL_ (some 36) rfl rfl Try.func39 (by kernel_rfl) rfl #[.slice Ao27 t167.length co27, .int .i64 x9_1, .int .i64 2] rfl (by (try simp only [List.map_toArray, List.map_cons, List.map_nil]); first | done | rfl | (simp only [List.length_drop, List.length_take]; rfl)) ?_; (with_reducible refine (chatelaineref24_num.calls k1 (fun k_ => some k_ = (.slice Ao27 t167.length co27 : Value).ownBlock) (.slice Ao27 t167.length co27) t167 x9_1 2 t170 w _ ?side1 ?side2 A14.out).mono ?_); (case side1 => repeat (first | (with_reducible first | exact HB.out | apply below_alloc | apply pw_below_drewN | apply below_drew1) | exact HB.out)); (case side2 => exact Kd.R_tight rfl HO169.out); rintro e w28 ⟨v171, rfl, ho0, hb, hkp⟩; refine ⟨_, rfl, ?_⟩; have n0_ := Aside0.mk (Kd.S_mono (ok' := fun k_ => some k_ ≠ (v171 : Value).ownBlock) (Kd.S_keptB (HO_8.out) hkp (fun k_ hk_ hs_ => (hk_) hs_)) (fun k_ hk_ => fun e_ => Or.elim (ho0.1 k_ e_.symm) (fun hs_ => hk_.2.1 hs_) (fun hn_ => Nat.not_le.2 hk_.2.2 hn_))); have n1_ := Aside0.mk (Kd.R_mono (ok' := fun k_ => True) ho0 (fun k_ hk_ => trivial)); have n2_ := Aside0.mk (hb); clear HO_8; clear HB; clear HO169; have HO_8 := n0_; have HO172 := n1_; have HB := n2_; clear n0_ n1_ n2_; (try clear hb); (try clear hkp); (try clear ho0); (try clear A14); obtain ⟨Ao29, co29, eo29⟩ := Kd.R_slice HO172.out; subst eo29) | ((with_reducible refine gate_callee (f := 39) rfl ?_); refine goesL_ (some 38) rfl rfl Try.func39 (by kernel_rfl) rfl #[.slice Ao29 t170.length co29, .int .i64 t162, .int .i64 2] rfl (by (try simp only [List.map_toArray, List.map_cons, List.map_nil]); first | done | rfl | (simp only [List.length_drop, List.length_take]; rfl)) ?_; (with_reducible refine (chatelaineref24_num.calls k1 (fun k_ => some k_ = (.slice Ao29 t170.length co29 : Value).ownBlock) (.slice Ao29 t170.length co29) t170 t162 2 t173 w _ ?side1 ?side2 A15.out).mono ?_); (case side1 => repeat (first | (with_reducible first | exact HB.out | apply below_alloc | apply pw_below_drewN | apply below_drew1) | exact HB.out)); (case side2 => exact Kd.R_tight rfl HO172.out); rintro e w30 ⟨v174, rfl, ho0, hb, hkp⟩; refine ⟨_, rfl, ?_⟩; have n0_ := Aside0.mk (Kd.S_mono (ok' := fun k_ => some k_ ≠ (v174 : Value).ownBlock) (Kd.S_keptB (HO_8.out) hkp (fun k_ hk_ hs_ => (hk_) hs_)) (fun k_ hk_ => fun e_ => Or.elim (ho0.1 k_ e_.symm) (fun hs_ => hk_.2.1 hs_) (fun hn_ => Nat.not_le.2 hk_.2.2 hn_))); have n1_ := Aside0.mk (Kd.R_mono (ok' := fun k_ => True) ho0 (fun k_ hk_ => trivial)); have n2_ := Aside0.mk (hb); clear HO_8; clear HB; clear HO172; have HO_8 := n0_; have HO175 := n1_; have HB := n2_; clear n0_ n1_ n2_; (try clear hb); (try clear hkp); (try clear ho0); (try clear A15); obtain ⟨Ao31, co31, eo31⟩ := Kd.R_slice HO175.out; subst eo31) | ((with_reducible refine gate_callee (f := 39) rfl ?_); refine goesL_ (some 41) rfl rfl Try.func39 (by kernel_rfl) rfl #[.slice Ao31 t173.length co31, .int .i64 (((l2.take ((ji7) : Int).toNat).drop ((ji8) : Int).toNat).length : Int), .int .i64 2] rfl (by (try simp only [List.map_toArray, List.map_cons, List.map_nil]); first | done | (rw [show ((l2.take ((ji7) : Int).toNat).drop ((ji8) : Int).toNat).length = ((ji7).toNat - (ji8).toNat) from (by rw [List.length_drop, List.length_take]; have h_ : ((ji7) : Int) ≤ (l2.length : Int) := of_decide_eq_true (by first | (with_reducible assumption) | assumption); omega)] <;> rfl) | (simp only [hji7, hji8]; rfl) | rfl | (simp only [List.length_drop, List.length_take]; rfl)) ?_; (with_reducible refine (chatelaineref24_num.calls k1 (fun k_ => some k_ = (.slice Ao31 t173.length co31 : Value).ownBlock) (.slice Ao31 t173.length co31) t173 (((l2.take ((ji7) : Int).toNat).drop ((ji8) : Int).toNat).length : Int) 2 t176 w _ ?side1 ?side2 A16.out).mono ?_); (case side1 => repeat (first | (with_reducible first | exact HB.out | apply below_alloc | apply pw_below_drewN | apply below_drew1) | exact HB.out)); (case side2 => exact Kd.R_tight rfl HO175.out); rintro e w32 ⟨v177, rfl, ho0, hb, hkp⟩; refine ⟨_, rfl, ?_⟩; have n0_ := Aside0.mk (Kd.S_mono (ok' := fun k_ => some k_ ≠ (v177 : Value).ownBlock) (Kd.S_keptB (HO_8.out) hkp (fun k_ hk_ hs_ => (hk_) hs_)) (fun k_ hk_ => fun e_ => Or.elim (ho0.1 k_ e_.symm) (fun hs_ => hk_.2.1 hs_) (fun hn_ => Nat.not_le.2 hk_.2.2 hn_))); have n1_ := Aside0.mk (Kd.R_mono (ok' := fun k_ => True) ho0 (fun k_ hk_ => trivial)); have n2_ := Aside0.mk (hb); clear HO_8; clear HB; clear HO175; have HO_8 := n0_; have HO178 := n1_; have HB := n2_; clear n0_ n1_ n2_; (try clear hb); (try clear hkp); (try clear ho0); (try clear A16); obtain ⟨Ao33, co33, eo33⟩ := Kd.R_slice HO178.out; subst eo33) | ((with_reducible refine gate_callee (f := 39) rfl ?_); refine goesL_ (some 42) rfl rfl Try.func39 (by kernel_rfl) rfl #[.slice Ao33 t176.length co33, .int .i64 0, .int .i64 2] rfl (by (try simp only [List.map_toArray, List.map_cons, List.map_nil]); first | done | rfl | (simp only [List.length_drop, List.length_take]; rfl)) ?_; (with_reducible refine (chatelaineref24_num.calls k1 (fun k_ => some k_ = (.slice Ao33 t176.length co33 : Value).ownBlock) (.slice Ao33 t176.length co33) t176 0 2 t179 w _ ?side1 ?side2 A17.out).mono ?_); (case side1 => repeat (first | (with_reducible first | exact HB.out | apply below_alloc | apply pw_below_drewN | apply below_drew1) | exact HB.out)); (case side2 => exact Kd.R_tight rfl HO178.out); rintro e w34 ⟨v180, rfl, ho0, hb, hkp⟩; refine ⟨_, rfl, ?_⟩; have n0_ := Aside0.mk (Kd.S_mono (ok' := fun k_ => some k_ ≠ (v180 : Value).ownBlock) (Kd.S_keptB (HO_8.out) hkp (fun k_ hk_ hs_ => (hk_) hs_)) (fun k_ hk_ => fun e_ => Or.elim (ho0.1 k_ e_.symm) (fun hs_ => hk_.2.1 hs_) (fun hn_ => Nat.not_le.2 hk_.2.2 hn_))); have n1_ := Aside0.mk (Kd.R_mono (ok' := fun k_ => True) ho0 (fun k_ hk_ => trivial)); have n2_ := Aside0.mk (hb); clear HO_8; clear HB; clear HO178; have HO_8 := n0_; have HO181 := n1_; have HB := n2_; clear n0_ n1_ n2_; (try clear hb); (try clear hkp); (try clear ho0); (try clear A17)) | ((with_reducible refine gate_builtin (b := .append) (xs := #[.tmp 42, .tmp 43]) rfl ?_); at_builtin; refine Kd.R_append_rows (Kd.int .u8) (w0 := w) w.heap.size rfl (.tmp 42) (.tmp 43) 27 5 (.int .u8 0) 1 rfl Try.underlying27 info5 rfl (by decide) (by omega) v180 t179 ((l2.take ((ji7) : Int).toNat).drop ((ji8) : Int).toNat) _ _ _ (fun _ => True) (fun _ => False) rfl rfl ?aO ?aR (fun _ _ h => h) (fun _ h => h.elim) ?aF ?aB ?aS ?aL ?_; (case aR => first | (rw [← show ((l2.take ((ji7) : Int).toNat).drop ((ji8) : Int).toNat).length = ((ji7).toNat - (ji8).toNat) from (by rw [List.length_drop, List.length_take]; have h_ : ((ji7) : Int) ≤ (l2.length : Int) := of_decide_eq_true (by first | (with_reducible assumption) | assumption); omega)]; repeat (first | exact (Kd.C_below HR163.out HB.out) | (with_reducible refine Kd.C_alloc ?_ _) | (with_reducible refine Kd.C_drewN ?_ _) | (with_reducible refine Kd.C_drew ?_))) | (repeat (first | exact (Kd.C_below HR163.out HB.out) | (with_reducible refine Kd.C_alloc ?_ _) | (with_reducible refine Kd.C_drewN ?_ _) | (with_reducible refine Kd.C_drew ?_)))); (case aB => exact (by repeat (first | (with_reducible first | exact HB.out | apply below_alloc | apply pw_below_drewN | apply below_drew1) | exact HB.out))); (case aF => exact (fun _ _ => trivial)); (case aO => exact (by (with_reducible repeat (first | apply Kd.R_alloc | apply Kd.R_drewN | apply Kd.R_drew)); exact HO181.out)); (case aS => exact (below_size (by repeat (first | (with_reducible first | exact HB.out | apply below_alloc | apply pw_below_drewN | apply below_drew1) | exact HB.out)))); (case aL => have := LMc18.out; have hlx_ := (show ((l2.take ((ji7) : Int).toNat).drop ((ji8) : Int).toNat).length = ((ji7).toNat - (ji8).toNat) from (by rw [List.length_drop, List.length_take]; have h_ : ((ji7) : Int) ≤ (l2.length : Int) := of_decide_eq_true (by first | (with_reducible assumption) | assumption); omega)); omega); intro v183 w35 ho hb hg hat; rw [← Ny182.out] at ho; have n0_ := Aside0.mk (Kd.S_after (ok := (fun _ => True)) (by (with_reducible repeat (first | apply Kd.S_alloc | apply Kd.S_drewN | apply Kd.S_drew)); exact Kd.S_mono HO_8.out (fun _ hk => ⟨trivial, hk⟩)) hg hat); have n1_ := Aside0.mk (hb); have n2_ := Aside0.mk (ho); clear HO_8; clear HB; clear HO181; have HO_8 := n0_; have HB := n1_; have HO184 := n2_; clear n0_ n1_ n2_; clear ho hb hg hat; obtain ⟨Ao36, co36, eo36⟩ := Kd.R_slice HO184.out; subst eo36) | (at_builtin; refine Kd.R_append_zeros (Kd.int .u8) (w0 := w) w.heap.size rfl (.tmp 46) (.tmp 49) 27 3 5 (.int .u8 0) 1 rfl Try.underlying27 Try.underlying3 info5 rfl (by decide) (by omega) (.slice Ao36 y182.length co36) y182 0 (ji19 : Int) (fun _ => True) rfl rfl rfl ?aF ?aO (of_decide_eq_true (by first | (with_reducible assumption) | assumption)) ?aB ?aS ?aL ?_; (case aB => exact (by repeat (first | (with_reducible first | exact HB.out | apply below_alloc | apply pw_below_drewN | apply below_drew1) | exact HB.out))); (case aF => exact (fun _ _ => trivial)); (case aO => exact (by (with_reducible repeat (first | apply Kd.R_alloc | apply Kd.R_drewN | apply Kd.R_drew)); exact HO184.out)); (case aS => exact (below_size (by repeat (first | (with_reducible first | exact HB.out | apply below_alloc | apply pw_below_drewN | apply below_drew1) | exact HB.out)))); (case aL => have := LMc21.out; omega); intro v186 w37 ho hb hg hat; rw [← Ny185.out] at ho; have n0_ := Aside0.mk (Kd.S_after (ok := (fun _ => True)) (by (with_reducible repeat (first | apply Kd.S_alloc | apply Kd.S_drewN | apply Kd.S_drew)); exact HO_8.out) hg hat); have n1_ := Aside0.mk (hb); have n2_ := Aside0.mk (ho); clear HO_8; clear HB; clear HO184; have HO_8 := n0_; have HB := n1_; have HO187 := n2_; clear n0_ n1_ n2_; clear ho hb hg hat; obtain ⟨Ao39, co39, eo39⟩ := Kd.R_slice HO187.out; subst eo39) | ((with_reducible refine gate_builtin (b := .append) (xs := #[.tmp 45, .tmp 51]) rfl ?_); at_builtin; refine Kd.S_append (Kd.slice 5 (Kd.int .u8)) (w0 := w) w.heap.size rfl (.tmp 45) (.tmp 51) 22 27 (.slice none 0 0) 24 rfl Try.underlying22 info27 rfl (by decide) (by omega) u8 x8_1 y185 [.slice Ao39 y185.length co39] (fun _ => True) (fun k_ => some k_ = (.slice Ao39 y185.length co39 : Value).ownBlock) rfl rfl ?aP (fun k_ hk_ => ((Kd.R_mono (ok' := fun k_ => ((fun _ => True)) k_ ∧ some k_ ≠ (u8 : Value).ownBlock) (Kd.R_apart' (HO187.out) (Kd.S_typed HO_8.out) (by decide)) (fun k_ hk => ⟨trivial, hk.2⟩))).1 k_ hk_.symm) ?aF ?aO ?aB ?aS ?aL ?_; (case aP => exact Kd.M_row (Kd.R_mono (Kd.R_tight rfl (Kd.R_mono (ok' := fun k_ => ((fun _ => True)) k_ ∧ some k_ ≠ (u8 : Value).ownBlock) (Kd.R_apart' (HO187.out) (Kd.S_typed HO_8.out) (by decide)) (fun k_ hk => ⟨trivial, hk.2⟩))) (fun _ h_ => h_))); (case aB => exact (by repeat (first | (with_reducible first | exact HB.out | apply below_alloc | apply pw_below_drewN | apply below_drew1) | exact HB.out))); (case aF => exact (fun _ _ => trivial)); (case aO => exact (by (with_reducible repeat (first | apply Kd.S_alloc | apply Kd.S_drewN | apply Kd.S_drew)); exact Kd.S_mono HO_8.out (fun k_ hk => ⟨trivial, fun e_ => hk.2 e_⟩))); (case aS => exact (below_size (by repeat (first | (with_reducible first | exact HB.out | apply below_alloc | apply pw_below_drewN | apply below_drew1) | exact HB.out)))); (case aL => have := LMc22.out; omega); intro v189 w38 ho hb hg hat; rw [← Ny188.out] at ho; have n0_ := Aside0.mk (hb); have n1_ := Aside0.mk (ho); clear HB; clear HO_8; clear HO187; have HB := n0_; have HO190 := n1_; clear n0_ n1_; clear ho hb hg hat))
                      go_roundg k1
                      case measure => have := HK1.out; omega
                      case rel => exact ⟨(y188), (wrap64 (x9_1 + 1)), (by first | rfl | (simp; done) | (simp [*]; done)), H', ⟨by have := HK1.out; omega⟩, ⟨by (with_reducible repeat (first | apply Kd.S_alloc | apply Kd.S_drewN | apply Kd.S_drew)); exact HO190.out⟩, ⟨by repeat (first | (with_reducible first | exact HB.out | apply below_alloc | apply pw_below_drewN | apply below_drew1) | exact HB.out)⟩⟩
                    · rw [if_neg c22] at H
                      exact absurd H (by simp)
                  · rw [if_neg c21] at H
                    exact absurd H (by simp)
                · rw [if_neg c20] at H
                  exact absurd H (by simp)
              · rw [if_neg c18] at H
                exact absurd H (by simp)
            · rw [if_neg c11] at H
              exact absurd H (by simp)
          · rw [if_neg c10] at H
            exact absurd H (by simp)
        · rw [if_neg c9] at H
          exact absurd H (by simp)
      · rw [if_neg c6] at H
        have c6b0 : decide (x9_1 < t162) = false := decide_eq_false c6
        clear c6
        obtain rfl := Option.some.inj H
        go_wp2
        go_ret
        exact ⟨_, by first | rfl | (simp [errW_none, errW_some] <;> rfl) | (simp [*, errW_none, errW_some] <;> rfl), by (with_reducible repeat (first | apply Kd.S_alloc | apply Kd.S_drewN | apply Kd.S_drew)); exact HO_8.out, by repeat (first | (with_reducible first | exact HB.out | apply below_alloc | apply pw_below_drewN | apply below_drew1) | exact HB.out)⟩

end Go.Proofs.Ytkiofhmpeokipaa.PTA
