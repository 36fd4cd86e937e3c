-- By a program of this session (wip/myprint.sh) out of the translation; Lean checks it.
import Derived.Test.YtiphpcehmjcejaaPRingx0
import Derived.Test.YtiphpcehmjcejaaPRingx1
import Derived.Test.YtiphpcehmjcejaaPRingx2
import Derived.Test.YtiphpcehmjcejaaPRingx4
import Derived.Test.YtiphpcehmjcejaaPRingx5
import Derived.Test.YtiphpcehmjcejaaPRingx6
import Derived.Test.YtiphpcehmjcejaaPRingx7
namespace Go.Proofs.Ytiphpcehmjcejaa.PRing
open Go.RowKit Go.Proofs.YtiphpcehmjcejaaW.PrintWords Go.Proofs.YtiphpcehmjcejaaW.PrintLast Go.Proofs.YtiphpcehmjcejaaW.PrintMore
attribute [local go_sem] max2_int min2_int max_two min_two max_three min_three max_four min_four   -- for this text's walks alone
set_option linter.unusedVariables false
set_option linter.unusedSimpArgs false

/-! ### chatelainelaw3_RingTells: function 7 -/
def chatelainelaw3_RingTells.j0 : Nat → Int → Int → Int → Bool → Option (Bool)
  | 0, _, _, _, _ => none
  | k + 1, x0, x1, x2, x12 => if x12 = true then ((chatelainelaw3_awake.f k).bind fun t181 => (some t181)) else ((ring_Of.f x0).bind fun t182 => ((chatelaineref3_Of.f x0).bind fun t183 => (if t182 = t183 then ((ring_Add.f x0 x1).bind fun t184 => ((chatelaineref3_Add.f x0 x1).bind fun t185 => (if t184 = t185 then ((ring_Sub.f x0 x1).bind fun t186 => ((chatelaineref3_Sub.f x0 x1).bind fun t187 => (if t186 = t187 then ((ring_Mul.f x0 x1).bind fun t188 => ((chatelaineref3_Mul.f x0 x1).bind fun t189 => (if t188 = t189 then ((ring_Pow.f k x0 x1).bind fun t190 => ((chatelaineref3_Pow.f k x0 x1).bind fun t191 => (if t190 = t191 then ((ring_Root.f k x0).bind fun t192 => ((chatelaineref3_Root.f k x0).bind fun t193 => (if t192 = t193 then ((ring_Squash.f x2 x0).bind fun t194 => ((chatelaineref3_Squash.f x2 x0).bind fun t195 => (if t194 = t195 then ((ring_Stretch.f x2 x0).bind fun t196 => ((chatelaineref3_Stretch.f x2 x0).bind fun t197 => (if t196 = t197 then ((chatelainelaw3_awake.f k).bind fun t198 => (some t198)) else (some false)))) else (some false)))) else (some false)))) else (some false)))) else (some false)))) else (some false)))) else (some false)))) else (some false))))
def chatelainelaw3_RingTells.f (k : Nat) (a0 : Int) (a1 : Int) (a2 : Int) : Option (Bool) := if a0 = (-9223372036854775808) then (chatelainelaw3_RingTells.j0 k a0 a1 a2 true) else (chatelainelaw3_RingTells.j0 k a0 a1 a2 (a1 == (-9223372036854775808)))
theorem chatelainelaw3_RingTells.mono_l : ∀ k, (∀ y0 y1 y2 y3, LeO (chatelainelaw3_RingTells.j0 k y0 y1 y2 y3) (chatelainelaw3_RingTells.j0 (k + 1) y0 y1 y2 y3))
  | 0 => fun _ _ _ _ r h => by simp [chatelainelaw3_RingTells.j0] at h
  | k + 1 => by
    have ih0 := chatelainelaw3_RingTells.mono_l k
    · intro y0 y1 y2 y3
      unfold chatelainelaw3_RingTells.j0
      repeat' first
      | (with_reducible exact ih0 _ _ _ _)
      | (with_reducible exact chatelainelaw3_awake.mono _)
      | (with_reducible exact chatelaineref3_Pow.mono _ _ _)
      | (with_reducible exact chatelaineref3_Root.mono _ _)
      | (with_reducible exact ring_Pow.mono _ _ _)
      | (with_reducible exact ring_Root.mono _ _)
      | (with_reducible exact LeO.refl _)
      | (with_reducible exact LeO.none _)
      | (with_reducible refine LeO.ite ?_ ?_)
      | (with_reducible refine LeO.bind ?_ (fun _ => ?_))
      | exact ih0 _ _ _ _
      | exact chatelainelaw3_awake.mono _
      | exact chatelaineref3_Pow.mono _ _ _
      | exact chatelaineref3_Root.mono _ _
      | exact ring_Pow.mono _ _ _
      | exact ring_Root.mono _ _
      | exact LeO.none _
      | refine LeO.ite ?_ ?_
      | refine LeO.bind ?_ (fun _ => ?_)
theorem chatelainelaw3_RingTells.mono : ∀ a0 a1 a2 k, LeO (chatelainelaw3_RingTells.f k a0 a1 a2) (chatelainelaw3_RingTells.f (k + 1) a0 a1 a2) := by
  intro a0 a1 a2 k
  have ih0 := chatelainelaw3_RingTells.mono_l k
  unfold chatelainelaw3_RingTells.f
  repeat' first
      | (with_reducible exact ih0 _ _ _ _)
      | (with_reducible exact chatelainelaw3_awake.mono _)
      | (with_reducible exact chatelaineref3_Pow.mono _ _ _)
      | (with_reducible exact chatelaineref3_Root.mono _ _)
      | (with_reducible exact ring_Pow.mono _ _ _)
      | (with_reducible exact ring_Root.mono _ _)
      | (with_reducible exact LeO.refl _)
      | (with_reducible exact LeO.none _)
      | (with_reducible refine LeO.ite ?_ ?_)
      | (with_reducible refine LeO.bind ?_ (fun _ => ?_))
      | exact ih0 _ _ _ _
      | exact chatelainelaw3_awake.mono _
      | exact chatelaineref3_Pow.mono _ _ _
      | exact chatelaineref3_Root.mono _ _
      | exact ring_Pow.mono _ _ _
      | exact ring_Root.mono _ _
      | exact LeO.none _
      | refine LeO.ite ?_ ?_
      | refine LeO.bind ?_ (fun _ => ?_)
set_option maxHeartbeats 8000000 in
set_option maxRecDepth 100000 in
theorem chatelainelaw3_RingTells.calls (k : Nat) (a0 : Int) (a1 : Int) (a2 : Int) (r : Bool) (w : World) (h : chatelainelaw3_RingTells.f k a0 a1 a2 = some r) :
    Calls Try.prog 7 #[.int .i64 a0, .int .i64 a1, .int .i64 a2] w fun e w' => e = .returned (.bool r) ∧ Drawn0 w w' := by
  have H : (if a0 = (-9223372036854775808) then (chatelainelaw3_RingTells.j0 k a0 a1 a2 true) else (chatelainelaw3_RingTells.j0 k a0 a1 a2 (a1 == (-9223372036854775808)))) = some r := h
  clear h
  have HC4 := Aside0.mk H
  clear H
  go_enter Try.func7, Try.ntmps7
  simp only [List.append_eq, List.cons_append, List.nil_append]
  go_upto_region 1 with (fail)
  go_cut [12] (fun v12 wc => ∃ (kq : Nat) (x12_3 : Bool), v12 = .bool x12_3 ∧ Aside0 (chatelainelaw3_RingTells.j0 kq a0 a1 a2 x12_3 = some r) ∧ Aside0 (kq ≤ k) ∧ Drawn0 w wc)
  case first =>
    have H := HC4.out
    clear HC4
    by_cases c5 : a0 = (-9223372036854775808)
    · rw [if_pos c5] at H
      have c5b0 : (a0 == (-9223372036854775808)) = true := beq_iff_eq.mpr c5
      have c5b1 : (a0 != (-9223372036854775808)) = false := bne_eq_false_iff_eq.mpr c5
      clear c5
      (first | rw [c5b0] | (simp only [i64_w, i32_w]; rw [c5b0]) | skip)
      have H' := Aside0.mk H
      clear H
      go_wp2
      go_meet
      case rel => exact ⟨_, (true), (by first | rfl | (simp; done) | (simp [*]; done)), H', ⟨by first | omega | exact Nat.le_refl _⟩, by repeat (first | exact Drawn0.refl _ | apply Drawn0.step)⟩
    · rw [if_neg c5] at H
      have c5b0 : (a0 == (-9223372036854775808)) = false := beq_eq_false_iff_ne.mpr c5
      have c5b1 : (a0 != (-9223372036854775808)) = true := bne_iff_ne.mpr c5
      (first | rw [c5b0] | (simp only [i64_w, i32_w]; rw [c5b0]) | skip)
      have H' := Aside0.mk H
      clear H
      go_wp2
      go_meet
      case rel => exact ⟨_, ((a1 == (-9223372036854775808))), (by first | rfl | (simp; done) | (simp [*]; done)), H', ⟨by first | omega | exact Nat.le_refl _⟩, by repeat (first | exact Drawn0.refl _ | apply Drawn0.step)⟩
  case rest =>
    clear HC4
    try clear p2
    try clear c5
    try clear c5b0
    try clear c5b1
    obtain ⟨kq, x12_3, rfl, HA, HJ3, ⟨mc3, rfl⟩⟩ := hcut
    cases kq with
    | zero => exact absurd HA.out (by simp [chatelainelaw3_RingTells.j0])
    | succ kj3 =>
      have H := HA.out
      clear HA
      simp only [chatelainelaw3_RingTells.j0] at H
      by_cases c6 : x12_3 = true
      · subst c6
        have H1 : ((chatelainelaw3_awake.f kj3).bind fun t181 => (some t181)) = some r := by rw [if_pos rfl] at H; exact H
        clear H
        have H := H1
        clear H1
        replace H := Option.bind_eq_some_iff.mp H
        obtain ⟨t181, A70, H⟩ := H
        replace H : (some t181) = some r := H
        have A7 := Aside0.mk A70
        clear A70
        obtain rfl := Option.some.inj H
        go_wp2_with (first | ((with_reducible refine gate_callee (f := 20) rfl ?_); refine goesL_ (some 13) rfl rfl Try.func20 (by kernel_rfl) rfl #[] rfl (by (try simp only [List.map_toArray, List.map_cons, List.map_nil]); first | done | rfl | (simp only [List.length_drop, List.length_take]; rfl)) ?_; (with_reducible refine (chatelainelaw3_awake.calls kj3  t181 _ A7.out).mono ?_); rintro e w' ⟨rfl, ⟨nd, rfl⟩⟩; refine ⟨_, rfl, ?_⟩))
        go_ret
        exact ⟨by first | rfl | (simp; done) | (simp [*]; done), by repeat (first | exact Drawn0.refl _ | apply Drawn0.step)⟩
      · replace c6 := Bool.eq_false_iff.mpr c6
        subst c6
        have H1 : ((ring_Of.f a0).bind fun t182 => ((chatelaineref3_Of.f a0).bind fun t183 => (if t182 = t183 then ((ring_Add.f a0 a1).bind fun t184 => ((chatelaineref3_Add.f a0 a1).bind fun t185 => (if t184 = t185 then ((ring_Sub.f a0 a1).bind fun t186 => ((chatelaineref3_Sub.f a0 a1).bind fun t187 => (if t186 = t187 then ((ring_Mul.f a0 a1).bind fun t188 => ((chatelaineref3_Mul.f a0 a1).bind fun t189 => (if t188 = t189 then ((ring_Pow.f kj3 a0 a1).bind fun t190 => ((chatelaineref3_Pow.f kj3 a0 a1).bind fun t191 => (if t190 = t191 then ((ring_Root.f kj3 a0).bind fun t192 => ((chatelaineref3_Root.f kj3 a0).bind fun t193 => (if t192 = t193 then ((ring_Squash.f a2 a0).bind fun t194 => ((chatelaineref3_Squash.f a2 a0).bind fun t195 => (if t194 = t195 then ((ring_Stretch.f a2 a0).bind fun t196 => ((chatelaineref3_Stretch.f a2 a0).bind fun t197 => (if t196 = t197 then ((chatelainelaw3_awake.f kj3).bind fun t198 => (some t198)) else (some false)))) else (some false)))) else (some false)))) else (some false)))) else (some false)))) else (some false)))) else (some false)))) else (some false)))) = some r := by rw [if_neg (show ¬ (false = true) by decide)] at H; exact H
        clear H
        have H := H1
        clear H1
        replace H := Option.bind_eq_some_iff.mp H
        obtain ⟨t182, A80, H⟩ := H
        replace H : ((chatelaineref3_Of.f a0).bind fun t183 => (if t182 = t183 then ((ring_Add.f a0 a1).bind fun t184 => ((chatelaineref3_Add.f a0 a1).bind fun t185 => (if t184 = t185 then ((ring_Sub.f a0 a1).bind fun t186 => ((chatelaineref3_Sub.f a0 a1).bind fun t187 => (if t186 = t187 then ((ring_Mul.f a0 a1).bind fun t188 => ((chatelaineref3_Mul.f a0 a1).bind fun t189 => (if t188 = t189 then ((ring_Pow.f kj3 a0 a1).bind fun t190 => ((chatelaineref3_Pow.f kj3 a0 a1).bind fun t191 => (if t190 = t191 then ((ring_Root.f kj3 a0).bind fun t192 => ((chatelaineref3_Root.f kj3 a0).bind fun t193 => (if t192 = t193 then ((ring_Squash.f a2 a0).bind fun t194 => ((chatelaineref3_Squash.f a2 a0).bind fun t195 => (if t194 = t195 then ((ring_Stretch.f a2 a0).bind fun t196 => ((chatelaineref3_Stretch.f a2 a0).bind fun t197 => (if t196 = t197 then ((chatelainelaw3_awake.f kj3).bind fun t198 => (some t198)) else (some false)))) else (some false)))) else (some false)))) else (some false)))) else (some false)))) else (some false)))) else (some false)))) else (some false))) = some r := H
        have A8 := Aside0.mk A80
        clear A80
        replace H := Option.bind_eq_some_iff.mp H
        obtain ⟨t183, A90, H⟩ := H
        replace H : (if t182 = t183 then ((ring_Add.f a0 a1).bind fun t184 => ((chatelaineref3_Add.f a0 a1).bind fun t185 => (if t184 = t185 then ((ring_Sub.f a0 a1).bind fun t186 => ((chatelaineref3_Sub.f a0 a1).bind fun t187 => (if t186 = t187 then ((ring_Mul.f a0 a1).bind fun t188 => ((chatelaineref3_Mul.f a0 a1).bind fun t189 => (if t188 = t189 then ((ring_Pow.f kj3 a0 a1).bind fun t190 => ((chatelaineref3_Pow.f kj3 a0 a1).bind fun t191 => (if t190 = t191 then ((ring_Root.f kj3 a0).bind fun t192 => ((chatelaineref3_Root.f kj3 a0).bind fun t193 => (if t192 = t193 then ((ring_Squash.f a2 a0).bind fun t194 => ((chatelaineref3_Squash.f a2 a0).bind fun t195 => (if t194 = t195 then ((ring_Stretch.f a2 a0).bind fun t196 => ((chatelaineref3_Stretch.f a2 a0).bind fun t197 => (if t196 = t197 then ((chatelainelaw3_awake.f kj3).bind fun t198 => (some t198)) else (some false)))) else (some false)))) else (some false)))) else (some false)))) else (some false)))) else (some false)))) else (some false)))) else (some false)) = some r := H
        have A9 := Aside0.mk A90
        clear A90
        by_cases c10 : t182 = t183
        · rw [if_pos c10] at H
          have c10b0 : (t182 == t183) = true := beq_iff_eq.mpr c10
          have c10b1 : (t182 != t183) = false := bne_eq_false_iff_eq.mpr c10
          clear c10
          replace H := Option.bind_eq_some_iff.mp H
          obtain ⟨t184, A110, H⟩ := H
          replace H : ((chatelaineref3_Add.f a0 a1).bind fun t185 => (if t184 = t185 then ((ring_Sub.f a0 a1).bind fun t186 => ((chatelaineref3_Sub.f a0 a1).bind fun t187 => (if t186 = t187 then ((ring_Mul.f a0 a1).bind fun t188 => ((chatelaineref3_Mul.f a0 a1).bind fun t189 => (if t188 = t189 then ((ring_Pow.f kj3 a0 a1).bind fun t190 => ((chatelaineref3_Pow.f kj3 a0 a1).bind fun t191 => (if t190 = t191 then ((ring_Root.f kj3 a0).bind fun t192 => ((chatelaineref3_Root.f kj3 a0).bind fun t193 => (if t192 = t193 then ((ring_Squash.f a2 a0).bind fun t194 => ((chatelaineref3_Squash.f a2 a0).bind fun t195 => (if t194 = t195 then ((ring_Stretch.f a2 a0).bind fun t196 => ((chatelaineref3_Stretch.f a2 a0).bind fun t197 => (if t196 = t197 then ((chatelainelaw3_awake.f kj3).bind fun t198 => (some t198)) else (some false)))) else (some false)))) else (some false)))) else (some false)))) else (some false)))) else (some false)))) else (some false))) = some r := H
          have A11 := Aside0.mk A110
          clear A110
          replace H := Option.bind_eq_some_iff.mp H
          obtain ⟨t185, A120, H⟩ := H
          replace H : (if t184 = t185 then ((ring_Sub.f a0 a1).bind fun t186 => ((chatelaineref3_Sub.f a0 a1).bind fun t187 => (if t186 = t187 then ((ring_Mul.f a0 a1).bind fun t188 => ((chatelaineref3_Mul.f a0 a1).bind fun t189 => (if t188 = t189 then ((ring_Pow.f kj3 a0 a1).bind fun t190 => ((chatelaineref3_Pow.f kj3 a0 a1).bind fun t191 => (if t190 = t191 then ((ring_Root.f kj3 a0).bind fun t192 => ((chatelaineref3_Root.f kj3 a0).bind fun t193 => (if t192 = t193 then ((ring_Squash.f a2 a0).bind fun t194 => ((chatelaineref3_Squash.f a2 a0).bind fun t195 => (if t194 = t195 then ((ring_Stretch.f a2 a0).bind fun t196 => ((chatelaineref3_Stretch.f a2 a0).bind fun t197 => (if t196 = t197 then ((chatelainelaw3_awake.f kj3).bind fun t198 => (some t198)) else (some false)))) else (some false)))) else (some false)))) else (some false)))) else (some false)))) else (some false)))) else (some false)) = some r := H
          have A12 := Aside0.mk A120
          clear A120
          by_cases c13 : t184 = t185
          · rw [if_pos c13] at H
            have c13b0 : (t184 == t185) = true := beq_iff_eq.mpr c13
            have c13b1 : (t184 != t185) = false := bne_eq_false_iff_eq.mpr c13
            clear c13
            replace H := Option.bind_eq_some_iff.mp H
            obtain ⟨t186, A140, H⟩ := H
            replace H : ((chatelaineref3_Sub.f a0 a1).bind fun t187 => (if t186 = t187 then ((ring_Mul.f a0 a1).bind fun t188 => ((chatelaineref3_Mul.f a0 a1).bind fun t189 => (if t188 = t189 then ((ring_Pow.f kj3 a0 a1).bind fun t190 => ((chatelaineref3_Pow.f kj3 a0 a1).bind fun t191 => (if t190 = t191 then ((ring_Root.f kj3 a0).bind fun t192 => ((chatelaineref3_Root.f kj3 a0).bind fun t193 => (if t192 = t193 then ((ring_Squash.f a2 a0).bind fun t194 => ((chatelaineref3_Squash.f a2 a0).bind fun t195 => (if t194 = t195 then ((ring_Stretch.f a2 a0).bind fun t196 => ((chatelaineref3_Stretch.f a2 a0).bind fun t197 => (if t196 = t197 then ((chatelainelaw3_awake.f kj3).bind fun t198 => (some t198)) else (some false)))) else (some false)))) else (some false)))) else (some false)))) else (some false)))) else (some false))) = some r := H
            have A14 := Aside0.mk A140
            clear A140
            replace H := Option.bind_eq_some_iff.mp H
            obtain ⟨t187, A150, H⟩ := H
            replace H : (if t186 = t187 then ((ring_Mul.f a0 a1).bind fun t188 => ((chatelaineref3_Mul.f a0 a1).bind fun t189 => (if t188 = t189 then ((ring_Pow.f kj3 a0 a1).bind fun t190 => ((chatelaineref3_Pow.f kj3 a0 a1).bind fun t191 => (if t190 = t191 then ((ring_Root.f kj3 a0).bind fun t192 => ((chatelaineref3_Root.f kj3 a0).bind fun t193 => (if t192 = t193 then ((ring_Squash.f a2 a0).bind fun t194 => ((chatelaineref3_Squash.f a2 a0).bind fun t195 => (if t194 = t195 then ((ring_Stretch.f a2 a0).bind fun t196 => ((chatelaineref3_Stretch.f a2 a0).bind fun t197 => (if t196 = t197 then ((chatelainelaw3_awake.f kj3).bind fun t198 => (some t198)) else (some false)))) else (some false)))) else (some false)))) else (some false)))) else (some false)))) else (some false)) = some r := H
            have A15 := Aside0.mk A150
            clear A150
            by_cases c16 : t186 = t187
            · rw [if_pos c16] at H
              have c16b0 : (t186 == t187) = true := beq_iff_eq.mpr c16
              have c16b1 : (t186 != t187) = false := bne_eq_false_iff_eq.mpr c16
              clear c16
              replace H := Option.bind_eq_some_iff.mp H
              obtain ⟨t188, A170, H⟩ := H
              replace H : ((chatelaineref3_Mul.f a0 a1).bind fun t189 => (if t188 = t189 then ((ring_Pow.f kj3 a0 a1).bind fun t190 => ((chatelaineref3_Pow.f kj3 a0 a1).bind fun t191 => (if t190 = t191 then ((ring_Root.f kj3 a0).bind fun t192 => ((chatelaineref3_Root.f kj3 a0).bind fun t193 => (if t192 = t193 then ((ring_Squash.f a2 a0).bind fun t194 => ((chatelaineref3_Squash.f a2 a0).bind fun t195 => (if t194 = t195 then ((ring_Stretch.f a2 a0).bind fun t196 => ((chatelaineref3_Stretch.f a2 a0).bind fun t197 => (if t196 = t197 then ((chatelainelaw3_awake.f kj3).bind fun t198 => (some t198)) else (some false)))) else (some false)))) else (some false)))) else (some false)))) else (some false))) = some r := H
              have A17 := Aside0.mk A170
              clear A170
              replace H := Option.bind_eq_some_iff.mp H
              obtain ⟨t189, A180, H⟩ := H
              replace H : (if t188 = t189 then ((ring_Pow.f kj3 a0 a1).bind fun t190 => ((chatelaineref3_Pow.f kj3 a0 a1).bind fun t191 => (if t190 = t191 then ((ring_Root.f kj3 a0).bind fun t192 => ((chatelaineref3_Root.f kj3 a0).bind fun t193 => (if t192 = t193 then ((ring_Squash.f a2 a0).bind fun t194 => ((chatelaineref3_Squash.f a2 a0).bind fun t195 => (if t194 = t195 then ((ring_Stretch.f a2 a0).bind fun t196 => ((chatelaineref3_Stretch.f a2 a0).bind fun t197 => (if t196 = t197 then ((chatelainelaw3_awake.f kj3).bind fun t198 => (some t198)) else (some false)))) else (some false)))) else (some false)))) else (some false)))) else (some false)) = some r := H
              have A18 := Aside0.mk A180
              clear A180
              by_cases c19 : t188 = t189
              · rw [if_pos c19] at H
                have c19b0 : (t188 == t189) = true := beq_iff_eq.mpr c19
                have c19b1 : (t188 != t189) = false := bne_eq_false_iff_eq.mpr c19
                clear c19
                replace H := Option.bind_eq_some_iff.mp H
                obtain ⟨t190, A200, H⟩ := H
                replace H : ((chatelaineref3_Pow.f kj3 a0 a1).bind fun t191 => (if t190 = t191 then ((ring_Root.f kj3 a0).bind fun t192 => ((chatelaineref3_Root.f kj3 a0).bind fun t193 => (if t192 = t193 then ((ring_Squash.f a2 a0).bind fun t194 => ((chatelaineref3_Squash.f a2 a0).bind fun t195 => (if t194 = t195 then ((ring_Stretch.f a2 a0).bind fun t196 => ((chatelaineref3_Stretch.f a2 a0).bind fun t197 => (if t196 = t197 then ((chatelainelaw3_awake.f kj3).bind fun t198 => (some t198)) else (some false)))) else (some false)))) else (some false)))) else (some false))) = some r := H
                have A20 := Aside0.mk A200
                clear A200
                replace H := Option.bind_eq_some_iff.mp H
                obtain ⟨t191, A210, H⟩ := H
                replace H : (if t190 = t191 then ((ring_Root.f kj3 a0).bind fun t192 => ((chatelaineref3_Root.f kj3 a0).bind fun t193 => (if t192 = t193 then ((ring_Squash.f a2 a0).bind fun t194 => ((chatelaineref3_Squash.f a2 a0).bind fun t195 => (if t194 = t195 then ((ring_Stretch.f a2 a0).bind fun t196 => ((chatelaineref3_Stretch.f a2 a0).bind fun t197 => (if t196 = t197 then ((chatelainelaw3_awake.f kj3).bind fun t198 => (some t198)) else (some false)))) else (some false)))) else (some false)))) else (some false)) = some r := H
                have A21 := Aside0.mk A210
                clear A210
                by_cases c22 : t190 = t191
                · rw [if_pos c22] at H
                  have c22b0 : (t190 == t191) = true := beq_iff_eq.mpr c22
                  have c22b1 : (t190 != t191) = false := bne_eq_false_iff_eq.mpr c22
                  clear c22
                  replace H := Option.bind_eq_some_iff.mp H
                  obtain ⟨t192, A230, H⟩ := H
                  replace H : ((chatelaineref3_Root.f kj3 a0).bind fun t193 => (if t192 = t193 then ((ring_Squash.f a2 a0).bind fun t194 => ((chatelaineref3_Squash.f a2 a0).bind fun t195 => (if t194 = t195 then ((ring_Stretch.f a2 a0).bind fun t196 => ((chatelaineref3_Stretch.f a2 a0).bind fun t197 => (if t196 = t197 then ((chatelainelaw3_awake.f kj3).bind fun t198 => (some t198)) else (some false)))) else (some false)))) else (some false))) = some r := H
                  have A23 := Aside0.mk A230
                  clear A230
                  replace H := Option.bind_eq_some_iff.mp H
                  obtain ⟨t193, A240, H⟩ := H
                  replace H : (if t192 = t193 then ((ring_Squash.f a2 a0).bind fun t194 => ((chatelaineref3_Squash.f a2 a0).bind fun t195 => (if t194 = t195 then ((ring_Stretch.f a2 a0).bind fun t196 => ((chatelaineref3_Stretch.f a2 a0).bind fun t197 => (if t196 = t197 then ((chatelainelaw3_awake.f kj3).bind fun t198 => (some t198)) else (some false)))) else (some false)))) else (some false)) = some r := H
                  have A24 := Aside0.mk A240
                  clear A240
                  by_cases c25 : t192 = t193
                  · rw [if_pos c25] at H
                    have c25b0 : (t192 == t193) = true := beq_iff_eq.mpr c25
                    have c25b1 : (t192 != t193) = false := bne_eq_false_iff_eq.mpr c25
                    clear c25
                    replace H := Option.bind_eq_some_iff.mp H
                    obtain ⟨t194, A260, H⟩ := H
                    replace H : ((chatelaineref3_Squash.f a2 a0).bind fun t195 => (if t194 = t195 then ((ring_Stretch.f a2 a0).bind fun t196 => ((chatelaineref3_Stretch.f a2 a0).bind fun t197 => (if t196 = t197 then ((chatelainelaw3_awake.f kj3).bind fun t198 => (some t198)) else (some false)))) else (some false))) = some r := H
                    have A26 := Aside0.mk A260
                    clear A260
                    replace H := Option.bind_eq_some_iff.mp H
                    obtain ⟨t195, A270, H⟩ := H
                    replace H : (if t194 = t195 then ((ring_Stretch.f a2 a0).bind fun t196 => ((chatelaineref3_Stretch.f a2 a0).bind fun t197 => (if t196 = t197 then ((chatelainelaw3_awake.f kj3).bind fun t198 => (some t198)) else (some false)))) else (some false)) = some r := H
                    have A27 := Aside0.mk A270
                    clear A270
                    by_cases c28 : t194 = t195
                    · rw [if_pos c28] at H
                      have c28b0 : (t194 == t195) = true := beq_iff_eq.mpr c28
                      have c28b1 : (t194 != t195) = false := bne_eq_false_iff_eq.mpr c28
                      clear c28
                      replace H := Option.bind_eq_some_iff.mp H
                      obtain ⟨t196, A290, H⟩ := H
                      replace H : ((chatelaineref3_Stretch.f a2 a0).bind fun t197 => (if t196 = t197 then ((chatelainelaw3_awake.f kj3).bind fun t198 => (some t198)) else (some false))) = some r := H
                      have A29 := Aside0.mk A290
                      clear A290
                      replace H := Option.bind_eq_some_iff.mp H
                      obtain ⟨t197, A300, H⟩ := H
                      replace H : (if t196 = t197 then ((chatelainelaw3_awake.f kj3).bind fun t198 => (some t198)) else (some false)) = some r := H
                      have A30 := Aside0.mk A300
                      clear A300
                      by_cases c31 : t196 = t197
                      · rw [if_pos c31] at H
                        have c31b0 : (t196 == t197) = true := beq_iff_eq.mpr c31
                        have c31b1 : (t196 != t197) = false := bne_eq_false_iff_eq.mpr c31
                        clear c31
                        replace H := Option.bind_eq_some_iff.mp H
                        obtain ⟨t198, A320, H⟩ := H
                        replace H : (some t198) = some r := H
                        have A32 := Aside0.mk A320
                        clear A320
                        obtain rfl := Option.some.inj H
                        go_wp2_with (first | ((with_reducible refine gate_callee (f := 25) rfl ?_); refine goesL_ (some 15) rfl rfl Try.func25 (by kernel_rfl) rfl #[.int .i64 a0] rfl (by (try simp only [List.map_toArray, List.map_cons, List.map_nil]); first | done | rfl | (simp only [List.length_drop, List.length_take]; rfl)) ?_; (with_reducible refine (ring_Of.calls a0 t182 _ A8.out).mono ?_); rintro e w' ⟨rfl, ⟨nd, rfl⟩⟩; refine ⟨_, rfl, ?_⟩) | ((with_reducible refine gate_callee (f := 26) rfl ?_); refine goesL_ (some 17) rfl rfl Try.func26 (by kernel_rfl) rfl #[.int .i64 a0] rfl (by (try simp only [List.map_toArray, List.map_cons, List.map_nil]); first | done | rfl | (simp only [List.length_drop, List.length_take]; rfl)) ?_; (with_reducible refine (chatelaineref3_Of.calls a0 t183 _ A9.out).mono ?_); rintro e w' ⟨rfl, ⟨nd, rfl⟩⟩; refine ⟨_, rfl, ?_⟩) | (go_at_call 27; (with_reducible refine (ring_Add.calls a0 a1 t184 _ A11.out).mono ?_); rintro e w' ⟨rfl, ⟨nd, rfl⟩⟩) | (go_at_call 28; (with_reducible refine (chatelaineref3_Add.calls a0 a1 t185 _ A12.out).mono ?_); rintro e w' ⟨rfl, ⟨nd, rfl⟩⟩) | (go_at_call 21; (with_reducible refine (ring_Sub.calls a0 a1 t186 _ A14.out).mono ?_); rintro e w' ⟨rfl, ⟨nd, rfl⟩⟩) | (go_at_call 29; (with_reducible refine (chatelaineref3_Sub.calls a0 a1 t187 _ A15.out).mono ?_); rintro e w' ⟨rfl, ⟨nd, rfl⟩⟩) | (go_at_call 22; (with_reducible refine (ring_Mul.calls a0 a1 t188 _ A17.out).mono ?_); rintro e w' ⟨rfl, ⟨nd, rfl⟩⟩) | (go_at_call 30; (with_reducible refine (chatelaineref3_Mul.calls a0 a1 t189 _ A18.out).mono ?_); rintro e w' ⟨rfl, ⟨nd, rfl⟩⟩) | (go_at_call 24; (with_reducible refine (ring_Pow.calls kj3 a0 a1 t190 _ A20.out).mono ?_); rintro e w' ⟨rfl, ⟨nd, rfl⟩⟩) | (go_at_call 31; (with_reducible refine (chatelaineref3_Pow.calls kj3 a0 a1 t191 _ A21.out).mono ?_); rintro e w' ⟨rfl, ⟨nd, rfl⟩⟩) | (go_at_call 23; (with_reducible refine (ring_Root.calls kj3 a0 t192 _ A23.out).mono ?_); rintro e w' ⟨rfl, ⟨nd, rfl⟩⟩) | (go_at_call 32; (with_reducible refine (chatelaineref3_Root.calls kj3 a0 t193 _ A24.out).mono ?_); rintro e w' ⟨rfl, ⟨nd, rfl⟩⟩) | (go_at_call 19; (with_reducible refine (ring_Squash.calls a2 a0 t194 _ A26.out).mono ?_); rintro e w' ⟨rfl, ⟨nd, rfl⟩⟩) | (go_at_call 33; (with_reducible refine (chatelaineref3_Squash.calls a2 a0 t195 _ A27.out).mono ?_); rintro e w' ⟨rfl, ⟨nd, rfl⟩⟩) | (go_at_call 18; (with_reducible refine (ring_Stretch.calls a2 a0 t196 _ A29.out).mono ?_); rintro e w' ⟨rfl, ⟨nd, rfl⟩⟩) | (go_at_call 34; (with_reducible refine (chatelaineref3_Stretch.calls a2 a0 t197 _ A30.out).mono ?_); rintro e w' ⟨rfl, ⟨nd, rfl⟩⟩) | (go_at_call 20; (with_reducible refine (chatelainelaw3_awake.calls kj3  t198 _ A32.out).mono ?_); rintro e w' ⟨rfl, ⟨nd, rfl⟩⟩))
                        go_ret
                        exact ⟨by first | rfl | (simp; done) | (simp [*]; done), by repeat (first | exact Drawn0.refl _ | apply Drawn0.step)⟩
                      · rw [if_neg c31] at H
                        have c31b0 : (t196 == t197) = false := beq_eq_false_iff_ne.mpr c31
                        have c31b1 : (t196 != t197) = true := bne_iff_ne.mpr c31
                        obtain rfl := Option.some.inj H
                        go_wp2_with (first | ((with_reducible refine gate_callee (f := 25) rfl ?_); refine goesL_ (some 15) rfl rfl Try.func25 (by kernel_rfl) rfl #[.int .i64 a0] rfl (by (try simp only [List.map_toArray, List.map_cons, List.map_nil]); first | done | rfl | (simp only [List.length_drop, List.length_take]; rfl)) ?_; (with_reducible refine (ring_Of.calls a0 t182 _ A8.out).mono ?_); rintro e w' ⟨rfl, ⟨nd, rfl⟩⟩; refine ⟨_, rfl, ?_⟩) | ((with_reducible refine gate_callee (f := 26) rfl ?_); refine goesL_ (some 17) rfl rfl Try.func26 (by kernel_rfl) rfl #[.int .i64 a0] rfl (by (try simp only [List.map_toArray, List.map_cons, List.map_nil]); first | done | rfl | (simp only [List.length_drop, List.length_take]; rfl)) ?_; (with_reducible refine (chatelaineref3_Of.calls a0 t183 _ A9.out).mono ?_); rintro e w' ⟨rfl, ⟨nd, rfl⟩⟩; refine ⟨_, rfl, ?_⟩) | (go_at_call 27; (with_reducible refine (ring_Add.calls a0 a1 t184 _ A11.out).mono ?_); rintro e w' ⟨rfl, ⟨nd, rfl⟩⟩) | (go_at_call 28; (with_reducible refine (chatelaineref3_Add.calls a0 a1 t185 _ A12.out).mono ?_); rintro e w' ⟨rfl, ⟨nd, rfl⟩⟩) | (go_at_call 21; (with_reducible refine (ring_Sub.calls a0 a1 t186 _ A14.out).mono ?_); rintro e w' ⟨rfl, ⟨nd, rfl⟩⟩) | (go_at_call 29; (with_reducible refine (chatelaineref3_Sub.calls a0 a1 t187 _ A15.out).mono ?_); rintro e w' ⟨rfl, ⟨nd, rfl⟩⟩) | (go_at_call 22; (with_reducible refine (ring_Mul.calls a0 a1 t188 _ A17.out).mono ?_); rintro e w' ⟨rfl, ⟨nd, rfl⟩⟩) | (go_at_call 30; (with_reducible refine (chatelaineref3_Mul.calls a0 a1 t189 _ A18.out).mono ?_); rintro e w' ⟨rfl, ⟨nd, rfl⟩⟩) | (go_at_call 24; (with_reducible refine (ring_Pow.calls kj3 a0 a1 t190 _ A20.out).mono ?_); rintro e w' ⟨rfl, ⟨nd, rfl⟩⟩) | (go_at_call 31; (with_reducible refine (chatelaineref3_Pow.calls kj3 a0 a1 t191 _ A21.out).mono ?_); rintro e w' ⟨rfl, ⟨nd, rfl⟩⟩) | (go_at_call 23; (with_reducible refine (ring_Root.calls kj3 a0 t192 _ A23.out).mono ?_); rintro e w' ⟨rfl, ⟨nd, rfl⟩⟩) | (go_at_call 32; (with_reducible refine (chatelaineref3_Root.calls kj3 a0 t193 _ A24.out).mono ?_); rintro e w' ⟨rfl, ⟨nd, rfl⟩⟩) | (go_at_call 19; (with_reducible refine (ring_Squash.calls a2 a0 t194 _ A26.out).mono ?_); rintro e w' ⟨rfl, ⟨nd, rfl⟩⟩) | (go_at_call 33; (with_reducible refine (chatelaineref3_Squash.calls a2 a0 t195 _ A27.out).mono ?_); rintro e w' ⟨rfl, ⟨nd, rfl⟩⟩) | (go_at_call 18; (with_reducible refine (ring_Stretch.calls a2 a0 t196 _ A29.out).mono ?_); rintro e w' ⟨rfl, ⟨nd, rfl⟩⟩) | (go_at_call 34; (with_reducible refine (chatelaineref3_Stretch.calls a2 a0 t197 _ A30.out).mono ?_); rintro e w' ⟨rfl, ⟨nd, rfl⟩⟩))
                        go_ret
                        exact ⟨by first | rfl | (simp; done) | (simp [*]; done), by repeat (first | exact Drawn0.refl _ | apply Drawn0.step)⟩
                    · rw [if_neg c28] at H
                      have c28b0 : (t194 == t195) = false := beq_eq_false_iff_ne.mpr c28
                      have c28b1 : (t194 != t195) = true := bne_iff_ne.mpr c28
                      obtain rfl := Option.some.inj H
                      go_wp2_with (first | ((with_reducible refine gate_callee (f := 25) rfl ?_); refine goesL_ (some 15) rfl rfl Try.func25 (by kernel_rfl) rfl #[.int .i64 a0] rfl (by (try simp only [List.map_toArray, List.map_cons, List.map_nil]); first | done | rfl | (simp only [List.length_drop, List.length_take]; rfl)) ?_; (with_reducible refine (ring_Of.calls a0 t182 _ A8.out).mono ?_); rintro e w' ⟨rfl, ⟨nd, rfl⟩⟩; refine ⟨_, rfl, ?_⟩) | ((with_reducible refine gate_callee (f := 26) rfl ?_); refine goesL_ (some 17) rfl rfl Try.func26 (by kernel_rfl) rfl #[.int .i64 a0] rfl (by (try simp only [List.map_toArray, List.map_cons, List.map_nil]); first | done | rfl | (simp only [List.length_drop, List.length_take]; rfl)) ?_; (with_reducible refine (chatelaineref3_Of.calls a0 t183 _ A9.out).mono ?_); rintro e w' ⟨rfl, ⟨nd, rfl⟩⟩; refine ⟨_, rfl, ?_⟩) | (go_at_call 27; (with_reducible refine (ring_Add.calls a0 a1 t184 _ A11.out).mono ?_); rintro e w' ⟨rfl, ⟨nd, rfl⟩⟩) | (go_at_call 28; (with_reducible refine (chatelaineref3_Add.calls a0 a1 t185 _ A12.out).mono ?_); rintro e w' ⟨rfl, ⟨nd, rfl⟩⟩) | (go_at_call 21; (with_reducible refine (ring_Sub.calls a0 a1 t186 _ A14.out).mono ?_); rintro e w' ⟨rfl, ⟨nd, rfl⟩⟩) | (go_at_call 29; (with_reducible refine (chatelaineref3_Sub.calls a0 a1 t187 _ A15.out).mono ?_); rintro e w' ⟨rfl, ⟨nd, rfl⟩⟩) | (go_at_call 22; (with_reducible refine (ring_Mul.calls a0 a1 t188 _ A17.out).mono ?_); rintro e w' ⟨rfl, ⟨nd, rfl⟩⟩) | (go_at_call 30; (with_reducible refine (chatelaineref3_Mul.calls a0 a1 t189 _ A18.out).mono ?_); rintro e w' ⟨rfl, ⟨nd, rfl⟩⟩) | (go_at_call 24; (with_reducible refine (ring_Pow.calls kj3 a0 a1 t190 _ A20.out).mono ?_); rintro e w' ⟨rfl, ⟨nd, rfl⟩⟩) | (go_at_call 31; (with_reducible refine (chatelaineref3_Pow.calls kj3 a0 a1 t191 _ A21.out).mono ?_); rintro e w' ⟨rfl, ⟨nd, rfl⟩⟩) | (go_at_call 23; (with_reducible refine (ring_Root.calls kj3 a0 t192 _ A23.out).mono ?_); rintro e w' ⟨rfl, ⟨nd, rfl⟩⟩) | (go_at_call 32; (with_reducible refine (chatelaineref3_Root.calls kj3 a0 t193 _ A24.out).mono ?_); rintro e w' ⟨rfl, ⟨nd, rfl⟩⟩) | (go_at_call 19; (with_reducible refine (ring_Squash.calls a2 a0 t194 _ A26.out).mono ?_); rintro e w' ⟨rfl, ⟨nd, rfl⟩⟩) | (go_at_call 33; (with_reducible refine (chatelaineref3_Squash.calls a2 a0 t195 _ A27.out).mono ?_); rintro e w' ⟨rfl, ⟨nd, rfl⟩⟩))
                      go_ret
                      exact ⟨by first | rfl | (simp; done) | (simp [*]; done), by repeat (first | exact Drawn0.refl _ | apply Drawn0.step)⟩
                  · rw [if_neg c25] at H
                    have c25b0 : (t192 == t193) = false := beq_eq_false_iff_ne.mpr c25
                    have c25b1 : (t192 != t193) = true := bne_iff_ne.mpr c25
                    obtain rfl := Option.some.inj H
                    go_wp2_with (first | ((with_reducible refine gate_callee (f := 25) rfl ?_); refine goesL_ (some 15) rfl rfl Try.func25 (by kernel_rfl) rfl #[.int .i64 a0] rfl (by (try simp only [List.map_toArray, List.map_cons, List.map_nil]); first | done | rfl | (simp only [List.length_drop, List.length_take]; rfl)) ?_; (with_reducible refine (ring_Of.calls a0 t182 _ A8.out).mono ?_); rintro e w' ⟨rfl, ⟨nd, rfl⟩⟩; refine ⟨_, rfl, ?_⟩) | ((with_reducible refine gate_callee (f := 26) rfl ?_); refine goesL_ (some 17) rfl rfl Try.func26 (by kernel_rfl) rfl #[.int .i64 a0] rfl (by (try simp only [List.map_toArray, List.map_cons, List.map_nil]); first | done | rfl | (simp only [List.length_drop, List.length_take]; rfl)) ?_; (with_reducible refine (chatelaineref3_Of.calls a0 t183 _ A9.out).mono ?_); rintro e w' ⟨rfl, ⟨nd, rfl⟩⟩; refine ⟨_, rfl, ?_⟩) | (go_at_call 27; (with_reducible refine (ring_Add.calls a0 a1 t184 _ A11.out).mono ?_); rintro e w' ⟨rfl, ⟨nd, rfl⟩⟩) | (go_at_call 28; (with_reducible refine (chatelaineref3_Add.calls a0 a1 t185 _ A12.out).mono ?_); rintro e w' ⟨rfl, ⟨nd, rfl⟩⟩) | (go_at_call 21; (with_reducible refine (ring_Sub.calls a0 a1 t186 _ A14.out).mono ?_); rintro e w' ⟨rfl, ⟨nd, rfl⟩⟩) | (go_at_call 29; (with_reducible refine (chatelaineref3_Sub.calls a0 a1 t187 _ A15.out).mono ?_); rintro e w' ⟨rfl, ⟨nd, rfl⟩⟩) | (go_at_call 22; (with_reducible refine (ring_Mul.calls a0 a1 t188 _ A17.out).mono ?_); rintro e w' ⟨rfl, ⟨nd, rfl⟩⟩) | (go_at_call 30; (with_reducible refine (chatelaineref3_Mul.calls a0 a1 t189 _ A18.out).mono ?_); rintro e w' ⟨rfl, ⟨nd, rfl⟩⟩) | (go_at_call 24; (with_reducible refine (ring_Pow.calls kj3 a0 a1 t190 _ A20.out).mono ?_); rintro e w' ⟨rfl, ⟨nd, rfl⟩⟩) | (go_at_call 31; (with_reducible refine (chatelaineref3_Pow.calls kj3 a0 a1 t191 _ A21.out).mono ?_); rintro e w' ⟨rfl, ⟨nd, rfl⟩⟩) | (go_at_call 23; (with_reducible refine (ring_Root.calls kj3 a0 t192 _ A23.out).mono ?_); rintro e w' ⟨rfl, ⟨nd, rfl⟩⟩) | (go_at_call 32; (with_reducible refine (chatelaineref3_Root.calls kj3 a0 t193 _ A24.out).mono ?_); rintro e w' ⟨rfl, ⟨nd, rfl⟩⟩))
                    go_ret
                    exact ⟨by first | rfl | (simp; done) | (simp [*]; done), by repeat (first | exact Drawn0.refl _ | apply Drawn0.step)⟩
                · rw [if_neg c22] at H
                  have c22b0 : (t190 == t191) = false := beq_eq_false_iff_ne.mpr c22
                  have c22b1 : (t190 != t191) = true := bne_iff_ne.mpr c22
                  obtain rfl := Option.some.inj H
                  go_wp2_with (first | ((with_reducible refine gate_callee (f := 25) rfl ?_); refine goesL_ (some 15) rfl rfl Try.func25 (by kernel_rfl) rfl #[.int .i64 a0] rfl (by (try simp only [List.map_toArray, List.map_cons, List.map_nil]); first | done | rfl | (simp only [List.length_drop, List.length_take]; rfl)) ?_; (with_reducible refine (ring_Of.calls a0 t182 _ A8.out).mono ?_); rintro e w' ⟨rfl, ⟨nd, rfl⟩⟩; refine ⟨_, rfl, ?_⟩) | ((with_reducible refine gate_callee (f := 26) rfl ?_); refine goesL_ (some 17) rfl rfl Try.func26 (by kernel_rfl) rfl #[.int .i64 a0] rfl (by (try simp only [List.map_toArray, List.map_cons, List.map_nil]); first | done | rfl | (simp only [List.length_drop, List.length_take]; rfl)) ?_; (with_reducible refine (chatelaineref3_Of.calls a0 t183 _ A9.out).mono ?_); rintro e w' ⟨rfl, ⟨nd, rfl⟩⟩; refine ⟨_, rfl, ?_⟩) | (go_at_call 27; (with_reducible refine (ring_Add.calls a0 a1 t184 _ A11.out).mono ?_); rintro e w' ⟨rfl, ⟨nd, rfl⟩⟩) | (go_at_call 28; (with_reducible refine (chatelaineref3_Add.calls a0 a1 t185 _ A12.out).mono ?_); rintro e w' ⟨rfl, ⟨nd, rfl⟩⟩) | (go_at_call 21; (with_reducible refine (ring_Sub.calls a0 a1 t186 _ A14.out).mono ?_); rintro e w' ⟨rfl, ⟨nd, rfl⟩⟩) | (go_at_call 29; (with_reducible refine (chatelaineref3_Sub.calls a0 a1 t187 _ A15.out).mono ?_); rintro e w' ⟨rfl, ⟨nd, rfl⟩⟩) | (go_at_call 22; (with_reducible refine (ring_Mul.calls a0 a1 t188 _ A17.out).mono ?_); rintro e w' ⟨rfl, ⟨nd, rfl⟩⟩) | (go_at_call 30; (with_reducible refine (chatelaineref3_Mul.calls a0 a1 t189 _ A18.out).mono ?_); rintro e w' ⟨rfl, ⟨nd, rfl⟩⟩) | (go_at_call 24; (with_reducible refine (ring_Pow.calls kj3 a0 a1 t190 _ A20.out).mono ?_); rintro e w' ⟨rfl, ⟨nd, rfl⟩⟩) | (go_at_call 31; (with_reducible refine (chatelaineref3_Pow.calls kj3 a0 a1 t191 _ A21.out).mono ?_); rintro e w' ⟨rfl, ⟨nd, rfl⟩⟩))
                  go_ret
                  exact ⟨by first | rfl | (simp; done) | (simp [*]; done), by repeat (first | exact Drawn0.refl _ | apply Drawn0.step)⟩
              · rw [if_neg c19] at H
                have c19b0 : (t188 == t189) = false := beq_eq_false_iff_ne.mpr c19
                have c19b1 : (t188 != t189) = true := bne_iff_ne.mpr c19
                obtain rfl := Option.some.inj H
                go_wp2_with (first | ((with_reducible refine gate_callee (f := 25) rfl ?_); refine goesL_ (some 15) rfl rfl Try.func25 (by kernel_rfl) rfl #[.int .i64 a0] rfl (by (try simp only [List.map_toArray, List.map_cons, List.map_nil]); first | done | rfl | (simp only [List.length_drop, List.length_take]; rfl)) ?_; (with_reducible refine (ring_Of.calls a0 t182 _ A8.out).mono ?_); rintro e w' ⟨rfl, ⟨nd, rfl⟩⟩; refine ⟨_, rfl, ?_⟩) | ((with_reducible refine gate_callee (f := 26) rfl ?_); refine goesL_ (some 17) rfl rfl Try.func26 (by kernel_rfl) rfl #[.int .i64 a0] rfl (by (try simp only [List.map_toArray, List.map_cons, List.map_nil]); first | done | rfl | (simp only [List.length_drop, List.length_take]; rfl)) ?_; (with_reducible refine (chatelaineref3_Of.calls a0 t183 _ A9.out).mono ?_); rintro e w' ⟨rfl, ⟨nd, rfl⟩⟩; refine ⟨_, rfl, ?_⟩) | (go_at_call 27; (with_reducible refine (ring_Add.calls a0 a1 t184 _ A11.out).mono ?_); rintro e w' ⟨rfl, ⟨nd, rfl⟩⟩) | (go_at_call 28; (with_reducible refine (chatelaineref3_Add.calls a0 a1 t185 _ A12.out).mono ?_); rintro e w' ⟨rfl, ⟨nd, rfl⟩⟩) | (go_at_call 21; (with_reducible refine (ring_Sub.calls a0 a1 t186 _ A14.out).mono ?_); rintro e w' ⟨rfl, ⟨nd, rfl⟩⟩) | (go_at_call 29; (with_reducible refine (chatelaineref3_Sub.calls a0 a1 t187 _ A15.out).mono ?_); rintro e w' ⟨rfl, ⟨nd, rfl⟩⟩) | (go_at_call 22; (with_reducible refine (ring_Mul.calls a0 a1 t188 _ A17.out).mono ?_); rintro e w' ⟨rfl, ⟨nd, rfl⟩⟩) | (go_at_call 30; (with_reducible refine (chatelaineref3_Mul.calls a0 a1 t189 _ A18.out).mono ?_); rintro e w' ⟨rfl, ⟨nd, rfl⟩⟩))
                go_ret
                exact ⟨by first | rfl | (simp; done) | (simp [*]; done), by repeat (first | exact Drawn0.refl _ | apply Drawn0.step)⟩
            · rw [if_neg c16] at H
              have c16b0 : (t186 == t187) = false := beq_eq_false_iff_ne.mpr c16
              have c16b1 : (t186 != t187) = true := bne_iff_ne.mpr c16
              obtain rfl := Option.some.inj H
              go_wp2_with (first | ((with_reducible refine gate_callee (f := 25) rfl ?_); refine goesL_ (some 15) rfl rfl Try.func25 (by kernel_rfl) rfl #[.int .i64 a0] rfl (by (try simp only [List.map_toArray, List.map_cons, List.map_nil]); first | done | rfl | (simp only [List.length_drop, List.length_take]; rfl)) ?_; (with_reducible refine (ring_Of.calls a0 t182 _ A8.out).mono ?_); rintro e w' ⟨rfl, ⟨nd, rfl⟩⟩; refine ⟨_, rfl, ?_⟩) | ((with_reducible refine gate_callee (f := 26) rfl ?_); refine goesL_ (some 17) rfl rfl Try.func26 (by kernel_rfl) rfl #[.int .i64 a0] rfl (by (try simp only [List.map_toArray, List.map_cons, List.map_nil]); first | done | rfl | (simp only [List.length_drop, List.length_take]; rfl)) ?_; (with_reducible refine (chatelaineref3_Of.calls a0 t183 _ A9.out).mono ?_); rintro e w' ⟨rfl, ⟨nd, rfl⟩⟩; refine ⟨_, rfl, ?_⟩) | (go_at_call 27; (with_reducible refine (ring_Add.calls a0 a1 t184 _ A11.out).mono ?_); rintro e w' ⟨rfl, ⟨nd, rfl⟩⟩) | (go_at_call 28; (with_reducible refine (chatelaineref3_Add.calls a0 a1 t185 _ A12.out).mono ?_); rintro e w' ⟨rfl, ⟨nd, rfl⟩⟩) | (go_at_call 21; (with_reducible refine (ring_Sub.calls a0 a1 t186 _ A14.out).mono ?_); rintro e w' ⟨rfl, ⟨nd, rfl⟩⟩) | (go_at_call 29; (with_reducible refine (chatelaineref3_Sub.calls a0 a1 t187 _ A15.out).mono ?_); rintro e w' ⟨rfl, ⟨nd, rfl⟩⟩))
              go_ret
              exact ⟨by first | rfl | (simp; done) | (simp [*]; done), by repeat (first | exact Drawn0.refl _ | apply Drawn0.step)⟩
          · rw [if_neg c13] at H
            have c13b0 : (t184 == t185) = false := beq_eq_false_iff_ne.mpr c13
            have c13b1 : (t184 != t185) = true := bne_iff_ne.mpr c13
            obtain rfl := Option.some.inj H
            go_wp2_with (first | ((with_reducible refine gate_callee (f := 25) rfl ?_); refine goesL_ (some 15) rfl rfl Try.func25 (by kernel_rfl) rfl #[.int .i64 a0] rfl (by (try simp only [List.map_toArray, List.map_cons, List.map_nil]); first | done | rfl | (simp only [List.length_drop, List.length_take]; rfl)) ?_; (with_reducible refine (ring_Of.calls a0 t182 _ A8.out).mono ?_); rintro e w' ⟨rfl, ⟨nd, rfl⟩⟩; refine ⟨_, rfl, ?_⟩) | ((with_reducible refine gate_callee (f := 26) rfl ?_); refine goesL_ (some 17) rfl rfl Try.func26 (by kernel_rfl) rfl #[.int .i64 a0] rfl (by (try simp only [List.map_toArray, List.map_cons, List.map_nil]); first | done | rfl | (simp only [List.length_drop, List.length_take]; rfl)) ?_; (with_reducible refine (chatelaineref3_Of.calls a0 t183 _ A9.out).mono ?_); rintro e w' ⟨rfl, ⟨nd, rfl⟩⟩; refine ⟨_, rfl, ?_⟩) | (go_at_call 27; (with_reducible refine (ring_Add.calls a0 a1 t184 _ A11.out).mono ?_); rintro e w' ⟨rfl, ⟨nd, rfl⟩⟩) | (go_at_call 28; (with_reducible refine (chatelaineref3_Add.calls a0 a1 t185 _ A12.out).mono ?_); rintro e w' ⟨rfl, ⟨nd, rfl⟩⟩))
            go_ret
            exact ⟨by first | rfl | (simp; done) | (simp [*]; done), by repeat (first | exact Drawn0.refl _ | apply Drawn0.step)⟩
        · rw [if_neg c10] at H
          have c10b0 : (t182 == t183) = false := beq_eq_false_iff_ne.mpr c10
          have c10b1 : (t182 != t183) = true := bne_iff_ne.mpr c10
          obtain rfl := Option.some.inj H
          go_wp2_with (first | ((with_reducible refine gate_callee (f := 25) rfl ?_); refine goesL_ (some 15) rfl rfl Try.func25 (by kernel_rfl) rfl #[.int .i64 a0] rfl (by (try simp only [List.map_toArray, List.map_cons, List.map_nil]); first | done | rfl | (simp only [List.length_drop, List.length_take]; rfl)) ?_; (with_reducible refine (ring_Of.calls a0 t182 _ A8.out).mono ?_); rintro e w' ⟨rfl, ⟨nd, rfl⟩⟩; refine ⟨_, rfl, ?_⟩) | ((with_reducible refine gate_callee (f := 26) rfl ?_); refine goesL_ (some 17) rfl rfl Try.func26 (by kernel_rfl) rfl #[.int .i64 a0] rfl (by (try simp only [List.map_toArray, List.map_cons, List.map_nil]); first | done | rfl | (simp only [List.length_drop, List.length_take]; rfl)) ?_; (with_reducible refine (chatelaineref3_Of.calls a0 t183 _ A9.out).mono ?_); rintro e w' ⟨rfl, ⟨nd, rfl⟩⟩; refine ⟨_, rfl, ?_⟩))
          go_ret
          exact ⟨by first | rfl | (simp; done) | (simp [*]; done), by repeat (first | exact Drawn0.refl _ | apply Drawn0.step)⟩

/-- THE ONE PURE STATEMENT of chatelainelaw3_RingTells: yours. -/
def chatelainelaw3_RingTells.Pure : Prop := ∀ (a0 : Int) (a1 : Int) (a2 : Int), (Lit.int .i64 a0).wf = true → (Lit.int .i64 a1).wf = true → (Lit.int .i64 a2).wf = true → ∃ k, chatelainelaw3_RingTells.f k a0 a1 a2 = some true
theorem chatelainelaw3_RingTells.walk (P : chatelainelaw3_RingTells.Pure) (a0 : Int) (a1 : Int) (a2 : Int) (w : World) (w0 : (Lit.int .i64 a0).wf = true) (w1 : (Lit.int .i64 a1).wf = true) (w2 : (Lit.int .i64 a2).wf = true) :
    Calls Try.prog 7 #[.int .i64 a0, .int .i64 a1, .int .i64 a2] w fun e w' => e = .returned (.bool true) ∧ Below w.heap.size w w' := by
  obtain ⟨k, h⟩ := P a0 a1 a2 w0 w1 w2
  refine (chatelainelaw3_RingTells.calls k a0 a1 a2 true w h).mono ?_
  rintro e w' ⟨rfl, hd⟩
  exact ⟨rfl, hd.below⟩

end Go.Proofs.Ytiphpcehmjcejaa.PRing
