-- By a program of this session (wip/myprint.sh) out of the translation; Lean checks it.
import Derived.Test.YtiphpcehmjcejaaPRingx0
import Derived.Test.YtiphpcehmjcejaaPRingx1
import Derived.Test.YtiphpcehmjcejaaPRingx2
namespace Go.Proofs.Ytiphpcehmjcejaa.PRing
open Go.RowKit Go.Proofs.YtiphpcehmjcejaaW.PrintWords Go.Proofs.YtiphpcehmjcejaaW.PrintLast Go.Proofs.YtiphpcehmjcejaaW.PrintMore
attribute [local go_sem] max2_int min2_int max_two min_two max_three min_three max_four min_four   -- for this text's walks alone
set_option linter.unusedVariables false
set_option linter.unusedSimpArgs false

/-! ### ring_Sub: function 21 -/
def ring_Sub.f (a0 : Int) (a1 : Int) : Option (Int) := (ring_Of.f a0).bind fun t124 => ((ring_Of.f a1).bind fun t125 => (some (Int.tmod (wrap64 ((wrap64 (t124 + 3329)) - t125)) 3329)))
set_option maxHeartbeats 8000000 in
set_option maxRecDepth 100000 in
theorem ring_Sub.calls (a0 : Int) (a1 : Int) (r : Int) (w : World) (h : ring_Sub.f a0 a1 = some r) :
    Calls Try.prog 21 #[.int .i64 a0, .int .i64 a1] w fun e w' => e = .returned (.int .i64 r) ∧ Drawn0 w w' := by
  have H : ((ring_Of.f a0).bind fun t124 => ((ring_Of.f a1).bind fun t125 => (some (Int.tmod (wrap64 ((wrap64 (t124 + 3329)) - t125)) 3329)))) = some r := h
  clear h
  replace H := Option.bind_eq_some_iff.mp H
  obtain ⟨t124, A30, H⟩ := H
  replace H : ((ring_Of.f a1).bind fun t125 => (some (Int.tmod (wrap64 ((wrap64 (t124 + 3329)) - t125)) 3329))) = some r := H
  have A3 := Aside0.mk A30
  clear A30
  replace H := Option.bind_eq_some_iff.mp H
  obtain ⟨t125, A40, H⟩ := H
  replace H : (some (Int.tmod (wrap64 ((wrap64 (t124 + 3329)) - t125)) 3329)) = some r := H
  have A4 := Aside0.mk A40
  clear A40
  obtain rfl := Option.some.inj H
  go_enter Try.func21, Try.ntmps21
  go_wp2_with (first | ((with_reducible refine gate_callee (f := 25) rfl ?_); refine goesL_ (some 6) rfl rfl Try.func25 (by kernel_rfl) rfl #[.int .i64 a0] rfl (by (try simp only [List.map_toArray, List.map_cons, List.map_nil]); first | done | rfl | (simp only [List.length_drop, List.length_take]; rfl)) ?_; (with_reducible refine (ring_Of.calls a0 t124 _ A3.out).mono ?_); rintro e w' ⟨rfl, ⟨nd, rfl⟩⟩; refine ⟨_, rfl, ?_⟩) | ((with_reducible refine gate_callee (f := 25) rfl ?_); refine goesL_ (some 9) rfl rfl Try.func25 (by kernel_rfl) rfl #[.int .i64 a1] rfl (by (try simp only [List.map_toArray, List.map_cons, List.map_nil]); first | done | rfl | (simp only [List.length_drop, List.length_take]; rfl)) ?_; (with_reducible refine (ring_Of.calls a1 t125 _ A4.out).mono ?_); rintro e w' ⟨rfl, ⟨nd, rfl⟩⟩; refine ⟨_, rfl, ?_⟩))
  go_ret
  exact ⟨by first | rfl | (simp; done) | (simp [*]; done), by repeat (first | exact Drawn0.refl _ | apply Drawn0.step)⟩

/-! ### chatelainelaw3_RingNear: function 4 -/
def chatelainelaw3_RingNear.f (k : Nat) (a0 : Int) (a1 : Int) (a2 : Int) : Option (Bool) := (chatelainelaw0_Low.f a0 3329).bind fun t126 => ((chatelainelaw0_Low.f a2 11).bind fun t127 => (if 0 ≤ (wrap64 (1 + t127)) then ((chatelainelaw0_Low.f a1 (shl .i64 1 (wrap64 (1 + t127)))).bind fun t128 => ((ring_Squash.f (wrap64 (1 + t127)) t126).bind fun t129 => ((ring_Stretch.f (wrap64 (1 + t127)) t129).bind fun t130 => ((ring_Sub.f t130 t126).bind fun t131 => (if 0 ≤ (wrap64 ((wrap64 (1 + t127)) + 1)) then (if t129 ≥ 0 then (if t129 < (shl .i64 1 (wrap64 (1 + t127))) then (if (mn t131 (wrap64 (3329 - t131))) ≤ (wrap64 ((shr .i64 (wrap64 ((wrap64 (3329 + (shl .i64 1 (wrap64 ((wrap64 (1 + t127)) + 1))))) - 1)) (wrap64 ((wrap64 (1 + t127)) + 1))) + 1)) then ((ring_Stretch.f (wrap64 (1 + t127)) t128).bind fun t132 => ((ring_Squash.f (wrap64 (1 + t127)) t132).bind fun t133 => (if t133 = t128 then ((chatelainelaw3_awake.f k).bind fun t134 => (some t134)) else (some false)))) else (some false)) else (some false)) else (some false)) else (none)))))) else (none)))
theorem chatelainelaw3_RingNear.mono : ∀ a0 a1 a2 k, LeO (chatelainelaw3_RingNear.f k a0 a1 a2) (chatelainelaw3_RingNear.f (k + 1) a0 a1 a2) := by
  intro a0 a1 a2 k
  unfold chatelainelaw3_RingNear.f
  repeat' first
      | (with_reducible exact chatelainelaw3_awake.mono _)
      | (with_reducible exact LeO.refl _)
      | (with_reducible exact LeO.none _)
      | (with_reducible refine LeO.ite ?_ ?_)
      | (with_reducible refine LeO.bind ?_ (fun _ => ?_))
      | exact chatelainelaw3_awake.mono _
      | exact LeO.none _
      | refine LeO.ite ?_ ?_
      | refine LeO.bind ?_ (fun _ => ?_)
set_option maxHeartbeats 8000000 in
set_option maxRecDepth 100000 in
theorem chatelainelaw3_RingNear.calls (k : Nat) (a0 : Int) (a1 : Int) (a2 : Int) (r : Bool) (w : World) (h : chatelainelaw3_RingNear.f k a0 a1 a2 = some r) :
    Calls Try.prog 4 #[.int .i64 a0, .int .i64 a1, .int .i64 a2] w fun e w' => e = .returned (.bool r) ∧ Below w.heap.size w w' := by
  have HB := Aside0.mk (Below.refl w.heap.size w)
  have H : ((chatelainelaw0_Low.f a0 3329).bind fun t126 => ((chatelainelaw0_Low.f a2 11).bind fun t127 => (if 0 ≤ (wrap64 (1 + t127)) then ((chatelainelaw0_Low.f a1 (shl .i64 1 (wrap64 (1 + t127)))).bind fun t128 => ((ring_Squash.f (wrap64 (1 + t127)) t126).bind fun t129 => ((ring_Stretch.f (wrap64 (1 + t127)) t129).bind fun t130 => ((ring_Sub.f t130 t126).bind fun t131 => (if 0 ≤ (wrap64 ((wrap64 (1 + t127)) + 1)) then (if t129 ≥ 0 then (if t129 < (shl .i64 1 (wrap64 (1 + t127))) then (if (mn t131 (wrap64 (3329 - t131))) ≤ (wrap64 ((shr .i64 (wrap64 ((wrap64 (3329 + (shl .i64 1 (wrap64 ((wrap64 (1 + t127)) + 1))))) - 1)) (wrap64 ((wrap64 (1 + t127)) + 1))) + 1)) then ((ring_Stretch.f (wrap64 (1 + t127)) t128).bind fun t132 => ((ring_Squash.f (wrap64 (1 + t127)) t132).bind fun t133 => (if t133 = t128 then ((chatelainelaw3_awake.f k).bind fun t134 => (some t134)) else (some false)))) else (some false)) else (some false)) else (some false)) else (none)))))) else (none)))) = some r := h
  clear h
  replace H := Option.bind_eq_some_iff.mp H
  obtain ⟨t126, A40, H⟩ := H
  replace H : ((chatelainelaw0_Low.f a2 11).bind fun t127 => (if 0 ≤ (wrap64 (1 + t127)) then ((chatelainelaw0_Low.f a1 (shl .i64 1 (wrap64 (1 + t127)))).bind fun t128 => ((ring_Squash.f (wrap64 (1 + t127)) t126).bind fun t129 => ((ring_Stretch.f (wrap64 (1 + t127)) t129).bind fun t130 => ((ring_Sub.f t130 t126).bind fun t131 => (if 0 ≤ (wrap64 ((wrap64 (1 + t127)) + 1)) then (if t129 ≥ 0 then (if t129 < (shl .i64 1 (wrap64 (1 + t127))) then (if (mn t131 (wrap64 (3329 - t131))) ≤ (wrap64 ((shr .i64 (wrap64 ((wrap64 (3329 + (shl .i64 1 (wrap64 ((wrap64 (1 + t127)) + 1))))) - 1)) (wrap64 ((wrap64 (1 + t127)) + 1))) + 1)) then ((ring_Stretch.f (wrap64 (1 + t127)) t128).bind fun t132 => ((ring_Squash.f (wrap64 (1 + t127)) t132).bind fun t133 => (if t133 = t128 then ((chatelainelaw3_awake.f k).bind fun t134 => (some t134)) else (some false)))) else (some false)) else (some false)) else (some false)) else (none)))))) else (none))) = some r := H
  have A4 := Aside0.mk A40
  clear A40
  replace H := Option.bind_eq_some_iff.mp H
  obtain ⟨t127, A50, H⟩ := H
  replace H : (if 0 ≤ (wrap64 (1 + t127)) then ((chatelainelaw0_Low.f a1 (shl .i64 1 (wrap64 (1 + t127)))).bind fun t128 => ((ring_Squash.f (wrap64 (1 + t127)) t126).bind fun t129 => ((ring_Stretch.f (wrap64 (1 + t127)) t129).bind fun t130 => ((ring_Sub.f t130 t126).bind fun t131 => (if 0 ≤ (wrap64 ((wrap64 (1 + t127)) + 1)) then (if t129 ≥ 0 then (if t129 < (shl .i64 1 (wrap64 (1 + t127))) then (if (mn t131 (wrap64 (3329 - t131))) ≤ (wrap64 ((shr .i64 (wrap64 ((wrap64 (3329 + (shl .i64 1 (wrap64 ((wrap64 (1 + t127)) + 1))))) - 1)) (wrap64 ((wrap64 (1 + t127)) + 1))) + 1)) then ((ring_Stretch.f (wrap64 (1 + t127)) t128).bind fun t132 => ((ring_Squash.f (wrap64 (1 + t127)) t132).bind fun t133 => (if t133 = t128 then ((chatelainelaw3_awake.f k).bind fun t134 => (some t134)) else (some false)))) else (some false)) else (some false)) else (some false)) else (none)))))) else (none)) = some r := H
  have A5 := Aside0.mk A50
  clear A50
  obtain ⟨ji6, hji6⟩ : ∃ j_ : Int, (wrap64 (1 + t127)) = j_ := ⟨_, rfl⟩
  replace H : (if 0 ≤ (ji6) then ((chatelainelaw0_Low.f a1 (shl .i64 1 (ji6))).bind fun t128 => ((ring_Squash.f (ji6) t126).bind fun t129 => ((ring_Stretch.f (ji6) t129).bind fun t130 => ((ring_Sub.f t130 t126).bind fun t131 => (if 0 ≤ (wrap64 ((ji6) + 1)) then (if t129 ≥ 0 then (if t129 < (shl .i64 1 (ji6)) then (if (mn t131 (wrap64 (3329 - t131))) ≤ (wrap64 ((shr .i64 (wrap64 ((wrap64 (3329 + (shl .i64 1 (wrap64 ((ji6) + 1))))) - 1)) (wrap64 ((ji6) + 1))) + 1)) then ((ring_Stretch.f (ji6) t128).bind fun t132 => ((ring_Squash.f (ji6) t132).bind fun t133 => (if t133 = t128 then ((chatelainelaw3_awake.f k).bind fun t134 => (some t134)) else (some false)))) else (some false)) else (some false)) else (some false)) else (none)))))) else (none)) = some r := by first | (rw [hji6] at H; exact H) | (simp only [hji6] at H ⊢; exact H)
  (try rw [hji6] at A4)
  (try rw [hji6] at A5)
  have hji6w : (IntKind.i64.wrap (1 + t127)) = ji6 := (i64_w _).trans hji6
  by_cases c7 : 0 ≤ (ji6)
  · rw [if_pos c7] at H
    have c7b0 := eq_true c7
    have c7b1 : decide (0 ≤ (ji6)) = true := decide_eq_true c7
    clear c7
    obtain ⟨ji8, hji8⟩ : ∃ j_ : Int, (shl .i64 1 (ji6)) = j_ := ⟨_, rfl⟩
    replace H : ((chatelainelaw0_Low.f a1 (ji8)).bind fun t128 => ((ring_Squash.f (ji6) t126).bind fun t129 => ((ring_Stretch.f (ji6) t129).bind fun t130 => ((ring_Sub.f t130 t126).bind fun t131 => (if 0 ≤ (wrap64 ((ji6) + 1)) then (if t129 ≥ 0 then (if t129 < (ji8) then (if (mn t131 (wrap64 (3329 - t131))) ≤ (wrap64 ((shr .i64 (wrap64 ((wrap64 (3329 + (shl .i64 1 (wrap64 ((ji6) + 1))))) - 1)) (wrap64 ((ji6) + 1))) + 1)) then ((ring_Stretch.f (ji6) t128).bind fun t132 => ((ring_Squash.f (ji6) t132).bind fun t133 => (if t133 = t128 then ((chatelainelaw3_awake.f k).bind fun t134 => (some t134)) else (some false)))) else (some false)) else (some false)) else (some false)) else (none)))))) = some r := by first | (rw [hji8] at H; exact H) | (simp only [hji8] at H ⊢; exact H)
    (try rw [hji8] at A4)
    (try rw [hji8] at A5)
    have hji8_ : (IntKind.i64.wrap (1 * 2 ^ min (ji6).toNat 64)) = ji8 := hji8
    have hji8z : (ji6) ≤ 64 → (IntKind.i64.wrap (1 * 2 ^ (ji6).toNat)) = ji8 := shl_small hji8
    have hji8u : (IntKind.i64.wrap (2 ^ min (ji6).toNat 64)) = ji8 := by have h_ := hji8_; rw [Int.one_mul] at h_; exact h_
    have hji8v : (ji6) ≤ 64 → (IntKind.i64.wrap (2 ^ (ji6).toNat)) = ji8 := fun hle_ => by have h_ := hji8z hle_; rw [Int.one_mul] at h_; exact h_
    have hji8y : (wrap64 (1 * 2 ^ min (ji6).toNat 64)) = ji8 := (i64_w _).symm.trans hji8_
    have hji8x : (ji6) ≤ 64 → (wrap64 (1 * 2 ^ (ji6).toNat)) = ji8 := fun h_ => (i64_w _).symm.trans (hji8z h_)
    replace H := Option.bind_eq_some_iff.mp H
    obtain ⟨t128, A90, H⟩ := H
    replace H : ((ring_Squash.f (ji6) t126).bind fun t129 => ((ring_Stretch.f (ji6) t129).bind fun t130 => ((ring_Sub.f t130 t126).bind fun t131 => (if 0 ≤ (wrap64 ((ji6) + 1)) then (if t129 ≥ 0 then (if t129 < (ji8) then (if (mn t131 (wrap64 (3329 - t131))) ≤ (wrap64 ((shr .i64 (wrap64 ((wrap64 (3329 + (shl .i64 1 (wrap64 ((ji6) + 1))))) - 1)) (wrap64 ((ji6) + 1))) + 1)) then ((ring_Stretch.f (ji6) t128).bind fun t132 => ((ring_Squash.f (ji6) t132).bind fun t133 => (if t133 = t128 then ((chatelainelaw3_awake.f k).bind fun t134 => (some t134)) else (some false)))) else (some false)) else (some false)) else (some false)) else (none))))) = some r := H
    have A9 := Aside0.mk A90
    clear A90
    replace H := Option.bind_eq_some_iff.mp H
    obtain ⟨t129, A100, H⟩ := H
    replace H : ((ring_Stretch.f (ji6) t129).bind fun t130 => ((ring_Sub.f t130 t126).bind fun t131 => (if 0 ≤ (wrap64 ((ji6) + 1)) then (if t129 ≥ 0 then (if t129 < (ji8) then (if (mn t131 (wrap64 (3329 - t131))) ≤ (wrap64 ((shr .i64 (wrap64 ((wrap64 (3329 + (shl .i64 1 (wrap64 ((ji6) + 1))))) - 1)) (wrap64 ((ji6) + 1))) + 1)) then ((ring_Stretch.f (ji6) t128).bind fun t132 => ((ring_Squash.f (ji6) t132).bind fun t133 => (if t133 = t128 then ((chatelainelaw3_awake.f k).bind fun t134 => (some t134)) else (some false)))) else (some false)) else (some false)) else (some false)) else (none)))) = some r := H
    have A10 := Aside0.mk A100
    clear A100
    replace H := Option.bind_eq_some_iff.mp H
    obtain ⟨t130, A110, H⟩ := H
    replace H : ((ring_Sub.f t130 t126).bind fun t131 => (if 0 ≤ (wrap64 ((ji6) + 1)) then (if t129 ≥ 0 then (if t129 < (ji8) then (if (mn t131 (wrap64 (3329 - t131))) ≤ (wrap64 ((shr .i64 (wrap64 ((wrap64 (3329 + (shl .i64 1 (wrap64 ((ji6) + 1))))) - 1)) (wrap64 ((ji6) + 1))) + 1)) then ((ring_Stretch.f (ji6) t128).bind fun t132 => ((ring_Squash.f (ji6) t132).bind fun t133 => (if t133 = t128 then ((chatelainelaw3_awake.f k).bind fun t134 => (some t134)) else (some false)))) else (some false)) else (some false)) else (some false)) else (none))) = some r := H
    have A11 := Aside0.mk A110
    clear A110
    replace H := Option.bind_eq_some_iff.mp H
    obtain ⟨t131, A120, H⟩ := H
    replace H : (if 0 ≤ (wrap64 ((ji6) + 1)) then (if t129 ≥ 0 then (if t129 < (ji8) then (if (mn t131 (wrap64 (3329 - t131))) ≤ (wrap64 ((shr .i64 (wrap64 ((wrap64 (3329 + (shl .i64 1 (wrap64 ((ji6) + 1))))) - 1)) (wrap64 ((ji6) + 1))) + 1)) then ((ring_Stretch.f (ji6) t128).bind fun t132 => ((ring_Squash.f (ji6) t132).bind fun t133 => (if t133 = t128 then ((chatelainelaw3_awake.f k).bind fun t134 => (some t134)) else (some false)))) else (some false)) else (some false)) else (some false)) else (none)) = some r := H
    have A12 := Aside0.mk A120
    clear A120
    obtain ⟨ji13, hji13⟩ : ∃ j_ : Int, (mn t131 (wrap64 (3329 - t131))) = j_ := ⟨_, rfl⟩
    replace H : (if 0 ≤ (wrap64 ((ji6) + 1)) then (if t129 ≥ 0 then (if t129 < (ji8) then (if (ji13) ≤ (wrap64 ((shr .i64 (wrap64 ((wrap64 (3329 + (shl .i64 1 (wrap64 ((ji6) + 1))))) - 1)) (wrap64 ((ji6) + 1))) + 1)) then ((ring_Stretch.f (ji6) t128).bind fun t132 => ((ring_Squash.f (ji6) t132).bind fun t133 => (if t133 = t128 then ((chatelainelaw3_awake.f k).bind fun t134 => (some t134)) else (some false)))) else (some false)) else (some false)) else (some false)) else (none)) = some r := by first | (rw [hji13] at H; exact H) | (simp only [hji13] at H ⊢; exact H)
    (try rw [hji13] at A4)
    (try rw [hji13] at A5)
    (try rw [hji13] at A9)
    (try rw [hji13] at A10)
    (try rw [hji13] at A11)
    (try rw [hji13] at A12)
    have hji13_ : (if (wrap64 (3329 - t131)) < t131 then (wrap64 (3329 - t131)) else t131) = ji13 := hji13
    obtain ⟨ji14, hji14⟩ : ∃ j_ : Int, (wrap64 ((ji6) + 1)) = j_ := ⟨_, rfl⟩
    replace H : (if 0 ≤ (ji14) then (if t129 ≥ 0 then (if t129 < (ji8) then (if (ji13) ≤ (wrap64 ((shr .i64 (wrap64 ((wrap64 (3329 + (shl .i64 1 (ji14)))) - 1)) (ji14)) + 1)) then ((ring_Stretch.f (ji6) t128).bind fun t132 => ((ring_Squash.f (ji6) t132).bind fun t133 => (if t133 = t128 then ((chatelainelaw3_awake.f k).bind fun t134 => (some t134)) else (some false)))) else (some false)) else (some false)) else (some false)) else (none)) = some r := by first | (rw [hji14] at H; exact H) | (simp only [hji14] at H ⊢; exact H)
    (try rw [hji14] at A4)
    (try rw [hji14] at A5)
    (try rw [hji14] at A9)
    (try rw [hji14] at A10)
    (try rw [hji14] at A11)
    (try rw [hji14] at A12)
    have hji14w : (IntKind.i64.wrap ((ji6) + 1)) = ji14 := (i64_w _).trans hji14
    by_cases c15 : 0 ≤ (ji14)
    · rw [if_pos c15] at H
      have c15b0 := eq_true c15
      have c15b1 : decide (0 ≤ (ji14)) = true := decide_eq_true c15
      clear c15
      obtain ⟨ji16, hji16⟩ : ∃ j_ : Int, (shl .i64 1 (ji14)) = j_ := ⟨_, rfl⟩
      replace H : (if t129 ≥ 0 then (if t129 < (ji8) then (if (ji13) ≤ (wrap64 ((shr .i64 (wrap64 ((wrap64 (3329 + (ji16))) - 1)) (ji14)) + 1)) then ((ring_Stretch.f (ji6) t128).bind fun t132 => ((ring_Squash.f (ji6) t132).bind fun t133 => (if t133 = t128 then ((chatelainelaw3_awake.f k).bind fun t134 => (some t134)) else (some false)))) else (some false)) else (some false)) else (some false)) = some r := by first | (rw [hji16] at H; exact H) | (simp only [hji16] at H ⊢; exact H)
      (try rw [hji16] at A4)
      (try rw [hji16] at A5)
      (try rw [hji16] at A9)
      (try rw [hji16] at A10)
      (try rw [hji16] at A11)
      (try rw [hji16] at A12)
      have hji16_ : (IntKind.i64.wrap (1 * 2 ^ min (ji14).toNat 64)) = ji16 := hji16
      have hji16z : (ji14) ≤ 64 → (IntKind.i64.wrap (1 * 2 ^ (ji14).toNat)) = ji16 := shl_small hji16
      have hji16u : (IntKind.i64.wrap (2 ^ min (ji14).toNat 64)) = ji16 := by have h_ := hji16_; rw [Int.one_mul] at h_; exact h_
      have hji16v : (ji14) ≤ 64 → (IntKind.i64.wrap (2 ^ (ji14).toNat)) = ji16 := fun hle_ => by have h_ := hji16z hle_; rw [Int.one_mul] at h_; exact h_
      have hji16y : (wrap64 (1 * 2 ^ min (ji14).toNat 64)) = ji16 := (i64_w _).symm.trans hji16_
      have hji16x : (ji14) ≤ 64 → (wrap64 (1 * 2 ^ (ji14).toNat)) = ji16 := fun h_ => (i64_w _).symm.trans (hji16z h_)
      have c17b0 := eq_true (of_decide_eq_true (by first | (with_reducible assumption) | assumption) : 0 ≤ (ji14))
      obtain ⟨ji18, hji18⟩ : ∃ j_ : Int, (shr .i64 (wrap64 ((wrap64 (3329 + (ji16))) - 1)) (ji14)) = j_ := ⟨_, rfl⟩
      replace H : (if t129 ≥ 0 then (if t129 < (ji8) then (if (ji13) ≤ (wrap64 ((ji18) + 1)) then ((ring_Stretch.f (ji6) t128).bind fun t132 => ((ring_Squash.f (ji6) t132).bind fun t133 => (if t133 = t128 then ((chatelainelaw3_awake.f k).bind fun t134 => (some t134)) else (some false)))) else (some false)) else (some false)) else (some false)) = some r := by first | (rw [hji18] at H; exact H) | (simp only [hji18] at H ⊢; exact H)
      (try rw [hji18] at A4)
      (try rw [hji18] at A5)
      (try rw [hji18] at A9)
      (try rw [hji18] at A10)
      (try rw [hji18] at A11)
      (try rw [hji18] at A12)
      have hji18_ : ((wrap64 ((wrap64 (3329 + (ji16))) - 1)) / 2 ^ min (ji14).toNat 64) = ji18 := hji18
      have hji18z : (ji14) ≤ 64 → ((wrap64 ((wrap64 (3329 + (ji16))) - 1)) / 2 ^ (ji14).toNat) = ji18 := shr_small hji18
      by_cases c19 : t129 ≥ 0
      · rw [if_pos c19] at H
        have c19b0 : decide (0 ≤ t129) = true := decide_eq_true c19
        clear c19
        have c20b0 := eq_true (of_decide_eq_true (by first | (with_reducible assumption) | assumption) : 0 ≤ (ji6))
        by_cases c21 : t129 < (ji8)
        · rw [if_pos c21] at H
          have c21b0 : decide (t129 < (ji8)) = true := decide_eq_true c21
          clear c21
          by_cases c22 : (ji13) ≤ (wrap64 ((ji18) + 1))
          · rw [if_pos c22] at H
            have c22b0 : decide ((ji13) ≤ (wrap64 ((ji18) + 1))) = true := decide_eq_true c22
            clear c22
            replace H := Option.bind_eq_some_iff.mp H
            obtain ⟨t132, A230, H⟩ := H
            replace H : ((ring_Squash.f (ji6) t132).bind fun t133 => (if t133 = t128 then ((chatelainelaw3_awake.f k).bind fun t134 => (some t134)) else (some false))) = some r := H
            have A23 := Aside0.mk A230
            clear A230
            replace H := Option.bind_eq_some_iff.mp H
            obtain ⟨t133, A240, H⟩ := H
            replace H : (if t133 = t128 then ((chatelainelaw3_awake.f k).bind fun t134 => (some t134)) else (some false)) = some r := H
            have A24 := Aside0.mk A240
            clear A240
            by_cases c25 : t133 = t128
            · rw [if_pos c25] at H
              have c25b0 : (t133 == t128) = true := beq_iff_eq.mpr c25
              have c25b1 : (t133 != t128) = false := bne_eq_false_iff_eq.mpr c25
              clear c25
              replace H := Option.bind_eq_some_iff.mp H
              obtain ⟨t134, A260, H⟩ := H
              replace H : (some t134) = some r := H
              have A26 := Aside0.mk A260
              clear A260
              obtain rfl := Option.some.inj H
              go_enter Try.func4, Try.ntmps4
              go_wp2_with (first | ((with_reducible refine gate_callee (f := 17) rfl ?_); refine goesL_ (some 12) rfl rfl Try.func17 (by kernel_rfl) rfl #[.int .i64 a0, .int .i64 3329] rfl (by (try simp only [List.map_toArray, List.map_cons, List.map_nil]); first | done | rfl | (simp only [List.length_drop, List.length_take]; rfl)) ?_; (with_reducible refine (chatelainelaw0_Low.calls a0 3329 t126 _ A4.out).mono ?_); rintro e w' ⟨rfl, ⟨nd, rfl⟩⟩; refine ⟨_, rfl, ?_⟩) | ((with_reducible refine gate_callee (f := 17) rfl ?_); refine goesL_ (some 14) rfl rfl Try.func17 (by kernel_rfl) rfl #[.int .i64 a2, .int .i64 11] rfl (by (try simp only [List.map_toArray, List.map_cons, List.map_nil]); first | done | rfl | (simp only [List.length_drop, List.length_take]; rfl)) ?_; (with_reducible refine (chatelainelaw0_Low.calls a2 11 t127 _ A5.out).mono ?_); rintro e w' ⟨rfl, ⟨nd, rfl⟩⟩; refine ⟨_, rfl, ?_⟩) | ((with_reducible refine gate_callee (f := 17) rfl ?_); refine goesL_ (some 19) rfl rfl Try.func17 (by kernel_rfl) rfl #[.int .i64 a1, .int .i64 ji8] rfl (by (try simp only [List.map_toArray, List.map_cons, List.map_nil]); first | done | (simp only [hji8]; rfl) | rfl | (simp only [List.length_drop, List.length_take]; rfl)) ?_; (with_reducible refine (chatelainelaw0_Low.calls a1 ji8 t128 _ A9.out).mono ?_); rintro e w' ⟨rfl, ⟨nd, rfl⟩⟩; refine ⟨_, rfl, ?_⟩) | ((with_reducible refine gate_callee (f := 19) rfl ?_); refine goesL_ (some 22) rfl rfl Try.func19 (by kernel_rfl) rfl #[.int .i64 ji6, .int .i64 t126] rfl (by (try simp only [List.map_toArray, List.map_cons, List.map_nil]); first | done | (simp only [hji6]; rfl) | rfl | (simp only [List.length_drop, List.length_take]; rfl)) ?_; (with_reducible refine (ring_Squash.calls ji6 t126 t129 _ A10.out).mono ?_); rintro e w' ⟨rfl, ⟨nd, rfl⟩⟩; refine ⟨_, rfl, ?_⟩) | ((with_reducible refine gate_callee (f := 18) rfl ?_); refine goesL_ (some 25) rfl rfl Try.func18 (by kernel_rfl) rfl #[.int .i64 ji6, .int .i64 t129] rfl (by (try simp only [List.map_toArray, List.map_cons, List.map_nil]); first | done | (simp only [hji6]; rfl) | rfl | (simp only [List.length_drop, List.length_take]; rfl)) ?_; (with_reducible refine (ring_Stretch.calls ji6 t129 t130 _ A11.out).mono ?_); rintro e w' ⟨rfl, ⟨nd, rfl⟩⟩; refine ⟨_, rfl, ?_⟩) | ((with_reducible refine gate_callee (f := 21) rfl ?_); refine goesL_ (some 27) rfl rfl Try.func21 (by kernel_rfl) rfl #[.int .i64 t130, .int .i64 t126] rfl (by (try simp only [List.map_toArray, List.map_cons, List.map_nil]); first | done | rfl | (simp only [List.length_drop, List.length_take]; rfl)) ?_; (with_reducible refine (ring_Sub.calls t130 t126 t131 _ A12.out).mono ?_); rintro e w' ⟨rfl, ⟨nd, rfl⟩⟩; refine ⟨_, rfl, ?_⟩) | (go_at_call 18; (with_reducible refine (ring_Stretch.calls ji6 t128 t132 _ A23.out).mono ?_); rintro e w' ⟨rfl, ⟨nd, rfl⟩⟩) | (go_at_call 19; (with_reducible refine (ring_Squash.calls ji6 t132 t133 _ A24.out).mono ?_); rintro e w' ⟨rfl, ⟨nd, rfl⟩⟩) | (go_at_call 20; (with_reducible refine (chatelainelaw3_awake.calls k  t134 _ A26.out).mono ?_); rintro e w' ⟨rfl, ⟨nd, rfl⟩⟩))
              go_ret
              exact ⟨by first | rfl | (simp [errW_none, errW_some] <;> rfl) | (simp only [← hji6, ← hji8, ← hji13, ← hji14, ← hji16, ← hji18]; first | rfl | (simp [errW_none, errW_some] <;> rfl)) | (simp [*, errW_none, errW_some] <;> rfl), by repeat (first | (with_reducible first | exact HB.out | apply below_alloc | apply pw_below_drewN | apply below_drew1) | exact HB.out)⟩
            · rw [if_neg c25] at H
              have c25b0 : (t133 == t128) = false := beq_eq_false_iff_ne.mpr c25
              have c25b1 : (t133 != t128) = true := bne_iff_ne.mpr c25
              obtain rfl := Option.some.inj H
              go_enter Try.func4, Try.ntmps4
              go_wp2_with (first | ((with_reducible refine gate_callee (f := 17) rfl ?_); refine goesL_ (some 12) rfl rfl Try.func17 (by kernel_rfl) rfl #[.int .i64 a0, .int .i64 3329] rfl (by (try simp only [List.map_toArray, List.map_cons, List.map_nil]); first | done | rfl | (simp only [List.length_drop, List.length_take]; rfl)) ?_; (with_reducible refine (chatelainelaw0_Low.calls a0 3329 t126 _ A4.out).mono ?_); rintro e w' ⟨rfl, ⟨nd, rfl⟩⟩; refine ⟨_, rfl, ?_⟩) | ((with_reducible refine gate_callee (f := 17) rfl ?_); refine goesL_ (some 14) rfl rfl Try.func17 (by kernel_rfl) rfl #[.int .i64 a2, .int .i64 11] rfl (by (try simp only [List.map_toArray, List.map_cons, List.map_nil]); first | done | rfl | (simp only [List.length_drop, List.length_take]; rfl)) ?_; (with_reducible refine (chatelainelaw0_Low.calls a2 11 t127 _ A5.out).mono ?_); rintro e w' ⟨rfl, ⟨nd, rfl⟩⟩; refine ⟨_, rfl, ?_⟩) | ((with_reducible refine gate_callee (f := 17) rfl ?_); refine goesL_ (some 19) rfl rfl Try.func17 (by kernel_rfl) rfl #[.int .i64 a1, .int .i64 ji8] rfl (by (try simp only [List.map_toArray, List.map_cons, List.map_nil]); first | done | (simp only [hji8]; rfl) | rfl | (simp only [List.length_drop, List.length_take]; rfl)) ?_; (with_reducible refine (chatelainelaw0_Low.calls a1 ji8 t128 _ A9.out).mono ?_); rintro e w' ⟨rfl, ⟨nd, rfl⟩⟩; refine ⟨_, rfl, ?_⟩) | ((with_reducible refine gate_callee (f := 19) rfl ?_); refine goesL_ (some 22) rfl rfl Try.func19 (by kernel_rfl) rfl #[.int .i64 ji6, .int .i64 t126] rfl (by (try simp only [List.map_toArray, List.map_cons, List.map_nil]); first | done | (simp only [hji6]; rfl) | rfl | (simp only [List.length_drop, List.length_take]; rfl)) ?_; (with_reducible refine (ring_Squash.calls ji6 t126 t129 _ A10.out).mono ?_); rintro e w' ⟨rfl, ⟨nd, rfl⟩⟩; refine ⟨_, rfl, ?_⟩) | ((with_reducible refine gate_callee (f := 18) rfl ?_); refine goesL_ (some 25) rfl rfl Try.func18 (by kernel_rfl) rfl #[.int .i64 ji6, .int .i64 t129] rfl (by (try simp only [List.map_toArray, List.map_cons, List.map_nil]); first | done | (simp only [hji6]; rfl) | rfl | (simp only [List.length_drop, List.length_take]; rfl)) ?_; (with_reducible refine (ring_Stretch.calls ji6 t129 t130 _ A11.out).mono ?_); rintro e w' ⟨rfl, ⟨nd, rfl⟩⟩; refine ⟨_, rfl, ?_⟩) | ((with_reducible refine gate_callee (f := 21) rfl ?_); refine goesL_ (some 27) rfl rfl Try.func21 (by kernel_rfl) rfl #[.int .i64 t130, .int .i64 t126] rfl (by (try simp only [List.map_toArray, List.map_cons, List.map_nil]); first | done | rfl | (simp only [List.length_drop, List.length_take]; rfl)) ?_; (with_reducible refine (ring_Sub.calls t130 t126 t131 _ A12.out).mono ?_); rintro e w' ⟨rfl, ⟨nd, rfl⟩⟩; refine ⟨_, rfl, ?_⟩) | (go_at_call 18; (with_reducible refine (ring_Stretch.calls ji6 t128 t132 _ A23.out).mono ?_); rintro e w' ⟨rfl, ⟨nd, rfl⟩⟩) | (go_at_call 19; (with_reducible refine (ring_Squash.calls ji6 t132 t133 _ A24.out).mono ?_); rintro e w' ⟨rfl, ⟨nd, rfl⟩⟩))
              go_ret
              exact ⟨by first | rfl | (simp [errW_none, errW_some] <;> rfl) | (simp only [← hji6, ← hji8, ← hji13, ← hji14, ← hji16, ← hji18]; first | rfl | (simp [errW_none, errW_some] <;> rfl)) | (simp [*, errW_none, errW_some] <;> rfl), by repeat (first | (with_reducible first | exact HB.out | apply below_alloc | apply pw_below_drewN | apply below_drew1) | exact HB.out)⟩
          · rw [if_neg c22] at H
            have c22b0 : decide ((ji13) ≤ (wrap64 ((ji18) + 1))) = false := decide_eq_false c22
            clear c22
            obtain rfl := Option.some.inj H
            go_enter Try.func4, Try.ntmps4
            go_wp2_with (first | ((with_reducible refine gate_callee (f := 17) rfl ?_); refine goesL_ (some 12) rfl rfl Try.func17 (by kernel_rfl) rfl #[.int .i64 a0, .int .i64 3329] rfl (by (try simp only [List.map_toArray, List.map_cons, List.map_nil]); first | done | rfl | (simp only [List.length_drop, List.length_take]; rfl)) ?_; (with_reducible refine (chatelainelaw0_Low.calls a0 3329 t126 _ A4.out).mono ?_); rintro e w' ⟨rfl, ⟨nd, rfl⟩⟩; refine ⟨_, rfl, ?_⟩) | ((with_reducible refine gate_callee (f := 17) rfl ?_); refine goesL_ (some 14) rfl rfl Try.func17 (by kernel_rfl) rfl #[.int .i64 a2, .int .i64 11] rfl (by (try simp only [List.map_toArray, List.map_cons, List.map_nil]); first | done | rfl | (simp only [List.length_drop, List.length_take]; rfl)) ?_; (with_reducible refine (chatelainelaw0_Low.calls a2 11 t127 _ A5.out).mono ?_); rintro e w' ⟨rfl, ⟨nd, rfl⟩⟩; refine ⟨_, rfl, ?_⟩) | ((with_reducible refine gate_callee (f := 17) rfl ?_); refine goesL_ (some 19) rfl rfl Try.func17 (by kernel_rfl) rfl #[.int .i64 a1, .int .i64 ji8] rfl (by (try simp only [List.map_toArray, List.map_cons, List.map_nil]); first | done | (simp only [hji8]; rfl) | rfl | (simp only [List.length_drop, List.length_take]; rfl)) ?_; (with_reducible refine (chatelainelaw0_Low.calls a1 ji8 t128 _ A9.out).mono ?_); rintro e w' ⟨rfl, ⟨nd, rfl⟩⟩; refine ⟨_, rfl, ?_⟩) | ((with_reducible refine gate_callee (f := 19) rfl ?_); refine goesL_ (some 22) rfl rfl Try.func19 (by kernel_rfl) rfl #[.int .i64 ji6, .int .i64 t126] rfl (by (try simp only [List.map_toArray, List.map_cons, List.map_nil]); first | done | (simp only [hji6]; rfl) | rfl | (simp only [List.length_drop, List.length_take]; rfl)) ?_; (with_reducible refine (ring_Squash.calls ji6 t126 t129 _ A10.out).mono ?_); rintro e w' ⟨rfl, ⟨nd, rfl⟩⟩; refine ⟨_, rfl, ?_⟩) | ((with_reducible refine gate_callee (f := 18) rfl ?_); refine goesL_ (some 25) rfl rfl Try.func18 (by kernel_rfl) rfl #[.int .i64 ji6, .int .i64 t129] rfl (by (try simp only [List.map_toArray, List.map_cons, List.map_nil]); first | done | (simp only [hji6]; rfl) | rfl | (simp only [List.length_drop, List.length_take]; rfl)) ?_; (with_reducible refine (ring_Stretch.calls ji6 t129 t130 _ A11.out).mono ?_); rintro e w' ⟨rfl, ⟨nd, rfl⟩⟩; refine ⟨_, rfl, ?_⟩) | ((with_reducible refine gate_callee (f := 21) rfl ?_); refine goesL_ (some 27) rfl rfl Try.func21 (by kernel_rfl) rfl #[.int .i64 t130, .int .i64 t126] rfl (by (try simp only [List.map_toArray, List.map_cons, List.map_nil]); first | done | rfl | (simp only [List.length_drop, List.length_take]; rfl)) ?_; (with_reducible refine (ring_Sub.calls t130 t126 t131 _ A12.out).mono ?_); rintro e w' ⟨rfl, ⟨nd, rfl⟩⟩; refine ⟨_, rfl, ?_⟩))
            go_ret
            exact ⟨by first | rfl | (simp [errW_none, errW_some] <;> rfl) | (simp only [← hji6, ← hji8, ← hji13, ← hji14, ← hji16, ← hji18]; first | rfl | (simp [errW_none, errW_some] <;> rfl)) | (simp [*, errW_none, errW_some] <;> rfl), by repeat (first | (with_reducible first | exact HB.out | apply below_alloc | apply pw_below_drewN | apply below_drew1) | exact HB.out)⟩
        · rw [if_neg c21] at H
          have c21b0 : decide (t129 < (ji8)) = false := decide_eq_false c21
          clear c21
          obtain rfl := Option.some.inj H
          go_enter Try.func4, Try.ntmps4
          go_wp2_with (first | ((with_reducible refine gate_callee (f := 17) rfl ?_); refine goesL_ (some 12) rfl rfl Try.func17 (by kernel_rfl) rfl #[.int .i64 a0, .int .i64 3329] rfl (by (try simp only [List.map_toArray, List.map_cons, List.map_nil]); first | done | rfl | (simp only [List.length_drop, List.length_take]; rfl)) ?_; (with_reducible refine (chatelainelaw0_Low.calls a0 3329 t126 _ A4.out).mono ?_); rintro e w' ⟨rfl, ⟨nd, rfl⟩⟩; refine ⟨_, rfl, ?_⟩) | ((with_reducible refine gate_callee (f := 17) rfl ?_); refine goesL_ (some 14) rfl rfl Try.func17 (by kernel_rfl) rfl #[.int .i64 a2, .int .i64 11] rfl (by (try simp only [List.map_toArray, List.map_cons, List.map_nil]); first | done | rfl | (simp only [List.length_drop, List.length_take]; rfl)) ?_; (with_reducible refine (chatelainelaw0_Low.calls a2 11 t127 _ A5.out).mono ?_); rintro e w' ⟨rfl, ⟨nd, rfl⟩⟩; refine ⟨_, rfl, ?_⟩) | ((with_reducible refine gate_callee (f := 17) rfl ?_); refine goesL_ (some 19) rfl rfl Try.func17 (by kernel_rfl) rfl #[.int .i64 a1, .int .i64 ji8] rfl (by (try simp only [List.map_toArray, List.map_cons, List.map_nil]); first | done | (simp only [hji8]; rfl) | rfl | (simp only [List.length_drop, List.length_take]; rfl)) ?_; (with_reducible refine (chatelainelaw0_Low.calls a1 ji8 t128 _ A9.out).mono ?_); rintro e w' ⟨rfl, ⟨nd, rfl⟩⟩; refine ⟨_, rfl, ?_⟩) | ((with_reducible refine gate_callee (f := 19) rfl ?_); refine goesL_ (some 22) rfl rfl Try.func19 (by kernel_rfl) rfl #[.int .i64 ji6, .int .i64 t126] rfl (by (try simp only [List.map_toArray, List.map_cons, List.map_nil]); first | done | (simp only [hji6]; rfl) | rfl | (simp only [List.length_drop, List.length_take]; rfl)) ?_; (with_reducible refine (ring_Squash.calls ji6 t126 t129 _ A10.out).mono ?_); rintro e w' ⟨rfl, ⟨nd, rfl⟩⟩; refine ⟨_, rfl, ?_⟩) | ((with_reducible refine gate_callee (f := 18) rfl ?_); refine goesL_ (some 25) rfl rfl Try.func18 (by kernel_rfl) rfl #[.int .i64 ji6, .int .i64 t129] rfl (by (try simp only [List.map_toArray, List.map_cons, List.map_nil]); first | done | (simp only [hji6]; rfl) | rfl | (simp only [List.length_drop, List.length_take]; rfl)) ?_; (with_reducible refine (ring_Stretch.calls ji6 t129 t130 _ A11.out).mono ?_); rintro e w' ⟨rfl, ⟨nd, rfl⟩⟩; refine ⟨_, rfl, ?_⟩) | ((with_reducible refine gate_callee (f := 21) rfl ?_); refine goesL_ (some 27) rfl rfl Try.func21 (by kernel_rfl) rfl #[.int .i64 t130, .int .i64 t126] rfl (by (try simp only [List.map_toArray, List.map_cons, List.map_nil]); first | done | rfl | (simp only [List.length_drop, List.length_take]; rfl)) ?_; (with_reducible refine (ring_Sub.calls t130 t126 t131 _ A12.out).mono ?_); rintro e w' ⟨rfl, ⟨nd, rfl⟩⟩; refine ⟨_, rfl, ?_⟩))
          go_ret
          exact ⟨by first | rfl | (simp [errW_none, errW_some] <;> rfl) | (simp only [← hji6, ← hji8, ← hji13, ← hji14, ← hji16, ← hji18]; first | rfl | (simp [errW_none, errW_some] <;> rfl)) | (simp [*, errW_none, errW_some] <;> rfl), by repeat (first | (with_reducible first | exact HB.out | apply below_alloc | apply pw_below_drewN | apply below_drew1) | exact HB.out)⟩
      · rw [if_neg c19] at H
        have c19b0 : decide (0 ≤ t129) = false := decide_eq_false c19
        clear c19
        obtain rfl := Option.some.inj H
        go_enter Try.func4, Try.ntmps4
        go_wp2_with (first | ((with_reducible refine gate_callee (f := 17) rfl ?_); refine goesL_ (some 12) rfl rfl Try.func17 (by kernel_rfl) rfl #[.int .i64 a0, .int .i64 3329] rfl (by (try simp only [List.map_toArray, List.map_cons, List.map_nil]); first | done | rfl | (simp only [List.length_drop, List.length_take]; rfl)) ?_; (with_reducible refine (chatelainelaw0_Low.calls a0 3329 t126 _ A4.out).mono ?_); rintro e w' ⟨rfl, ⟨nd, rfl⟩⟩; refine ⟨_, rfl, ?_⟩) | ((with_reducible refine gate_callee (f := 17) rfl ?_); refine goesL_ (some 14) rfl rfl Try.func17 (by kernel_rfl) rfl #[.int .i64 a2, .int .i64 11] rfl (by (try simp only [List.map_toArray, List.map_cons, List.map_nil]); first | done | rfl | (simp only [List.length_drop, List.length_take]; rfl)) ?_; (with_reducible refine (chatelainelaw0_Low.calls a2 11 t127 _ A5.out).mono ?_); rintro e w' ⟨rfl, ⟨nd, rfl⟩⟩; refine ⟨_, rfl, ?_⟩) | ((with_reducible refine gate_callee (f := 17) rfl ?_); refine goesL_ (some 19) rfl rfl Try.func17 (by kernel_rfl) rfl #[.int .i64 a1, .int .i64 ji8] rfl (by (try simp only [List.map_toArray, List.map_cons, List.map_nil]); first | done | (simp only [hji8]; rfl) | rfl | (simp only [List.length_drop, List.length_take]; rfl)) ?_; (with_reducible refine (chatelainelaw0_Low.calls a1 ji8 t128 _ A9.out).mono ?_); rintro e w' ⟨rfl, ⟨nd, rfl⟩⟩; refine ⟨_, rfl, ?_⟩) | ((with_reducible refine gate_callee (f := 19) rfl ?_); refine goesL_ (some 22) rfl rfl Try.func19 (by kernel_rfl) rfl #[.int .i64 ji6, .int .i64 t126] rfl (by (try simp only [List.map_toArray, List.map_cons, List.map_nil]); first | done | (simp only [hji6]; rfl) | rfl | (simp only [List.length_drop, List.length_take]; rfl)) ?_; (with_reducible refine (ring_Squash.calls ji6 t126 t129 _ A10.out).mono ?_); rintro e w' ⟨rfl, ⟨nd, rfl⟩⟩; refine ⟨_, rfl, ?_⟩) | ((with_reducible refine gate_callee (f := 18) rfl ?_); refine goesL_ (some 25) rfl rfl Try.func18 (by kernel_rfl) rfl #[.int .i64 ji6, .int .i64 t129] rfl (by (try simp only [List.map_toArray, List.map_cons, List.map_nil]); first | done | (simp only [hji6]; rfl) | rfl | (simp only [List.length_drop, List.length_take]; rfl)) ?_; (with_reducible refine (ring_Stretch.calls ji6 t129 t130 _ A11.out).mono ?_); rintro e w' ⟨rfl, ⟨nd, rfl⟩⟩; refine ⟨_, rfl, ?_⟩) | ((with_reducible refine gate_callee (f := 21) rfl ?_); refine goesL_ (some 27) rfl rfl Try.func21 (by kernel_rfl) rfl #[.int .i64 t130, .int .i64 t126] rfl (by (try simp only [List.map_toArray, List.map_cons, List.map_nil]); first | done | rfl | (simp only [List.length_drop, List.length_take]; rfl)) ?_; (with_reducible refine (ring_Sub.calls t130 t126 t131 _ A12.out).mono ?_); rintro e w' ⟨rfl, ⟨nd, rfl⟩⟩; refine ⟨_, rfl, ?_⟩))
        go_ret
        exact ⟨by first | rfl | (simp [errW_none, errW_some] <;> rfl) | (simp only [← hji6, ← hji8, ← hji13, ← hji14, ← hji16, ← hji18]; first | rfl | (simp [errW_none, errW_some] <;> rfl)) | (simp [*, errW_none, errW_some] <;> rfl), by repeat (first | (with_reducible first | exact HB.out | apply below_alloc | apply pw_below_drewN | apply below_drew1) | exact HB.out)⟩
    · rw [if_neg c15] at H
      exact absurd H (by simp)
  · rw [if_neg c7] at H
    exact absurd H (by simp)

/-- THE ONE PURE STATEMENT of chatelainelaw3_RingNear: yours. -/
def chatelainelaw3_RingNear.Pure : Prop := ∀ (a0 : Int) (a1 : Int) (a2 : Int), (Lit.int .i64 a0).wf = true → (Lit.int .i64 a1).wf = true → (Lit.int .i64 a2).wf = true → ∃ k, chatelainelaw3_RingNear.f k a0 a1 a2 = some true
theorem chatelainelaw3_RingNear.walk (P : chatelainelaw3_RingNear.Pure) (a0 : Int) (a1 : Int) (a2 : Int) (w : World) (w0 : (Lit.int .i64 a0).wf = true) (w1 : (Lit.int .i64 a1).wf = true) (w2 : (Lit.int .i64 a2).wf = true) :
    Calls Try.prog 4 #[.int .i64 a0, .int .i64 a1, .int .i64 a2] w fun e w' => e = .returned (.bool true) ∧ Below w.heap.size w w' := by
  obtain ⟨k, h⟩ := P a0 a1 a2 w0 w1 w2
  refine (chatelainelaw3_RingNear.calls k a0 a1 a2 true w h).mono ?_
  rintro e w' ⟨rfl, hd⟩
  exact ⟨rfl, hd⟩

/-! ### ring_Mul: function 22 -/
def ring_Mul.f (a0 : Int) (a1 : Int) : Option (Int) := (ring_Of.f a0).bind fun t135 => ((ring_Of.f a1).bind fun t136 => (some (Int.tmod (wrap64 (t135 * t136)) 3329)))
set_option maxHeartbeats 8000000 in
set_option maxRecDepth 100000 in
theorem ring_Mul.calls (a0 : Int) (a1 : Int) (r : Int) (w : World) (h : ring_Mul.f a0 a1 = some r) :
    Calls Try.prog 22 #[.int .i64 a0, .int .i64 a1] w fun e w' => e = .returned (.int .i64 r) ∧ Drawn0 w w' := by
  have H : ((ring_Of.f a0).bind fun t135 => ((ring_Of.f a1).bind fun t136 => (some (Int.tmod (wrap64 (t135 * t136)) 3329)))) = some r := h
  clear h
  replace H := Option.bind_eq_some_iff.mp H
  obtain ⟨t135, A30, H⟩ := H
  replace H : ((ring_Of.f a1).bind fun t136 => (some (Int.tmod (wrap64 (t135 * t136)) 3329))) = some r := H
  have A3 := Aside0.mk A30
  clear A30
  replace H := Option.bind_eq_some_iff.mp H
  obtain ⟨t136, A40, H⟩ := H
  replace H : (some (Int.tmod (wrap64 (t135 * t136)) 3329)) = some r := H
  have A4 := Aside0.mk A40
  clear A40
  obtain rfl := Option.some.inj H
  go_enter Try.func22, Try.ntmps22
  go_wp2_with (first | ((with_reducible refine gate_callee (f := 25) rfl ?_); refine goesL_ (some 6) rfl rfl Try.func25 (by kernel_rfl) rfl #[.int .i64 a0] rfl (by (try simp only [List.map_toArray, List.map_cons, List.map_nil]); first | done | rfl | (simp only [List.length_drop, List.length_take]; rfl)) ?_; (with_reducible refine (ring_Of.calls a0 t135 _ A3.out).mono ?_); rintro e w' ⟨rfl, ⟨nd, rfl⟩⟩; refine ⟨_, rfl, ?_⟩) | ((with_reducible refine gate_callee (f := 25) rfl ?_); refine goesL_ (some 8) rfl rfl Try.func25 (by kernel_rfl) rfl #[.int .i64 a1] rfl (by (try simp only [List.map_toArray, List.map_cons, List.map_nil]); first | done | rfl | (simp only [List.length_drop, List.length_take]; rfl)) ?_; (with_reducible refine (ring_Of.calls a1 t136 _ A4.out).mono ?_); rintro e w' ⟨rfl, ⟨nd, rfl⟩⟩; refine ⟨_, rfl, ?_⟩))
  go_ret
  exact ⟨by first | rfl | (simp; done) | (simp [*]; done), by repeat (first | exact Drawn0.refl _ | apply Drawn0.step)⟩

end Go.Proofs.Ytiphpcehmjcejaa.PRing
