-- By a program of this session (wip/myprint.sh) out of the translation; Lean checks it.
import Derived.Test.YtiphpcehmjcejaaPRingx0
import Derived.Test.YtiphpcehmjcejaaPRingx1
import Derived.Test.YtiphpcehmjcejaaPRingx2
import Derived.Test.YtiphpcehmjcejaaPRingx4
namespace Go.Proofs.Ytiphpcehmjcejaa.PRing
open Go.RowKit Go.Proofs.YtiphpcehmjcejaaW.PrintWords Go.Proofs.YtiphpcehmjcejaaW.PrintLast Go.Proofs.YtiphpcehmjcejaaW.PrintMore
attribute [local go_sem] max2_int min2_int max_two min_two max_three min_three max_four min_four   -- for this text's walks alone
set_option linter.unusedVariables false
set_option linter.unusedSimpArgs false

/-! ### chatelainelaw3_RingRoots: function 5 -/
def chatelainelaw3_RingRoots.f (k : Nat) (a0 : Int) (a1 : Int) : Option (Bool) := (chatelainelaw0_Low.f a0 128).bind fun t137 => ((chatelainelaw0_Low.f a1 128).bind fun t138 => ((ring_Root.f k t137).bind fun t139 => ((ring_Root.f k t137).bind fun t140 => ((ring_Mul.f t139 t140).bind fun t141 => ((ring_Mul.f t141 17).bind fun t142 => ((ring_Root.f k t138).bind fun t143 => ((ring_Root.f k t138).bind fun t144 => ((ring_Mul.f t143 t144).bind fun t145 => ((ring_Mul.f t145 17).bind fun t146 => ((ring_Pow.f k t142 128).bind fun t147 => (if t147 = 3328 then (if ((t142 == t146) == (t137 == t138)) = true then ((ring_Root.f k (wrap64 (t137 + 128))).bind fun t148 => ((ring_Root.f k t137).bind fun t149 => (if t148 = t149 then ((chatelainelaw3_awake.f k).bind fun t150 => (some t150)) else (some false)))) else (some false)) else (some false))))))))))))
theorem chatelainelaw3_RingRoots.mono : ∀ a0 a1 k, LeO (chatelainelaw3_RingRoots.f k a0 a1) (chatelainelaw3_RingRoots.f (k + 1) a0 a1) := by
  intro a0 a1 k
  unfold chatelainelaw3_RingRoots.f
  repeat' first
      | (with_reducible exact chatelainelaw3_awake.mono _)
      | (with_reducible exact ring_Pow.mono _ _ _)
      | (with_reducible exact ring_Root.mono _ _)
      | (with_reducible exact LeO.refl _)
      | (with_reducible exact LeO.none _)
      | (with_reducible refine LeO.ite ?_ ?_)
      | (with_reducible refine LeO.bind ?_ (fun _ => ?_))
      | exact chatelainelaw3_awake.mono _
      | exact ring_Pow.mono _ _ _
      | exact ring_Root.mono _ _
      | exact LeO.none _
      | refine LeO.ite ?_ ?_
      | refine LeO.bind ?_ (fun _ => ?_)
set_option maxHeartbeats 8000000 in
set_option maxRecDepth 100000 in
theorem chatelainelaw3_RingRoots.calls (k : Nat) (a0 : Int) (a1 : Int) (r : Bool) (w : World) (h : chatelainelaw3_RingRoots.f k a0 a1 = some r) :
    Calls Try.prog 5 #[.int .i64 a0, .int .i64 a1] w fun e w' => e = .returned (.bool r) ∧ Drawn0 w w' := by
  have H : ((chatelainelaw0_Low.f a0 128).bind fun t137 => ((chatelainelaw0_Low.f a1 128).bind fun t138 => ((ring_Root.f k t137).bind fun t139 => ((ring_Root.f k t137).bind fun t140 => ((ring_Mul.f t139 t140).bind fun t141 => ((ring_Mul.f t141 17).bind fun t142 => ((ring_Root.f k t138).bind fun t143 => ((ring_Root.f k t138).bind fun t144 => ((ring_Mul.f t143 t144).bind fun t145 => ((ring_Mul.f t145 17).bind fun t146 => ((ring_Pow.f k t142 128).bind fun t147 => (if t147 = 3328 then (if ((t142 == t146) == (t137 == t138)) = true then ((ring_Root.f k (wrap64 (t137 + 128))).bind fun t148 => ((ring_Root.f k t137).bind fun t149 => (if t148 = t149 then ((chatelainelaw3_awake.f k).bind fun t150 => (some t150)) else (some false)))) else (some false)) else (some false))))))))))))) = some r := h
  clear h
  replace H := Option.bind_eq_some_iff.mp H
  obtain ⟨t137, A30, H⟩ := H
  replace H : ((chatelainelaw0_Low.f a1 128).bind fun t138 => ((ring_Root.f k t137).bind fun t139 => ((ring_Root.f k t137).bind fun t140 => ((ring_Mul.f t139 t140).bind fun t141 => ((ring_Mul.f t141 17).bind fun t142 => ((ring_Root.f k t138).bind fun t143 => ((ring_Root.f k t138).bind fun t144 => ((ring_Mul.f t143 t144).bind fun t145 => ((ring_Mul.f t145 17).bind fun t146 => ((ring_Pow.f k t142 128).bind fun t147 => (if t147 = 3328 then (if ((t142 == t146) == (t137 == t138)) = true then ((ring_Root.f k (wrap64 (t137 + 128))).bind fun t148 => ((ring_Root.f k t137).bind fun t149 => (if t148 = t149 then ((chatelainelaw3_awake.f k).bind fun t150 => (some t150)) else (some false)))) else (some false)) else (some false)))))))))))) = some r := H
  have A3 := Aside0.mk A30
  clear A30
  replace H := Option.bind_eq_some_iff.mp H
  obtain ⟨t138, A40, H⟩ := H
  replace H : ((ring_Root.f k t137).bind fun t139 => ((ring_Root.f k t137).bind fun t140 => ((ring_Mul.f t139 t140).bind fun t141 => ((ring_Mul.f t141 17).bind fun t142 => ((ring_Root.f k t138).bind fun t143 => ((ring_Root.f k t138).bind fun t144 => ((ring_Mul.f t143 t144).bind fun t145 => ((ring_Mul.f t145 17).bind fun t146 => ((ring_Pow.f k t142 128).bind fun t147 => (if t147 = 3328 then (if ((t142 == t146) == (t137 == t138)) = true then ((ring_Root.f k (wrap64 (t137 + 128))).bind fun t148 => ((ring_Root.f k t137).bind fun t149 => (if t148 = t149 then ((chatelainelaw3_awake.f k).bind fun t150 => (some t150)) else (some false)))) else (some false)) else (some false))))))))))) = some r := H
  have A4 := Aside0.mk A40
  clear A40
  replace H := Option.bind_eq_some_iff.mp H
  obtain ⟨t139, A50, H⟩ := H
  replace H : ((ring_Root.f k t137).bind fun t140 => ((ring_Mul.f t139 t140).bind fun t141 => ((ring_Mul.f t141 17).bind fun t142 => ((ring_Root.f k t138).bind fun t143 => ((ring_Root.f k t138).bind fun t144 => ((ring_Mul.f t143 t144).bind fun t145 => ((ring_Mul.f t145 17).bind fun t146 => ((ring_Pow.f k t142 128).bind fun t147 => (if t147 = 3328 then (if ((t142 == t146) == (t137 == t138)) = true then ((ring_Root.f k (wrap64 (t137 + 128))).bind fun t148 => ((ring_Root.f k t137).bind fun t149 => (if t148 = t149 then ((chatelainelaw3_awake.f k).bind fun t150 => (some t150)) else (some false)))) else (some false)) else (some false)))))))))) = some r := H
  have A5 := Aside0.mk A50
  clear A50
  replace H := Option.bind_eq_some_iff.mp H
  obtain ⟨t140, A60, H⟩ := H
  replace H : ((ring_Mul.f t139 t140).bind fun t141 => ((ring_Mul.f t141 17).bind fun t142 => ((ring_Root.f k t138).bind fun t143 => ((ring_Root.f k t138).bind fun t144 => ((ring_Mul.f t143 t144).bind fun t145 => ((ring_Mul.f t145 17).bind fun t146 => ((ring_Pow.f k t142 128).bind fun t147 => (if t147 = 3328 then (if ((t142 == t146) == (t137 == t138)) = true then ((ring_Root.f k (wrap64 (t137 + 128))).bind fun t148 => ((ring_Root.f k t137).bind fun t149 => (if t148 = t149 then ((chatelainelaw3_awake.f k).bind fun t150 => (some t150)) else (some false)))) else (some false)) else (some false))))))))) = some r := H
  have A6 := Aside0.mk A60
  clear A60
  replace H := Option.bind_eq_some_iff.mp H
  obtain ⟨t141, A70, H⟩ := H
  replace H : ((ring_Mul.f t141 17).bind fun t142 => ((ring_Root.f k t138).bind fun t143 => ((ring_Root.f k t138).bind fun t144 => ((ring_Mul.f t143 t144).bind fun t145 => ((ring_Mul.f t145 17).bind fun t146 => ((ring_Pow.f k t142 128).bind fun t147 => (if t147 = 3328 then (if ((t142 == t146) == (t137 == t138)) = true then ((ring_Root.f k (wrap64 (t137 + 128))).bind fun t148 => ((ring_Root.f k t137).bind fun t149 => (if t148 = t149 then ((chatelainelaw3_awake.f k).bind fun t150 => (some t150)) else (some false)))) else (some false)) else (some false)))))))) = some r := H
  have A7 := Aside0.mk A70
  clear A70
  replace H := Option.bind_eq_some_iff.mp H
  obtain ⟨t142, A80, H⟩ := H
  replace H : ((ring_Root.f k t138).bind fun t143 => ((ring_Root.f k t138).bind fun t144 => ((ring_Mul.f t143 t144).bind fun t145 => ((ring_Mul.f t145 17).bind fun t146 => ((ring_Pow.f k t142 128).bind fun t147 => (if t147 = 3328 then (if ((t142 == t146) == (t137 == t138)) = true then ((ring_Root.f k (wrap64 (t137 + 128))).bind fun t148 => ((ring_Root.f k t137).bind fun t149 => (if t148 = t149 then ((chatelainelaw3_awake.f k).bind fun t150 => (some t150)) else (some false)))) else (some false)) else (some false))))))) = some r := H
  have A8 := Aside0.mk A80
  clear A80
  replace H := Option.bind_eq_some_iff.mp H
  obtain ⟨t143, A90, H⟩ := H
  replace H : ((ring_Root.f k t138).bind fun t144 => ((ring_Mul.f t143 t144).bind fun t145 => ((ring_Mul.f t145 17).bind fun t146 => ((ring_Pow.f k t142 128).bind fun t147 => (if t147 = 3328 then (if ((t142 == t146) == (t137 == t138)) = true then ((ring_Root.f k (wrap64 (t137 + 128))).bind fun t148 => ((ring_Root.f k t137).bind fun t149 => (if t148 = t149 then ((chatelainelaw3_awake.f k).bind fun t150 => (some t150)) else (some false)))) else (some false)) else (some false)))))) = some r := H
  have A9 := Aside0.mk A90
  clear A90
  replace H := Option.bind_eq_some_iff.mp H
  obtain ⟨t144, A100, H⟩ := H
  replace H : ((ring_Mul.f t143 t144).bind fun t145 => ((ring_Mul.f t145 17).bind fun t146 => ((ring_Pow.f k t142 128).bind fun t147 => (if t147 = 3328 then (if ((t142 == t146) == (t137 == t138)) = true then ((ring_Root.f k (wrap64 (t137 + 128))).bind fun t148 => ((ring_Root.f k t137).bind fun t149 => (if t148 = t149 then ((chatelainelaw3_awake.f k).bind fun t150 => (some t150)) else (some false)))) else (some false)) else (some false))))) = some r := H
  have A10 := Aside0.mk A100
  clear A100
  replace H := Option.bind_eq_some_iff.mp H
  obtain ⟨t145, A110, H⟩ := H
  replace H : ((ring_Mul.f t145 17).bind fun t146 => ((ring_Pow.f k t142 128).bind fun t147 => (if t147 = 3328 then (if ((t142 == t146) == (t137 == t138)) = true then ((ring_Root.f k (wrap64 (t137 + 128))).bind fun t148 => ((ring_Root.f k t137).bind fun t149 => (if t148 = t149 then ((chatelainelaw3_awake.f k).bind fun t150 => (some t150)) else (some false)))) else (some false)) else (some false)))) = some r := H
  have A11 := Aside0.mk A110
  clear A110
  replace H := Option.bind_eq_some_iff.mp H
  obtain ⟨t146, A120, H⟩ := H
  replace H : ((ring_Pow.f k t142 128).bind fun t147 => (if t147 = 3328 then (if ((t142 == t146) == (t137 == t138)) = true then ((ring_Root.f k (wrap64 (t137 + 128))).bind fun t148 => ((ring_Root.f k t137).bind fun t149 => (if t148 = t149 then ((chatelainelaw3_awake.f k).bind fun t150 => (some t150)) else (some false)))) else (some false)) else (some false))) = some r := H
  have A12 := Aside0.mk A120
  clear A120
  replace H := Option.bind_eq_some_iff.mp H
  obtain ⟨t147, A130, H⟩ := H
  replace H : (if t147 = 3328 then (if ((t142 == t146) == (t137 == t138)) = true then ((ring_Root.f k (wrap64 (t137 + 128))).bind fun t148 => ((ring_Root.f k t137).bind fun t149 => (if t148 = t149 then ((chatelainelaw3_awake.f k).bind fun t150 => (some t150)) else (some false)))) else (some false)) else (some false)) = some r := H
  have A13 := Aside0.mk A130
  clear A130
  by_cases c14 : t147 = 3328
  · rw [if_pos c14] at H
    have c14b0 : (t147 == 3328) = true := beq_iff_eq.mpr c14
    have c14b1 : (t147 != 3328) = false := bne_eq_false_iff_eq.mpr c14
    clear c14
    by_cases c15 : ((t142 == t146) == (t137 == t138)) = true
    · rw [if_pos c15] at H
      have c15b0 : ((t142 == t146) == (t137 == t138)) = true := c15
      (try (have c15b1 : decide ((t142 == t146) = (t137 == t138)) = true := by simpa using c15))
      (try (have c15b2 : ((t142 == t146) == (t137 == t138)) = true := by simpa using c15))
      clear c15
      replace H := Option.bind_eq_some_iff.mp H
      obtain ⟨t148, A160, H⟩ := H
      replace H : ((ring_Root.f k t137).bind fun t149 => (if t148 = t149 then ((chatelainelaw3_awake.f k).bind fun t150 => (some t150)) else (some false))) = some r := H
      have A16 := Aside0.mk A160
      clear A160
      replace H := Option.bind_eq_some_iff.mp H
      obtain ⟨t149, A170, H⟩ := H
      replace H : (if t148 = t149 then ((chatelainelaw3_awake.f k).bind fun t150 => (some t150)) else (some false)) = some r := H
      have A17 := Aside0.mk A170
      clear A170
      by_cases c18 : t148 = t149
      · rw [if_pos c18] at H
        have c18b0 : (t148 == t149) = true := beq_iff_eq.mpr c18
        have c18b1 : (t148 != t149) = false := bne_eq_false_iff_eq.mpr c18
        clear c18
        replace H := Option.bind_eq_some_iff.mp H
        obtain ⟨t150, A190, H⟩ := H
        replace H : (some t150) = some r := H
        have A19 := Aside0.mk A190
        clear A190
        obtain rfl := Option.some.inj H
        go_enter Try.func5, Try.ntmps5
        go_wp2_with (first | ((with_reducible refine gate_callee (f := 17) rfl ?_); refine goesL_ (some 8) rfl rfl Try.func17 (by kernel_rfl) rfl #[.int .i64 a0, .int .i64 128] rfl (by (try simp only [List.map_toArray, List.map_cons, List.map_nil]); first | done | rfl | (simp only [List.length_drop, List.length_take]; rfl)) ?_; (with_reducible refine (chatelainelaw0_Low.calls a0 128 t137 _ A3.out).mono ?_); rintro e w' ⟨rfl, ⟨nd, rfl⟩⟩; refine ⟨_, rfl, ?_⟩) | ((with_reducible refine gate_callee (f := 17) rfl ?_); refine goesL_ (some 10) rfl rfl Try.func17 (by kernel_rfl) rfl #[.int .i64 a1, .int .i64 128] rfl (by (try simp only [List.map_toArray, List.map_cons, List.map_nil]); first | done | rfl | (simp only [List.length_drop, List.length_take]; rfl)) ?_; (with_reducible refine (chatelainelaw0_Low.calls a1 128 t138 _ A4.out).mono ?_); rintro e w' ⟨rfl, ⟨nd, rfl⟩⟩; refine ⟨_, rfl, ?_⟩) | ((with_reducible refine gate_callee (f := 23) rfl ?_); refine goesL_ (some 12) rfl rfl Try.func23 (by kernel_rfl) rfl #[.int .i64 t137] rfl (by (try simp only [List.map_toArray, List.map_cons, List.map_nil]); first | done | rfl | (simp only [List.length_drop, List.length_take]; rfl)) ?_; (with_reducible refine (ring_Root.calls k t137 t139 _ A5.out).mono ?_); rintro e w' ⟨rfl, ⟨nd, rfl⟩⟩; refine ⟨_, rfl, ?_⟩) | ((with_reducible refine gate_callee (f := 23) rfl ?_); refine goesL_ (some 14) rfl rfl Try.func23 (by kernel_rfl) rfl #[.int .i64 t137] rfl (by (try simp only [List.map_toArray, List.map_cons, List.map_nil]); first | done | rfl | (simp only [List.length_drop, List.length_take]; rfl)) ?_; (with_reducible refine (ring_Root.calls k t137 t140 _ A6.out).mono ?_); rintro e w' ⟨rfl, ⟨nd, rfl⟩⟩; refine ⟨_, rfl, ?_⟩) | ((with_reducible refine gate_callee (f := 22) rfl ?_); refine goesL_ (some 15) rfl rfl Try.func22 (by kernel_rfl) rfl #[.int .i64 t139, .int .i64 t140] rfl (by (try simp only [List.map_toArray, List.map_cons, List.map_nil]); first | done | rfl | (simp only [List.length_drop, List.length_take]; rfl)) ?_; (with_reducible refine (ring_Mul.calls t139 t140 t141 _ A7.out).mono ?_); rintro e w' ⟨rfl, ⟨nd, rfl⟩⟩; refine ⟨_, rfl, ?_⟩) | ((with_reducible refine gate_callee (f := 22) rfl ?_); refine goesL_ (some 16) rfl rfl Try.func22 (by kernel_rfl) rfl #[.int .i64 t141, .int .i64 17] rfl (by (try simp only [List.map_toArray, List.map_cons, List.map_nil]); first | done | rfl | (simp only [List.length_drop, List.length_take]; rfl)) ?_; (with_reducible refine (ring_Mul.calls t141 17 t142 _ A8.out).mono ?_); rintro e w' ⟨rfl, ⟨nd, rfl⟩⟩; refine ⟨_, rfl, ?_⟩) | ((with_reducible refine gate_callee (f := 23) rfl ?_); refine goesL_ (some 18) rfl rfl Try.func23 (by kernel_rfl) rfl #[.int .i64 t138] rfl (by (try simp only [List.map_toArray, List.map_cons, List.map_nil]); first | done | rfl | (simp only [List.length_drop, List.length_take]; rfl)) ?_; (with_reducible refine (ring_Root.calls k t138 t143 _ A9.out).mono ?_); rintro e w' ⟨rfl, ⟨nd, rfl⟩⟩; refine ⟨_, rfl, ?_⟩) | ((with_reducible refine gate_callee (f := 23) rfl ?_); refine goesL_ (some 20) rfl rfl Try.func23 (by kernel_rfl) rfl #[.int .i64 t138] rfl (by (try simp only [List.map_toArray, List.map_cons, List.map_nil]); first | done | rfl | (simp only [List.length_drop, List.length_take]; rfl)) ?_; (with_reducible refine (ring_Root.calls k t138 t144 _ A10.out).mono ?_); rintro e w' ⟨rfl, ⟨nd, rfl⟩⟩; refine ⟨_, rfl, ?_⟩) | ((with_reducible refine gate_callee (f := 22) rfl ?_); refine goesL_ (some 21) rfl rfl Try.func22 (by kernel_rfl) rfl #[.int .i64 t143, .int .i64 t144] rfl (by (try simp only [List.map_toArray, List.map_cons, List.map_nil]); first | done | rfl | (simp only [List.length_drop, List.length_take]; rfl)) ?_; (with_reducible refine (ring_Mul.calls t143 t144 t145 _ A11.out).mono ?_); rintro e w' ⟨rfl, ⟨nd, rfl⟩⟩; refine ⟨_, rfl, ?_⟩) | ((with_reducible refine gate_callee (f := 22) rfl ?_); refine goesL_ (some 22) rfl rfl Try.func22 (by kernel_rfl) rfl #[.int .i64 t145, .int .i64 17] rfl (by (try simp only [List.map_toArray, List.map_cons, List.map_nil]); first | done | rfl | (simp only [List.length_drop, List.length_take]; rfl)) ?_; (with_reducible refine (ring_Mul.calls t145 17 t146 _ A12.out).mono ?_); rintro e w' ⟨rfl, ⟨nd, rfl⟩⟩; refine ⟨_, rfl, ?_⟩) | ((with_reducible refine gate_callee (f := 24) rfl ?_); refine goesL_ (some 24) rfl rfl Try.func24 (by kernel_rfl) rfl #[.int .i64 t142, .int .i64 128] rfl (by (try simp only [List.map_toArray, List.map_cons, List.map_nil]); first | done | rfl | (simp only [List.length_drop, List.length_take]; rfl)) ?_; (with_reducible refine (ring_Pow.calls k t142 128 t147 _ A13.out).mono ?_); rintro e w' ⟨rfl, ⟨nd, rfl⟩⟩; refine ⟨_, rfl, ?_⟩) | (go_at_call 23; (with_reducible refine (ring_Root.calls k (wrap64 (t137 + 128)) t148 _ A16.out).mono ?_); rintro e w' ⟨rfl, ⟨nd, rfl⟩⟩) | (go_at_call 23; (with_reducible refine (ring_Root.calls k t137 t149 _ A17.out).mono ?_); rintro e w' ⟨rfl, ⟨nd, rfl⟩⟩) | (go_at_call 20; (with_reducible refine (chatelainelaw3_awake.calls k  t150 _ A19.out).mono ?_); rintro e w' ⟨rfl, ⟨nd, rfl⟩⟩))
        go_ret
        exact ⟨by first | rfl | (simp; done) | (simp [*]; done), by repeat (first | exact Drawn0.refl _ | apply Drawn0.step)⟩
      · rw [if_neg c18] at H
        have c18b0 : (t148 == t149) = false := beq_eq_false_iff_ne.mpr c18
        have c18b1 : (t148 != t149) = true := bne_iff_ne.mpr c18
        obtain rfl := Option.some.inj H
        go_enter Try.func5, Try.ntmps5
        go_wp2_with (first | ((with_reducible refine gate_callee (f := 17) rfl ?_); refine goesL_ (some 8) rfl rfl Try.func17 (by kernel_rfl) rfl #[.int .i64 a0, .int .i64 128] rfl (by (try simp only [List.map_toArray, List.map_cons, List.map_nil]); first | done | rfl | (simp only [List.length_drop, List.length_take]; rfl)) ?_; (with_reducible refine (chatelainelaw0_Low.calls a0 128 t137 _ A3.out).mono ?_); rintro e w' ⟨rfl, ⟨nd, rfl⟩⟩; refine ⟨_, rfl, ?_⟩) | ((with_reducible refine gate_callee (f := 17) rfl ?_); refine goesL_ (some 10) rfl rfl Try.func17 (by kernel_rfl) rfl #[.int .i64 a1, .int .i64 128] rfl (by (try simp only [List.map_toArray, List.map_cons, List.map_nil]); first | done | rfl | (simp only [List.length_drop, List.length_take]; rfl)) ?_; (with_reducible refine (chatelainelaw0_Low.calls a1 128 t138 _ A4.out).mono ?_); rintro e w' ⟨rfl, ⟨nd, rfl⟩⟩; refine ⟨_, rfl, ?_⟩) | ((with_reducible refine gate_callee (f := 23) rfl ?_); refine goesL_ (some 12) rfl rfl Try.func23 (by kernel_rfl) rfl #[.int .i64 t137] rfl (by (try simp only [List.map_toArray, List.map_cons, List.map_nil]); first | done | rfl | (simp only [List.length_drop, List.length_take]; rfl)) ?_; (with_reducible refine (ring_Root.calls k t137 t139 _ A5.out).mono ?_); rintro e w' ⟨rfl, ⟨nd, rfl⟩⟩; refine ⟨_, rfl, ?_⟩) | ((with_reducible refine gate_callee (f := 23) rfl ?_); refine goesL_ (some 14) rfl rfl Try.func23 (by kernel_rfl) rfl #[.int .i64 t137] rfl (by (try simp only [List.map_toArray, List.map_cons, List.map_nil]); first | done | rfl | (simp only [List.length_drop, List.length_take]; rfl)) ?_; (with_reducible refine (ring_Root.calls k t137 t140 _ A6.out).mono ?_); rintro e w' ⟨rfl, ⟨nd, rfl⟩⟩; refine ⟨_, rfl, ?_⟩) | ((with_reducible refine gate_callee (f := 22) rfl ?_); refine goesL_ (some 15) rfl rfl Try.func22 (by kernel_rfl) rfl #[.int .i64 t139, .int .i64 t140] rfl (by (try simp only [List.map_toArray, List.map_cons, List.map_nil]); first | done | rfl | (simp only [List.length_drop, List.length_take]; rfl)) ?_; (with_reducible refine (ring_Mul.calls t139 t140 t141 _ A7.out).mono ?_); rintro e w' ⟨rfl, ⟨nd, rfl⟩⟩; refine ⟨_, rfl, ?_⟩) | ((with_reducible refine gate_callee (f := 22) rfl ?_); refine goesL_ (some 16) rfl rfl Try.func22 (by kernel_rfl) rfl #[.int .i64 t141, .int .i64 17] rfl (by (try simp only [List.map_toArray, List.map_cons, List.map_nil]); first | done | rfl | (simp only [List.length_drop, List.length_take]; rfl)) ?_; (with_reducible refine (ring_Mul.calls t141 17 t142 _ A8.out).mono ?_); rintro e w' ⟨rfl, ⟨nd, rfl⟩⟩; refine ⟨_, rfl, ?_⟩) | ((with_reducible refine gate_callee (f := 23) rfl ?_); refine goesL_ (some 18) rfl rfl Try.func23 (by kernel_rfl) rfl #[.int .i64 t138] rfl (by (try simp only [List.map_toArray, List.map_cons, List.map_nil]); first | done | rfl | (simp only [List.length_drop, List.length_take]; rfl)) ?_; (with_reducible refine (ring_Root.calls k t138 t143 _ A9.out).mono ?_); rintro e w' ⟨rfl, ⟨nd, rfl⟩⟩; refine ⟨_, rfl, ?_⟩) | ((with_reducible refine gate_callee (f := 23) rfl ?_); refine goesL_ (some 20) rfl rfl Try.func23 (by kernel_rfl) rfl #[.int .i64 t138] rfl (by (try simp only [List.map_toArray, List.map_cons, List.map_nil]); first | done | rfl | (simp only [List.length_drop, List.length_take]; rfl)) ?_; (with_reducible refine (ring_Root.calls k t138 t144 _ A10.out).mono ?_); rintro e w' ⟨rfl, ⟨nd, rfl⟩⟩; refine ⟨_, rfl, ?_⟩) | ((with_reducible refine gate_callee (f := 22) rfl ?_); refine goesL_ (some 21) rfl rfl Try.func22 (by kernel_rfl) rfl #[.int .i64 t143, .int .i64 t144] rfl (by (try simp only [List.map_toArray, List.map_cons, List.map_nil]); first | done | rfl | (simp only [List.length_drop, List.length_take]; rfl)) ?_; (with_reducible refine (ring_Mul.calls t143 t144 t145 _ A11.out).mono ?_); rintro e w' ⟨rfl, ⟨nd, rfl⟩⟩; refine ⟨_, rfl, ?_⟩) | ((with_reducible refine gate_callee (f := 22) rfl ?_); refine goesL_ (some 22) rfl rfl Try.func22 (by kernel_rfl) rfl #[.int .i64 t145, .int .i64 17] rfl (by (try simp only [List.map_toArray, List.map_cons, List.map_nil]); first | done | rfl | (simp only [List.length_drop, List.length_take]; rfl)) ?_; (with_reducible refine (ring_Mul.calls t145 17 t146 _ A12.out).mono ?_); rintro e w' ⟨rfl, ⟨nd, rfl⟩⟩; refine ⟨_, rfl, ?_⟩) | ((with_reducible refine gate_callee (f := 24) rfl ?_); refine goesL_ (some 24) rfl rfl Try.func24 (by kernel_rfl) rfl #[.int .i64 t142, .int .i64 128] rfl (by (try simp only [List.map_toArray, List.map_cons, List.map_nil]); first | done | rfl | (simp only [List.length_drop, List.length_take]; rfl)) ?_; (with_reducible refine (ring_Pow.calls k t142 128 t147 _ A13.out).mono ?_); rintro e w' ⟨rfl, ⟨nd, rfl⟩⟩; refine ⟨_, rfl, ?_⟩) | (go_at_call 23; (with_reducible refine (ring_Root.calls k (wrap64 (t137 + 128)) t148 _ A16.out).mono ?_); rintro e w' ⟨rfl, ⟨nd, rfl⟩⟩) | (go_at_call 23; (with_reducible refine (ring_Root.calls k t137 t149 _ A17.out).mono ?_); rintro e w' ⟨rfl, ⟨nd, rfl⟩⟩))
        go_ret
        exact ⟨by first | rfl | (simp; done) | (simp [*]; done), by repeat (first | exact Drawn0.refl _ | apply Drawn0.step)⟩
    · rw [if_neg c15] at H
      have c15b0 : ((t142 == t146) == (t137 == t138)) = false := by simpa using c15
      (try (have c15b1 : decide ((t142 == t146) = (t137 == t138)) = false := by simpa using c15))
      (try (have c15b2 : ((t142 == t146) == (t137 == t138)) = false := by simpa using c15))
      (try (have c15b3 : ¬ ((t142 == t146) = (t137 == t138)) := by simpa using c15))
      clear c15
      obtain rfl := Option.some.inj H
      go_enter Try.func5, Try.ntmps5
      go_wp2_with (first | ((with_reducible refine gate_callee (f := 17) rfl ?_); refine goesL_ (some 8) rfl rfl Try.func17 (by kernel_rfl) rfl #[.int .i64 a0, .int .i64 128] rfl (by (try simp only [List.map_toArray, List.map_cons, List.map_nil]); first | done | rfl | (simp only [List.length_drop, List.length_take]; rfl)) ?_; (with_reducible refine (chatelainelaw0_Low.calls a0 128 t137 _ A3.out).mono ?_); rintro e w' ⟨rfl, ⟨nd, rfl⟩⟩; refine ⟨_, rfl, ?_⟩) | ((with_reducible refine gate_callee (f := 17) rfl ?_); refine goesL_ (some 10) rfl rfl Try.func17 (by kernel_rfl) rfl #[.int .i64 a1, .int .i64 128] rfl (by (try simp only [List.map_toArray, List.map_cons, List.map_nil]); first | done | rfl | (simp only [List.length_drop, List.length_take]; rfl)) ?_; (with_reducible refine (chatelainelaw0_Low.calls a1 128 t138 _ A4.out).mono ?_); rintro e w' ⟨rfl, ⟨nd, rfl⟩⟩; refine ⟨_, rfl, ?_⟩) | ((with_reducible refine gate_callee (f := 23) rfl ?_); refine goesL_ (some 12) rfl rfl Try.func23 (by kernel_rfl) rfl #[.int .i64 t137] rfl (by (try simp only [List.map_toArray, List.map_cons, List.map_nil]); first | done | rfl | (simp only [List.length_drop, List.length_take]; rfl)) ?_; (with_reducible refine (ring_Root.calls k t137 t139 _ A5.out).mono ?_); rintro e w' ⟨rfl, ⟨nd, rfl⟩⟩; refine ⟨_, rfl, ?_⟩) | ((with_reducible refine gate_callee (f := 23) rfl ?_); refine goesL_ (some 14) rfl rfl Try.func23 (by kernel_rfl) rfl #[.int .i64 t137] rfl (by (try simp only [List.map_toArray, List.map_cons, List.map_nil]); first | done | rfl | (simp only [List.length_drop, List.length_take]; rfl)) ?_; (with_reducible refine (ring_Root.calls k t137 t140 _ A6.out).mono ?_); rintro e w' ⟨rfl, ⟨nd, rfl⟩⟩; refine ⟨_, rfl, ?_⟩) | ((with_reducible refine gate_callee (f := 22) rfl ?_); refine goesL_ (some 15) rfl rfl Try.func22 (by kernel_rfl) rfl #[.int .i64 t139, .int .i64 t140] rfl (by (try simp only [List.map_toArray, List.map_cons, List.map_nil]); first | done | rfl | (simp only [List.length_drop, List.length_take]; rfl)) ?_; (with_reducible refine (ring_Mul.calls t139 t140 t141 _ A7.out).mono ?_); rintro e w' ⟨rfl, ⟨nd, rfl⟩⟩; refine ⟨_, rfl, ?_⟩) | ((with_reducible refine gate_callee (f := 22) rfl ?_); refine goesL_ (some 16) rfl rfl Try.func22 (by kernel_rfl) rfl #[.int .i64 t141, .int .i64 17] rfl (by (try simp only [List.map_toArray, List.map_cons, List.map_nil]); first | done | rfl | (simp only [List.length_drop, List.length_take]; rfl)) ?_; (with_reducible refine (ring_Mul.calls t141 17 t142 _ A8.out).mono ?_); rintro e w' ⟨rfl, ⟨nd, rfl⟩⟩; refine ⟨_, rfl, ?_⟩) | ((with_reducible refine gate_callee (f := 23) rfl ?_); refine goesL_ (some 18) rfl rfl Try.func23 (by kernel_rfl) rfl #[.int .i64 t138] rfl (by (try simp only [List.map_toArray, List.map_cons, List.map_nil]); first | done | rfl | (simp only [List.length_drop, List.length_take]; rfl)) ?_; (with_reducible refine (ring_Root.calls k t138 t143 _ A9.out).mono ?_); rintro e w' ⟨rfl, ⟨nd, rfl⟩⟩; refine ⟨_, rfl, ?_⟩) | ((with_reducible refine gate_callee (f := 23) rfl ?_); refine goesL_ (some 20) rfl rfl Try.func23 (by kernel_rfl) rfl #[.int .i64 t138] rfl (by (try simp only [List.map_toArray, List.map_cons, List.map_nil]); first | done | rfl | (simp only [List.length_drop, List.length_take]; rfl)) ?_; (with_reducible refine (ring_Root.calls k t138 t144 _ A10.out).mono ?_); rintro e w' ⟨rfl, ⟨nd, rfl⟩⟩; refine ⟨_, rfl, ?_⟩) | ((with_reducible refine gate_callee (f := 22) rfl ?_); refine goesL_ (some 21) rfl rfl Try.func22 (by kernel_rfl) rfl #[.int .i64 t143, .int .i64 t144] rfl (by (try simp only [List.map_toArray, List.map_cons, List.map_nil]); first | done | rfl | (simp only [List.length_drop, List.length_take]; rfl)) ?_; (with_reducible refine (ring_Mul.calls t143 t144 t145 _ A11.out).mono ?_); rintro e w' ⟨rfl, ⟨nd, rfl⟩⟩; refine ⟨_, rfl, ?_⟩) | ((with_reducible refine gate_callee (f := 22) rfl ?_); refine goesL_ (some 22) rfl rfl Try.func22 (by kernel_rfl) rfl #[.int .i64 t145, .int .i64 17] rfl (by (try simp only [List.map_toArray, List.map_cons, List.map_nil]); first | done | rfl | (simp only [List.length_drop, List.length_take]; rfl)) ?_; (with_reducible refine (ring_Mul.calls t145 17 t146 _ A12.out).mono ?_); rintro e w' ⟨rfl, ⟨nd, rfl⟩⟩; refine ⟨_, rfl, ?_⟩) | ((with_reducible refine gate_callee (f := 24) rfl ?_); refine goesL_ (some 24) rfl rfl Try.func24 (by kernel_rfl) rfl #[.int .i64 t142, .int .i64 128] rfl (by (try simp only [List.map_toArray, List.map_cons, List.map_nil]); first | done | rfl | (simp only [List.length_drop, List.length_take]; rfl)) ?_; (with_reducible refine (ring_Pow.calls k t142 128 t147 _ A13.out).mono ?_); rintro e w' ⟨rfl, ⟨nd, rfl⟩⟩; refine ⟨_, rfl, ?_⟩))
      go_ret
      exact ⟨by first | rfl | (simp; done) | (simp [*]; done), by repeat (first | exact Drawn0.refl _ | apply Drawn0.step)⟩
  · rw [if_neg c14] at H
    have c14b0 : (t147 == 3328) = false := beq_eq_false_iff_ne.mpr c14
    have c14b1 : (t147 != 3328) = true := bne_iff_ne.mpr c14
    obtain rfl := Option.some.inj H
    go_enter Try.func5, Try.ntmps5
    go_wp2_with (first | ((with_reducible refine gate_callee (f := 17) rfl ?_); refine goesL_ (some 8) rfl rfl Try.func17 (by kernel_rfl) rfl #[.int .i64 a0, .int .i64 128] rfl (by (try simp only [List.map_toArray, List.map_cons, List.map_nil]); first | done | rfl | (simp only [List.length_drop, List.length_take]; rfl)) ?_; (with_reducible refine (chatelainelaw0_Low.calls a0 128 t137 _ A3.out).mono ?_); rintro e w' ⟨rfl, ⟨nd, rfl⟩⟩; refine ⟨_, rfl, ?_⟩) | ((with_reducible refine gate_callee (f := 17) rfl ?_); refine goesL_ (some 10) rfl rfl Try.func17 (by kernel_rfl) rfl #[.int .i64 a1, .int .i64 128] rfl (by (try simp only [List.map_toArray, List.map_cons, List.map_nil]); first | done | rfl | (simp only [List.length_drop, List.length_take]; rfl)) ?_; (with_reducible refine (chatelainelaw0_Low.calls a1 128 t138 _ A4.out).mono ?_); rintro e w' ⟨rfl, ⟨nd, rfl⟩⟩; refine ⟨_, rfl, ?_⟩) | ((with_reducible refine gate_callee (f := 23) rfl ?_); refine goesL_ (some 12) rfl rfl Try.func23 (by kernel_rfl) rfl #[.int .i64 t137] rfl (by (try simp only [List.map_toArray, List.map_cons, List.map_nil]); first | done | rfl | (simp only [List.length_drop, List.length_take]; rfl)) ?_; (with_reducible refine (ring_Root.calls k t137 t139 _ A5.out).mono ?_); rintro e w' ⟨rfl, ⟨nd, rfl⟩⟩; refine ⟨_, rfl, ?_⟩) | ((with_reducible refine gate_callee (f := 23) rfl ?_); refine goesL_ (some 14) rfl rfl Try.func23 (by kernel_rfl) rfl #[.int .i64 t137] rfl (by (try simp only [List.map_toArray, List.map_cons, List.map_nil]); first | done | rfl | (simp only [List.length_drop, List.length_take]; rfl)) ?_; (with_reducible refine (ring_Root.calls k t137 t140 _ A6.out).mono ?_); rintro e w' ⟨rfl, ⟨nd, rfl⟩⟩; refine ⟨_, rfl, ?_⟩) | ((with_reducible refine gate_callee (f := 22) rfl ?_); refine goesL_ (some 15) rfl rfl Try.func22 (by kernel_rfl) rfl #[.int .i64 t139, .int .i64 t140] rfl (by (try simp only [List.map_toArray, List.map_cons, List.map_nil]); first | done | rfl | (simp only [List.length_drop, List.length_take]; rfl)) ?_; (with_reducible refine (ring_Mul.calls t139 t140 t141 _ A7.out).mono ?_); rintro e w' ⟨rfl, ⟨nd, rfl⟩⟩; refine ⟨_, rfl, ?_⟩) | ((with_reducible refine gate_callee (f := 22) rfl ?_); refine goesL_ (some 16) rfl rfl Try.func22 (by kernel_rfl) rfl #[.int .i64 t141, .int .i64 17] rfl (by (try simp only [List.map_toArray, List.map_cons, List.map_nil]); first | done | rfl | (simp only [List.length_drop, List.length_take]; rfl)) ?_; (with_reducible refine (ring_Mul.calls t141 17 t142 _ A8.out).mono ?_); rintro e w' ⟨rfl, ⟨nd, rfl⟩⟩; refine ⟨_, rfl, ?_⟩) | ((with_reducible refine gate_callee (f := 23) rfl ?_); refine goesL_ (some 18) rfl rfl Try.func23 (by kernel_rfl) rfl #[.int .i64 t138] rfl (by (try simp only [List.map_toArray, List.map_cons, List.map_nil]); first | done | rfl | (simp only [List.length_drop, List.length_take]; rfl)) ?_; (with_reducible refine (ring_Root.calls k t138 t143 _ A9.out).mono ?_); rintro e w' ⟨rfl, ⟨nd, rfl⟩⟩; refine ⟨_, rfl, ?_⟩) | ((with_reducible refine gate_callee (f := 23) rfl ?_); refine goesL_ (some 20) rfl rfl Try.func23 (by kernel_rfl) rfl #[.int .i64 t138] rfl (by (try simp only [List.map_toArray, List.map_cons, List.map_nil]); first | done | rfl | (simp only [List.length_drop, List.length_take]; rfl)) ?_; (with_reducible refine (ring_Root.calls k t138 t144 _ A10.out).mono ?_); rintro e w' ⟨rfl, ⟨nd, rfl⟩⟩; refine ⟨_, rfl, ?_⟩) | ((with_reducible refine gate_callee (f := 22) rfl ?_); refine goesL_ (some 21) rfl rfl Try.func22 (by kernel_rfl) rfl #[.int .i64 t143, .int .i64 t144] rfl (by (try simp only [List.map_toArray, List.map_cons, List.map_nil]); first | done | rfl | (simp only [List.length_drop, List.length_take]; rfl)) ?_; (with_reducible refine (ring_Mul.calls t143 t144 t145 _ A11.out).mono ?_); rintro e w' ⟨rfl, ⟨nd, rfl⟩⟩; refine ⟨_, rfl, ?_⟩) | ((with_reducible refine gate_callee (f := 22) rfl ?_); refine goesL_ (some 22) rfl rfl Try.func22 (by kernel_rfl) rfl #[.int .i64 t145, .int .i64 17] rfl (by (try simp only [List.map_toArray, List.map_cons, List.map_nil]); first | done | rfl | (simp only [List.length_drop, List.length_take]; rfl)) ?_; (with_reducible refine (ring_Mul.calls t145 17 t146 _ A12.out).mono ?_); rintro e w' ⟨rfl, ⟨nd, rfl⟩⟩; refine ⟨_, rfl, ?_⟩) | ((with_reducible refine gate_callee (f := 24) rfl ?_); refine goesL_ (some 24) rfl rfl Try.func24 (by kernel_rfl) rfl #[.int .i64 t142, .int .i64 128] rfl (by (try simp only [List.map_toArray, List.map_cons, List.map_nil]); first | done | rfl | (simp only [List.length_drop, List.length_take]; rfl)) ?_; (with_reducible refine (ring_Pow.calls k t142 128 t147 _ A13.out).mono ?_); rintro e w' ⟨rfl, ⟨nd, rfl⟩⟩; refine ⟨_, rfl, ?_⟩))
    go_ret
    exact ⟨by first | rfl | (simp; done) | (simp [*]; done), by repeat (first | exact Drawn0.refl _ | apply Drawn0.step)⟩

/-- THE ONE PURE STATEMENT of chatelainelaw3_RingRoots: yours. -/
def chatelainelaw3_RingRoots.Pure : Prop := ∀ (a0 : Int) (a1 : Int), (Lit.int .i64 a0).wf = true → (Lit.int .i64 a1).wf = true → ∃ k, chatelainelaw3_RingRoots.f k a0 a1 = some true
theorem chatelainelaw3_RingRoots.walk (P : chatelainelaw3_RingRoots.Pure) (a0 : Int) (a1 : Int) (w : World) (w0 : (Lit.int .i64 a0).wf = true) (w1 : (Lit.int .i64 a1).wf = true) :
    Calls Try.prog 5 #[.int .i64 a0, .int .i64 a1] w fun e w' => e = .returned (.bool true) ∧ Below w.heap.size w w' := by
  obtain ⟨k, h⟩ := P a0 a1 w0 w1
  refine (chatelainelaw3_RingRoots.calls k a0 a1 true w h).mono ?_
  rintro e w' ⟨rfl, hd⟩
  exact ⟨rfl, hd.below⟩

/-! ### chatelainelaw3_RingPowers: function 6 -/
def chatelainelaw3_RingPowers.f (k : Nat) (a0 : Int) (a1 : Int) (a2 : Int) : Option (Bool) := (chatelainelaw0_Low.f a0 3329).bind fun t151 => ((chatelainelaw0_Low.f a1 1000).bind fun t152 => ((chatelainelaw0_Low.f a2 1000).bind fun t153 => ((ring_Pow.f k t151 t152).bind fun t154 => ((ring_Pow.f k t154 t153).bind fun t155 => ((ring_Pow.f k t151 (wrap64 (t152 * t153))).bind fun t156 => (if t155 = t156 then ((ring_Pow.f k t151 t152).bind fun t157 => ((ring_Pow.f k t151 t153).bind fun t158 => ((ring_Mul.f t157 t158).bind fun t159 => ((ring_Pow.f k t151 (wrap64 (t152 + t153))).bind fun t160 => (if t159 = t160 then ((ring_Pow.f k 17 (wrap64 (t152 + 256))).bind fun t161 => ((ring_Pow.f k 17 t152).bind fun t162 => (if t161 = t162 then ((ring_Pow.f k 17 (wrap64 (t152 + 128))).bind fun t163 => ((ring_Sub.f 0 t162).bind fun t164 => (if t163 = t164 then ((chatelainelaw3_awake.f k).bind fun t165 => (some t165)) else (some false)))) else (some false)))) else (some false)))))) else (some false)))))))
theorem chatelainelaw3_RingPowers.mono : ∀ a0 a1 a2 k, LeO (chatelainelaw3_RingPowers.f k a0 a1 a2) (chatelainelaw3_RingPowers.f (k + 1) a0 a1 a2) := by
  intro a0 a1 a2 k
  unfold chatelainelaw3_RingPowers.f
  repeat' first
      | (with_reducible exact chatelainelaw3_awake.mono _)
      | (with_reducible exact ring_Pow.mono _ _ _)
      | (with_reducible exact LeO.refl _)
      | (with_reducible exact LeO.none _)
      | (with_reducible refine LeO.ite ?_ ?_)
      | (with_reducible refine LeO.bind ?_ (fun _ => ?_))
      | exact chatelainelaw3_awake.mono _
      | exact ring_Pow.mono _ _ _
      | exact LeO.none _
      | refine LeO.ite ?_ ?_
      | refine LeO.bind ?_ (fun _ => ?_)
set_option maxHeartbeats 8000000 in
set_option maxRecDepth 100000 in
theorem chatelainelaw3_RingPowers.calls (k : Nat) (a0 : Int) (a1 : Int) (a2 : Int) (r : Bool) (w : World) (h : chatelainelaw3_RingPowers.f k a0 a1 a2 = some r) :
    Calls Try.prog 6 #[.int .i64 a0, .int .i64 a1, .int .i64 a2] w fun e w' => e = .returned (.bool r) ∧ Drawn0 w w' := by
  have H : ((chatelainelaw0_Low.f a0 3329).bind fun t151 => ((chatelainelaw0_Low.f a1 1000).bind fun t152 => ((chatelainelaw0_Low.f a2 1000).bind fun t153 => ((ring_Pow.f k t151 t152).bind fun t154 => ((ring_Pow.f k t154 t153).bind fun t155 => ((ring_Pow.f k t151 (wrap64 (t152 * t153))).bind fun t156 => (if t155 = t156 then ((ring_Pow.f k t151 t152).bind fun t157 => ((ring_Pow.f k t151 t153).bind fun t158 => ((ring_Mul.f t157 t158).bind fun t159 => ((ring_Pow.f k t151 (wrap64 (t152 + t153))).bind fun t160 => (if t159 = t160 then ((ring_Pow.f k 17 (wrap64 (t152 + 256))).bind fun t161 => ((ring_Pow.f k 17 t152).bind fun t162 => (if t161 = t162 then ((ring_Pow.f k 17 (wrap64 (t152 + 128))).bind fun t163 => ((ring_Sub.f 0 t162).bind fun t164 => (if t163 = t164 then ((chatelainelaw3_awake.f k).bind fun t165 => (some t165)) else (some false)))) else (some false)))) else (some false)))))) else (some false)))))))) = some r := h
  clear h
  replace H := Option.bind_eq_some_iff.mp H
  obtain ⟨t151, A40, H⟩ := H
  replace H : ((chatelainelaw0_Low.f a1 1000).bind fun t152 => ((chatelainelaw0_Low.f a2 1000).bind fun t153 => ((ring_Pow.f k t151 t152).bind fun t154 => ((ring_Pow.f k t154 t153).bind fun t155 => ((ring_Pow.f k t151 (wrap64 (t152 * t153))).bind fun t156 => (if t155 = t156 then ((ring_Pow.f k t151 t152).bind fun t157 => ((ring_Pow.f k t151 t153).bind fun t158 => ((ring_Mul.f t157 t158).bind fun t159 => ((ring_Pow.f k t151 (wrap64 (t152 + t153))).bind fun t160 => (if t159 = t160 then ((ring_Pow.f k 17 (wrap64 (t152 + 256))).bind fun t161 => ((ring_Pow.f k 17 t152).bind fun t162 => (if t161 = t162 then ((ring_Pow.f k 17 (wrap64 (t152 + 128))).bind fun t163 => ((ring_Sub.f 0 t162).bind fun t164 => (if t163 = t164 then ((chatelainelaw3_awake.f k).bind fun t165 => (some t165)) else (some false)))) else (some false)))) else (some false)))))) else (some false))))))) = some r := H
  have A4 := Aside0.mk A40
  clear A40
  replace H := Option.bind_eq_some_iff.mp H
  obtain ⟨t152, A50, H⟩ := H
  replace H : ((chatelainelaw0_Low.f a2 1000).bind fun t153 => ((ring_Pow.f k t151 t152).bind fun t154 => ((ring_Pow.f k t154 t153).bind fun t155 => ((ring_Pow.f k t151 (wrap64 (t152 * t153))).bind fun t156 => (if t155 = t156 then ((ring_Pow.f k t151 t152).bind fun t157 => ((ring_Pow.f k t151 t153).bind fun t158 => ((ring_Mul.f t157 t158).bind fun t159 => ((ring_Pow.f k t151 (wrap64 (t152 + t153))).bind fun t160 => (if t159 = t160 then ((ring_Pow.f k 17 (wrap64 (t152 + 256))).bind fun t161 => ((ring_Pow.f k 17 t152).bind fun t162 => (if t161 = t162 then ((ring_Pow.f k 17 (wrap64 (t152 + 128))).bind fun t163 => ((ring_Sub.f 0 t162).bind fun t164 => (if t163 = t164 then ((chatelainelaw3_awake.f k).bind fun t165 => (some t165)) else (some false)))) else (some false)))) else (some false)))))) else (some false)))))) = some r := H
  have A5 := Aside0.mk A50
  clear A50
  replace H := Option.bind_eq_some_iff.mp H
  obtain ⟨t153, A60, H⟩ := H
  replace H : ((ring_Pow.f k t151 t152).bind fun t154 => ((ring_Pow.f k t154 t153).bind fun t155 => ((ring_Pow.f k t151 (wrap64 (t152 * t153))).bind fun t156 => (if t155 = t156 then ((ring_Pow.f k t151 t152).bind fun t157 => ((ring_Pow.f k t151 t153).bind fun t158 => ((ring_Mul.f t157 t158).bind fun t159 => ((ring_Pow.f k t151 (wrap64 (t152 + t153))).bind fun t160 => (if t159 = t160 then ((ring_Pow.f k 17 (wrap64 (t152 + 256))).bind fun t161 => ((ring_Pow.f k 17 t152).bind fun t162 => (if t161 = t162 then ((ring_Pow.f k 17 (wrap64 (t152 + 128))).bind fun t163 => ((ring_Sub.f 0 t162).bind fun t164 => (if t163 = t164 then ((chatelainelaw3_awake.f k).bind fun t165 => (some t165)) else (some false)))) else (some false)))) else (some false)))))) else (some false))))) = some r := H
  have A6 := Aside0.mk A60
  clear A60
  replace H := Option.bind_eq_some_iff.mp H
  obtain ⟨t154, A70, H⟩ := H
  replace H : ((ring_Pow.f k t154 t153).bind fun t155 => ((ring_Pow.f k t151 (wrap64 (t152 * t153))).bind fun t156 => (if t155 = t156 then ((ring_Pow.f k t151 t152).bind fun t157 => ((ring_Pow.f k t151 t153).bind fun t158 => ((ring_Mul.f t157 t158).bind fun t159 => ((ring_Pow.f k t151 (wrap64 (t152 + t153))).bind fun t160 => (if t159 = t160 then ((ring_Pow.f k 17 (wrap64 (t152 + 256))).bind fun t161 => ((ring_Pow.f k 17 t152).bind fun t162 => (if t161 = t162 then ((ring_Pow.f k 17 (wrap64 (t152 + 128))).bind fun t163 => ((ring_Sub.f 0 t162).bind fun t164 => (if t163 = t164 then ((chatelainelaw3_awake.f k).bind fun t165 => (some t165)) else (some false)))) else (some false)))) else (some false)))))) else (some false)))) = some r := H
  have A7 := Aside0.mk A70
  clear A70
  replace H := Option.bind_eq_some_iff.mp H
  obtain ⟨t155, A80, H⟩ := H
  replace H : ((ring_Pow.f k t151 (wrap64 (t152 * t153))).bind fun t156 => (if t155 = t156 then ((ring_Pow.f k t151 t152).bind fun t157 => ((ring_Pow.f k t151 t153).bind fun t158 => ((ring_Mul.f t157 t158).bind fun t159 => ((ring_Pow.f k t151 (wrap64 (t152 + t153))).bind fun t160 => (if t159 = t160 then ((ring_Pow.f k 17 (wrap64 (t152 + 256))).bind fun t161 => ((ring_Pow.f k 17 t152).bind fun t162 => (if t161 = t162 then ((ring_Pow.f k 17 (wrap64 (t152 + 128))).bind fun t163 => ((ring_Sub.f 0 t162).bind fun t164 => (if t163 = t164 then ((chatelainelaw3_awake.f k).bind fun t165 => (some t165)) else (some false)))) else (some false)))) else (some false)))))) else (some false))) = some r := H
  have A8 := Aside0.mk A80
  clear A80
  replace H := Option.bind_eq_some_iff.mp H
  obtain ⟨t156, A90, H⟩ := H
  replace H : (if t155 = t156 then ((ring_Pow.f k t151 t152).bind fun t157 => ((ring_Pow.f k t151 t153).bind fun t158 => ((ring_Mul.f t157 t158).bind fun t159 => ((ring_Pow.f k t151 (wrap64 (t152 + t153))).bind fun t160 => (if t159 = t160 then ((ring_Pow.f k 17 (wrap64 (t152 + 256))).bind fun t161 => ((ring_Pow.f k 17 t152).bind fun t162 => (if t161 = t162 then ((ring_Pow.f k 17 (wrap64 (t152 + 128))).bind fun t163 => ((ring_Sub.f 0 t162).bind fun t164 => (if t163 = t164 then ((chatelainelaw3_awake.f k).bind fun t165 => (some t165)) else (some false)))) else (some false)))) else (some false)))))) else (some false)) = some r := H
  have A9 := Aside0.mk A90
  clear A90
  by_cases c10 : t155 = t156
  · rw [if_pos c10] at H
    have c10b0 : (t155 == t156) = true := beq_iff_eq.mpr c10
    have c10b1 : (t155 != t156) = false := bne_eq_false_iff_eq.mpr c10
    clear c10
    replace H := Option.bind_eq_some_iff.mp H
    obtain ⟨t157, A110, H⟩ := H
    replace H : ((ring_Pow.f k t151 t153).bind fun t158 => ((ring_Mul.f t157 t158).bind fun t159 => ((ring_Pow.f k t151 (wrap64 (t152 + t153))).bind fun t160 => (if t159 = t160 then ((ring_Pow.f k 17 (wrap64 (t152 + 256))).bind fun t161 => ((ring_Pow.f k 17 t152).bind fun t162 => (if t161 = t162 then ((ring_Pow.f k 17 (wrap64 (t152 + 128))).bind fun t163 => ((ring_Sub.f 0 t162).bind fun t164 => (if t163 = t164 then ((chatelainelaw3_awake.f k).bind fun t165 => (some t165)) else (some false)))) else (some false)))) else (some false))))) = some r := H
    have A11 := Aside0.mk A110
    clear A110
    replace H := Option.bind_eq_some_iff.mp H
    obtain ⟨t158, A120, H⟩ := H
    replace H : ((ring_Mul.f t157 t158).bind fun t159 => ((ring_Pow.f k t151 (wrap64 (t152 + t153))).bind fun t160 => (if t159 = t160 then ((ring_Pow.f k 17 (wrap64 (t152 + 256))).bind fun t161 => ((ring_Pow.f k 17 t152).bind fun t162 => (if t161 = t162 then ((ring_Pow.f k 17 (wrap64 (t152 + 128))).bind fun t163 => ((ring_Sub.f 0 t162).bind fun t164 => (if t163 = t164 then ((chatelainelaw3_awake.f k).bind fun t165 => (some t165)) else (some false)))) else (some false)))) else (some false)))) = some r := H
    have A12 := Aside0.mk A120
    clear A120
    replace H := Option.bind_eq_some_iff.mp H
    obtain ⟨t159, A130, H⟩ := H
    replace H : ((ring_Pow.f k t151 (wrap64 (t152 + t153))).bind fun t160 => (if t159 = t160 then ((ring_Pow.f k 17 (wrap64 (t152 + 256))).bind fun t161 => ((ring_Pow.f k 17 t152).bind fun t162 => (if t161 = t162 then ((ring_Pow.f k 17 (wrap64 (t152 + 128))).bind fun t163 => ((ring_Sub.f 0 t162).bind fun t164 => (if t163 = t164 then ((chatelainelaw3_awake.f k).bind fun t165 => (some t165)) else (some false)))) else (some false)))) else (some false))) = some r := H
    have A13 := Aside0.mk A130
    clear A130
    replace H := Option.bind_eq_some_iff.mp H
    obtain ⟨t160, A140, H⟩ := H
    replace H : (if t159 = t160 then ((ring_Pow.f k 17 (wrap64 (t152 + 256))).bind fun t161 => ((ring_Pow.f k 17 t152).bind fun t162 => (if t161 = t162 then ((ring_Pow.f k 17 (wrap64 (t152 + 128))).bind fun t163 => ((ring_Sub.f 0 t162).bind fun t164 => (if t163 = t164 then ((chatelainelaw3_awake.f k).bind fun t165 => (some t165)) else (some false)))) else (some false)))) else (some false)) = some r := H
    have A14 := Aside0.mk A140
    clear A140
    by_cases c15 : t159 = t160
    · rw [if_pos c15] at H
      have c15b0 : (t159 == t160) = true := beq_iff_eq.mpr c15
      have c15b1 : (t159 != t160) = false := bne_eq_false_iff_eq.mpr c15
      clear c15
      replace H := Option.bind_eq_some_iff.mp H
      obtain ⟨t161, A160, H⟩ := H
      replace H : ((ring_Pow.f k 17 t152).bind fun t162 => (if t161 = t162 then ((ring_Pow.f k 17 (wrap64 (t152 + 128))).bind fun t163 => ((ring_Sub.f 0 t162).bind fun t164 => (if t163 = t164 then ((chatelainelaw3_awake.f k).bind fun t165 => (some t165)) else (some false)))) else (some false))) = some r := H
      have A16 := Aside0.mk A160
      clear A160
      replace H := Option.bind_eq_some_iff.mp H
      obtain ⟨t162, A170, H⟩ := H
      replace H : (if t161 = t162 then ((ring_Pow.f k 17 (wrap64 (t152 + 128))).bind fun t163 => ((ring_Sub.f 0 t162).bind fun t164 => (if t163 = t164 then ((chatelainelaw3_awake.f k).bind fun t165 => (some t165)) else (some false)))) else (some false)) = some r := H
      have A17 := Aside0.mk A170
      clear A170
      by_cases c18 : t161 = t162
      · rw [if_pos c18] at H
        have c18b0 : (t161 == t162) = true := beq_iff_eq.mpr c18
        have c18b1 : (t161 != t162) = false := bne_eq_false_iff_eq.mpr c18
        clear c18
        replace H := Option.bind_eq_some_iff.mp H
        obtain ⟨t163, A190, H⟩ := H
        replace H : ((ring_Sub.f 0 t162).bind fun t164 => (if t163 = t164 then ((chatelainelaw3_awake.f k).bind fun t165 => (some t165)) else (some false))) = some r := H
        have A19 := Aside0.mk A190
        clear A190
        replace H := Option.bind_eq_some_iff.mp H
        obtain ⟨t164, A200, H⟩ := H
        replace H : (if t163 = t164 then ((chatelainelaw3_awake.f k).bind fun t165 => (some t165)) else (some false)) = some r := H
        have A20 := Aside0.mk A200
        clear A200
        by_cases c21 : t163 = t164
        · rw [if_pos c21] at H
          have c21b0 : (t163 == t164) = true := beq_iff_eq.mpr c21
          have c21b1 : (t163 != t164) = false := bne_eq_false_iff_eq.mpr c21
          clear c21
          replace H := Option.bind_eq_some_iff.mp H
          obtain ⟨t165, A220, H⟩ := H
          replace H : (some t165) = some r := H
          have A22 := Aside0.mk A220
          clear A220
          obtain rfl := Option.some.inj H
          go_enter Try.func6, Try.ntmps6
          go_wp2_with (first | ((with_reducible refine gate_callee (f := 17) rfl ?_); refine goesL_ (some 8) rfl rfl Try.func17 (by kernel_rfl) rfl #[.int .i64 a0, .int .i64 3329] rfl (by (try simp only [List.map_toArray, List.map_cons, List.map_nil]); first | done | rfl | (simp only [List.length_drop, List.length_take]; rfl)) ?_; (with_reducible refine (chatelainelaw0_Low.calls a0 3329 t151 _ A4.out).mono ?_); rintro e w' ⟨rfl, ⟨nd, rfl⟩⟩; refine ⟨_, rfl, ?_⟩) | ((with_reducible refine gate_callee (f := 17) rfl ?_); refine goesL_ (some 10) rfl rfl Try.func17 (by kernel_rfl) rfl #[.int .i64 a1, .int .i64 1000] rfl (by (try simp only [List.map_toArray, List.map_cons, List.map_nil]); first | done | rfl | (simp only [List.length_drop, List.length_take]; rfl)) ?_; (with_reducible refine (chatelainelaw0_Low.calls a1 1000 t152 _ A5.out).mono ?_); rintro e w' ⟨rfl, ⟨nd, rfl⟩⟩; refine ⟨_, rfl, ?_⟩) | ((with_reducible refine gate_callee (f := 17) rfl ?_); refine goesL_ (some 12) rfl rfl Try.func17 (by kernel_rfl) rfl #[.int .i64 a2, .int .i64 1000] rfl (by (try simp only [List.map_toArray, List.map_cons, List.map_nil]); first | done | rfl | (simp only [List.length_drop, List.length_take]; rfl)) ?_; (with_reducible refine (chatelainelaw0_Low.calls a2 1000 t153 _ A6.out).mono ?_); rintro e w' ⟨rfl, ⟨nd, rfl⟩⟩; refine ⟨_, rfl, ?_⟩) | ((with_reducible refine gate_callee (f := 24) rfl ?_); refine goesL_ (some 15) rfl rfl Try.func24 (by kernel_rfl) rfl #[.int .i64 t151, .int .i64 t152] rfl (by (try simp only [List.map_toArray, List.map_cons, List.map_nil]); first | done | rfl | (simp only [List.length_drop, List.length_take]; rfl)) ?_; (with_reducible refine (ring_Pow.calls k t151 t152 t154 _ A7.out).mono ?_); rintro e w' ⟨rfl, ⟨nd, rfl⟩⟩; refine ⟨_, rfl, ?_⟩) | ((with_reducible refine gate_callee (f := 24) rfl ?_); refine goesL_ (some 17) rfl rfl Try.func24 (by kernel_rfl) rfl #[.int .i64 t154, .int .i64 t153] rfl (by (try simp only [List.map_toArray, List.map_cons, List.map_nil]); first | done | rfl | (simp only [List.length_drop, List.length_take]; rfl)) ?_; (with_reducible refine (ring_Pow.calls k t154 t153 t155 _ A8.out).mono ?_); rintro e w' ⟨rfl, ⟨nd, rfl⟩⟩; refine ⟨_, rfl, ?_⟩) | ((with_reducible refine gate_callee (f := 24) rfl ?_); refine goesL_ (some 22) rfl rfl Try.func24 (by kernel_rfl) rfl #[.int .i64 t151, .int .i64 (wrap64 (t152 * t153))] rfl (by (try simp only [List.map_toArray, List.map_cons, List.map_nil]); first | done | rfl | (simp only [List.length_drop, List.length_take]; rfl)) ?_; (with_reducible refine (ring_Pow.calls k t151 (wrap64 (t152 * t153)) t156 _ A9.out).mono ?_); rintro e w' ⟨rfl, ⟨nd, rfl⟩⟩; refine ⟨_, rfl, ?_⟩) | (go_at_call 24; (with_reducible refine (ring_Pow.calls k t151 t152 t157 _ A11.out).mono ?_); rintro e w' ⟨rfl, ⟨nd, rfl⟩⟩) | (go_at_call 24; (with_reducible refine (ring_Pow.calls k t151 t153 t158 _ A12.out).mono ?_); rintro e w' ⟨rfl, ⟨nd, rfl⟩⟩) | (go_at_call 22; (with_reducible refine (ring_Mul.calls t157 t158 t159 _ A13.out).mono ?_); rintro e w' ⟨rfl, ⟨nd, rfl⟩⟩) | (go_at_call 24; (with_reducible refine (ring_Pow.calls k t151 (wrap64 (t152 + t153)) t160 _ A14.out).mono ?_); rintro e w' ⟨rfl, ⟨nd, rfl⟩⟩) | (go_at_call 24; (with_reducible refine (ring_Pow.calls k 17 (wrap64 (t152 + 256)) t161 _ A16.out).mono ?_); rintro e w' ⟨rfl, ⟨nd, rfl⟩⟩) | (go_at_call 24; (with_reducible refine (ring_Pow.calls k 17 t152 t162 _ A17.out).mono ?_); rintro e w' ⟨rfl, ⟨nd, rfl⟩⟩) | (go_at_call 24; (with_reducible refine (ring_Pow.calls k 17 (wrap64 (t152 + 128)) t163 _ A19.out).mono ?_); rintro e w' ⟨rfl, ⟨nd, rfl⟩⟩) | (go_at_call 21; (with_reducible refine (ring_Sub.calls 0 t162 t164 _ A20.out).mono ?_); rintro e w' ⟨rfl, ⟨nd, rfl⟩⟩) | (go_at_call 20; (with_reducible refine (chatelainelaw3_awake.calls k  t165 _ A22.out).mono ?_); rintro e w' ⟨rfl, ⟨nd, rfl⟩⟩))
          go_ret
          exact ⟨by first | rfl | (simp; done) | (simp [*]; done), by repeat (first | exact Drawn0.refl _ | apply Drawn0.step)⟩
        · rw [if_neg c21] at H
          have c21b0 : (t163 == t164) = false := beq_eq_false_iff_ne.mpr c21
          have c21b1 : (t163 != t164) = true := bne_iff_ne.mpr c21
          obtain rfl := Option.some.inj H
          go_enter Try.func6, Try.ntmps6
          go_wp2_with (first | ((with_reducible refine gate_callee (f := 17) rfl ?_); refine goesL_ (some 8) rfl rfl Try.func17 (by kernel_rfl) rfl #[.int .i64 a0, .int .i64 3329] rfl (by (try simp only [List.map_toArray, List.map_cons, List.map_nil]); first | done | rfl | (simp only [List.length_drop, List.length_take]; rfl)) ?_; (with_reducible refine (chatelainelaw0_Low.calls a0 3329 t151 _ A4.out).mono ?_); rintro e w' ⟨rfl, ⟨nd, rfl⟩⟩; refine ⟨_, rfl, ?_⟩) | ((with_reducible refine gate_callee (f := 17) rfl ?_); refine goesL_ (some 10) rfl rfl Try.func17 (by kernel_rfl) rfl #[.int .i64 a1, .int .i64 1000] rfl (by (try simp only [List.map_toArray, List.map_cons, List.map_nil]); first | done | rfl | (simp only [List.length_drop, List.length_take]; rfl)) ?_; (with_reducible refine (chatelainelaw0_Low.calls a1 1000 t152 _ A5.out).mono ?_); rintro e w' ⟨rfl, ⟨nd, rfl⟩⟩; refine ⟨_, rfl, ?_⟩) | ((with_reducible refine gate_callee (f := 17) rfl ?_); refine goesL_ (some 12) rfl rfl Try.func17 (by kernel_rfl) rfl #[.int .i64 a2, .int .i64 1000] rfl (by (try simp only [List.map_toArray, List.map_cons, List.map_nil]); first | done | rfl | (simp only [List.length_drop, List.length_take]; rfl)) ?_; (with_reducible refine (chatelainelaw0_Low.calls a2 1000 t153 _ A6.out).mono ?_); rintro e w' ⟨rfl, ⟨nd, rfl⟩⟩; refine ⟨_, rfl, ?_⟩) | ((with_reducible refine gate_callee (f := 24) rfl ?_); refine goesL_ (some 15) rfl rfl Try.func24 (by kernel_rfl) rfl #[.int .i64 t151, .int .i64 t152] rfl (by (try simp only [List.map_toArray, List.map_cons, List.map_nil]); first | done | rfl | (simp only [List.length_drop, List.length_take]; rfl)) ?_; (with_reducible refine (ring_Pow.calls k t151 t152 t154 _ A7.out).mono ?_); rintro e w' ⟨rfl, ⟨nd, rfl⟩⟩; refine ⟨_, rfl, ?_⟩) | ((with_reducible refine gate_callee (f := 24) rfl ?_); refine goesL_ (some 17) rfl rfl Try.func24 (by kernel_rfl) rfl #[.int .i64 t154, .int .i64 t153] rfl (by (try simp only [List.map_toArray, List.map_cons, List.map_nil]); first | done | rfl | (simp only [List.length_drop, List.length_take]; rfl)) ?_; (with_reducible refine (ring_Pow.calls k t154 t153 t155 _ A8.out).mono ?_); rintro e w' ⟨rfl, ⟨nd, rfl⟩⟩; refine ⟨_, rfl, ?_⟩) | ((with_reducible refine gate_callee (f := 24) rfl ?_); refine goesL_ (some 22) rfl rfl Try.func24 (by kernel_rfl) rfl #[.int .i64 t151, .int .i64 (wrap64 (t152 * t153))] rfl (by (try simp only [List.map_toArray, List.map_cons, List.map_nil]); first | done | rfl | (simp only [List.length_drop, List.length_take]; rfl)) ?_; (with_reducible refine (ring_Pow.calls k t151 (wrap64 (t152 * t153)) t156 _ A9.out).mono ?_); rintro e w' ⟨rfl, ⟨nd, rfl⟩⟩; refine ⟨_, rfl, ?_⟩) | (go_at_call 24; (with_reducible refine (ring_Pow.calls k t151 t152 t157 _ A11.out).mono ?_); rintro e w' ⟨rfl, ⟨nd, rfl⟩⟩) | (go_at_call 24; (with_reducible refine (ring_Pow.calls k t151 t153 t158 _ A12.out).mono ?_); rintro e w' ⟨rfl, ⟨nd, rfl⟩⟩) | (go_at_call 22; (with_reducible refine (ring_Mul.calls t157 t158 t159 _ A13.out).mono ?_); rintro e w' ⟨rfl, ⟨nd, rfl⟩⟩) | (go_at_call 24; (with_reducible refine (ring_Pow.calls k t151 (wrap64 (t152 + t153)) t160 _ A14.out).mono ?_); rintro e w' ⟨rfl, ⟨nd, rfl⟩⟩) | (go_at_call 24; (with_reducible refine (ring_Pow.calls k 17 (wrap64 (t152 + 256)) t161 _ A16.out).mono ?_); rintro e w' ⟨rfl, ⟨nd, rfl⟩⟩) | (go_at_call 24; (with_reducible refine (ring_Pow.calls k 17 t152 t162 _ A17.out).mono ?_); rintro e w' ⟨rfl, ⟨nd, rfl⟩⟩) | (go_at_call 24; (with_reducible refine (ring_Pow.calls k 17 (wrap64 (t152 + 128)) t163 _ A19.out).mono ?_); rintro e w' ⟨rfl, ⟨nd, rfl⟩⟩) | (go_at_call 21; (with_reducible refine (ring_Sub.calls 0 t162 t164 _ A20.out).mono ?_); rintro e w' ⟨rfl, ⟨nd, rfl⟩⟩))
          go_ret
          exact ⟨by first | rfl | (simp; done) | (simp [*]; done), by repeat (first | exact Drawn0.refl _ | apply Drawn0.step)⟩
      · rw [if_neg c18] at H
        have c18b0 : (t161 == t162) = false := beq_eq_false_iff_ne.mpr c18
        have c18b1 : (t161 != t162) = true := bne_iff_ne.mpr c18
        obtain rfl := Option.some.inj H
        go_enter Try.func6, Try.ntmps6
        go_wp2_with (first | ((with_reducible refine gate_callee (f := 17) rfl ?_); refine goesL_ (some 8) rfl rfl Try.func17 (by kernel_rfl) rfl #[.int .i64 a0, .int .i64 3329] rfl (by (try simp only [List.map_toArray, List.map_cons, List.map_nil]); first | done | rfl | (simp only [List.length_drop, List.length_take]; rfl)) ?_; (with_reducible refine (chatelainelaw0_Low.calls a0 3329 t151 _ A4.out).mono ?_); rintro e w' ⟨rfl, ⟨nd, rfl⟩⟩; refine ⟨_, rfl, ?_⟩) | ((with_reducible refine gate_callee (f := 17) rfl ?_); refine goesL_ (some 10) rfl rfl Try.func17 (by kernel_rfl) rfl #[.int .i64 a1, .int .i64 1000] rfl (by (try simp only [List.map_toArray, List.map_cons, List.map_nil]); first | done | rfl | (simp only [List.length_drop, List.length_take]; rfl)) ?_; (with_reducible refine (chatelainelaw0_Low.calls a1 1000 t152 _ A5.out).mono ?_); rintro e w' ⟨rfl, ⟨nd, rfl⟩⟩; refine ⟨_, rfl, ?_⟩) | ((with_reducible refine gate_callee (f := 17) rfl ?_); refine goesL_ (some 12) rfl rfl Try.func17 (by kernel_rfl) rfl #[.int .i64 a2, .int .i64 1000] rfl (by (try simp only [List.map_toArray, List.map_cons, List.map_nil]); first | done | rfl | (simp only [List.length_drop, List.length_take]; rfl)) ?_; (with_reducible refine (chatelainelaw0_Low.calls a2 1000 t153 _ A6.out).mono ?_); rintro e w' ⟨rfl, ⟨nd, rfl⟩⟩; refine ⟨_, rfl, ?_⟩) | ((with_reducible refine gate_callee (f := 24) rfl ?_); refine goesL_ (some 15) rfl rfl Try.func24 (by kernel_rfl) rfl #[.int .i64 t151, .int .i64 t152] rfl (by (try simp only [List.map_toArray, List.map_cons, List.map_nil]); first | done | rfl | (simp only [List.length_drop, List.length_take]; rfl)) ?_; (with_reducible refine (ring_Pow.calls k t151 t152 t154 _ A7.out).mono ?_); rintro e w' ⟨rfl, ⟨nd, rfl⟩⟩; refine ⟨_, rfl, ?_⟩) | ((with_reducible refine gate_callee (f := 24) rfl ?_); refine goesL_ (some 17) rfl rfl Try.func24 (by kernel_rfl) rfl #[.int .i64 t154, .int .i64 t153] rfl (by (try simp only [List.map_toArray, List.map_cons, List.map_nil]); first | done | rfl | (simp only [List.length_drop, List.length_take]; rfl)) ?_; (with_reducible refine (ring_Pow.calls k t154 t153 t155 _ A8.out).mono ?_); rintro e w' ⟨rfl, ⟨nd, rfl⟩⟩; refine ⟨_, rfl, ?_⟩) | ((with_reducible refine gate_callee (f := 24) rfl ?_); refine goesL_ (some 22) rfl rfl Try.func24 (by kernel_rfl) rfl #[.int .i64 t151, .int .i64 (wrap64 (t152 * t153))] rfl (by (try simp only [List.map_toArray, List.map_cons, List.map_nil]); first | done | rfl | (simp only [List.length_drop, List.length_take]; rfl)) ?_; (with_reducible refine (ring_Pow.calls k t151 (wrap64 (t152 * t153)) t156 _ A9.out).mono ?_); rintro e w' ⟨rfl, ⟨nd, rfl⟩⟩; refine ⟨_, rfl, ?_⟩) | (go_at_call 24; (with_reducible refine (ring_Pow.calls k t151 t152 t157 _ A11.out).mono ?_); rintro e w' ⟨rfl, ⟨nd, rfl⟩⟩) | (go_at_call 24; (with_reducible refine (ring_Pow.calls k t151 t153 t158 _ A12.out).mono ?_); rintro e w' ⟨rfl, ⟨nd, rfl⟩⟩) | (go_at_call 22; (with_reducible refine (ring_Mul.calls t157 t158 t159 _ A13.out).mono ?_); rintro e w' ⟨rfl, ⟨nd, rfl⟩⟩) | (go_at_call 24; (with_reducible refine (ring_Pow.calls k t151 (wrap64 (t152 + t153)) t160 _ A14.out).mono ?_); rintro e w' ⟨rfl, ⟨nd, rfl⟩⟩) | (go_at_call 24; (with_reducible refine (ring_Pow.calls k 17 (wrap64 (t152 + 256)) t161 _ A16.out).mono ?_); rintro e w' ⟨rfl, ⟨nd, rfl⟩⟩) | (go_at_call 24; (with_reducible refine (ring_Pow.calls k 17 t152 t162 _ A17.out).mono ?_); rintro e w' ⟨rfl, ⟨nd, rfl⟩⟩))
        go_ret
        exact ⟨by first | rfl | (simp; done) | (simp [*]; done), by repeat (first | exact Drawn0.refl _ | apply Drawn0.step)⟩
    · rw [if_neg c15] at H
      have c15b0 : (t159 == t160) = false := beq_eq_false_iff_ne.mpr c15
      have c15b1 : (t159 != t160) = true := bne_iff_ne.mpr c15
      obtain rfl := Option.some.inj H
      go_enter Try.func6, Try.ntmps6
      go_wp2_with (first | ((with_reducible refine gate_callee (f := 17) rfl ?_); refine goesL_ (some 8) rfl rfl Try.func17 (by kernel_rfl) rfl #[.int .i64 a0, .int .i64 3329] rfl (by (try simp only [List.map_toArray, List.map_cons, List.map_nil]); first | done | rfl | (simp only [List.length_drop, List.length_take]; rfl)) ?_; (with_reducible refine (chatelainelaw0_Low.calls a0 3329 t151 _ A4.out).mono ?_); rintro e w' ⟨rfl, ⟨nd, rfl⟩⟩; refine ⟨_, rfl, ?_⟩) | ((with_reducible refine gate_callee (f := 17) rfl ?_); refine goesL_ (some 10) rfl rfl Try.func17 (by kernel_rfl) rfl #[.int .i64 a1, .int .i64 1000] rfl (by (try simp only [List.map_toArray, List.map_cons, List.map_nil]); first | done | rfl | (simp only [List.length_drop, List.length_take]; rfl)) ?_; (with_reducible refine (chatelainelaw0_Low.calls a1 1000 t152 _ A5.out).mono ?_); rintro e w' ⟨rfl, ⟨nd, rfl⟩⟩; refine ⟨_, rfl, ?_⟩) | ((with_reducible refine gate_callee (f := 17) rfl ?_); refine goesL_ (some 12) rfl rfl Try.func17 (by kernel_rfl) rfl #[.int .i64 a2, .int .i64 1000] rfl (by (try simp only [List.map_toArray, List.map_cons, List.map_nil]); first | done | rfl | (simp only [List.length_drop, List.length_take]; rfl)) ?_; (with_reducible refine (chatelainelaw0_Low.calls a2 1000 t153 _ A6.out).mono ?_); rintro e w' ⟨rfl, ⟨nd, rfl⟩⟩; refine ⟨_, rfl, ?_⟩) | ((with_reducible refine gate_callee (f := 24) rfl ?_); refine goesL_ (some 15) rfl rfl Try.func24 (by kernel_rfl) rfl #[.int .i64 t151, .int .i64 t152] rfl (by (try simp only [List.map_toArray, List.map_cons, List.map_nil]); first | done | rfl | (simp only [List.length_drop, List.length_take]; rfl)) ?_; (with_reducible refine (ring_Pow.calls k t151 t152 t154 _ A7.out).mono ?_); rintro e w' ⟨rfl, ⟨nd, rfl⟩⟩; refine ⟨_, rfl, ?_⟩) | ((with_reducible refine gate_callee (f := 24) rfl ?_); refine goesL_ (some 17) rfl rfl Try.func24 (by kernel_rfl) rfl #[.int .i64 t154, .int .i64 t153] rfl (by (try simp only [List.map_toArray, List.map_cons, List.map_nil]); first | done | rfl | (simp only [List.length_drop, List.length_take]; rfl)) ?_; (with_reducible refine (ring_Pow.calls k t154 t153 t155 _ A8.out).mono ?_); rintro e w' ⟨rfl, ⟨nd, rfl⟩⟩; refine ⟨_, rfl, ?_⟩) | ((with_reducible refine gate_callee (f := 24) rfl ?_); refine goesL_ (some 22) rfl rfl Try.func24 (by kernel_rfl) rfl #[.int .i64 t151, .int .i64 (wrap64 (t152 * t153))] rfl (by (try simp only [List.map_toArray, List.map_cons, List.map_nil]); first | done | rfl | (simp only [List.length_drop, List.length_take]; rfl)) ?_; (with_reducible refine (ring_Pow.calls k t151 (wrap64 (t152 * t153)) t156 _ A9.out).mono ?_); rintro e w' ⟨rfl, ⟨nd, rfl⟩⟩; refine ⟨_, rfl, ?_⟩) | (go_at_call 24; (with_reducible refine (ring_Pow.calls k t151 t152 t157 _ A11.out).mono ?_); rintro e w' ⟨rfl, ⟨nd, rfl⟩⟩) | (go_at_call 24; (with_reducible refine (ring_Pow.calls k t151 t153 t158 _ A12.out).mono ?_); rintro e w' ⟨rfl, ⟨nd, rfl⟩⟩) | (go_at_call 22; (with_reducible refine (ring_Mul.calls t157 t158 t159 _ A13.out).mono ?_); rintro e w' ⟨rfl, ⟨nd, rfl⟩⟩) | (go_at_call 24; (with_reducible refine (ring_Pow.calls k t151 (wrap64 (t152 + t153)) t160 _ A14.out).mono ?_); rintro e w' ⟨rfl, ⟨nd, rfl⟩⟩))
      go_ret
      exact ⟨by first | rfl | (simp; done) | (simp [*]; done), by repeat (first | exact Drawn0.refl _ | apply Drawn0.step)⟩
  · rw [if_neg c10] at H
    have c10b0 : (t155 == t156) = false := beq_eq_false_iff_ne.mpr c10
    have c10b1 : (t155 != t156) = true := bne_iff_ne.mpr c10
    obtain rfl := Option.some.inj H
    go_enter Try.func6, Try.ntmps6
    go_wp2_with (first | ((with_reducible refine gate_callee (f := 17) rfl ?_); refine goesL_ (some 8) rfl rfl Try.func17 (by kernel_rfl) rfl #[.int .i64 a0, .int .i64 3329] rfl (by (try simp only [List.map_toArray, List.map_cons, List.map_nil]); first | done | rfl | (simp only [List.length_drop, List.length_take]; rfl)) ?_; (with_reducible refine (chatelainelaw0_Low.calls a0 3329 t151 _ A4.out).mono ?_); rintro e w' ⟨rfl, ⟨nd, rfl⟩⟩; refine ⟨_, rfl, ?_⟩) | ((with_reducible refine gate_callee (f := 17) rfl ?_); refine goesL_ (some 10) rfl rfl Try.func17 (by kernel_rfl) rfl #[.int .i64 a1, .int .i64 1000] rfl (by (try simp only [List.map_toArray, List.map_cons, List.map_nil]); first | done | rfl | (simp only [List.length_drop, List.length_take]; rfl)) ?_; (with_reducible refine (chatelainelaw0_Low.calls a1 1000 t152 _ A5.out).mono ?_); rintro e w' ⟨rfl, ⟨nd, rfl⟩⟩; refine ⟨_, rfl, ?_⟩) | ((with_reducible refine gate_callee (f := 17) rfl ?_); refine goesL_ (some 12) rfl rfl Try.func17 (by kernel_rfl) rfl #[.int .i64 a2, .int .i64 1000] rfl (by (try simp only [List.map_toArray, List.map_cons, List.map_nil]); first | done | rfl | (simp only [List.length_drop, List.length_take]; rfl)) ?_; (with_reducible refine (chatelainelaw0_Low.calls a2 1000 t153 _ A6.out).mono ?_); rintro e w' ⟨rfl, ⟨nd, rfl⟩⟩; refine ⟨_, rfl, ?_⟩) | ((with_reducible refine gate_callee (f := 24) rfl ?_); refine goesL_ (some 15) rfl rfl Try.func24 (by kernel_rfl) rfl #[.int .i64 t151, .int .i64 t152] rfl (by (try simp only [List.map_toArray, List.map_cons, List.map_nil]); first | done | rfl | (simp only [List.length_drop, List.length_take]; rfl)) ?_; (with_reducible refine (ring_Pow.calls k t151 t152 t154 _ A7.out).mono ?_); rintro e w' ⟨rfl, ⟨nd, rfl⟩⟩; refine ⟨_, rfl, ?_⟩) | ((with_reducible refine gate_callee (f := 24) rfl ?_); refine goesL_ (some 17) rfl rfl Try.func24 (by kernel_rfl) rfl #[.int .i64 t154, .int .i64 t153] rfl (by (try simp only [List.map_toArray, List.map_cons, List.map_nil]); first | done | rfl | (simp only [List.length_drop, List.length_take]; rfl)) ?_; (with_reducible refine (ring_Pow.calls k t154 t153 t155 _ A8.out).mono ?_); rintro e w' ⟨rfl, ⟨nd, rfl⟩⟩; refine ⟨_, rfl, ?_⟩) | ((with_reducible refine gate_callee (f := 24) rfl ?_); refine goesL_ (some 22) rfl rfl Try.func24 (by kernel_rfl) rfl #[.int .i64 t151, .int .i64 (wrap64 (t152 * t153))] rfl (by (try simp only [List.map_toArray, List.map_cons, List.map_nil]); first | done | rfl | (simp only [List.length_drop, List.length_take]; rfl)) ?_; (with_reducible refine (ring_Pow.calls k t151 (wrap64 (t152 * t153)) t156 _ A9.out).mono ?_); rintro e w' ⟨rfl, ⟨nd, rfl⟩⟩; refine ⟨_, rfl, ?_⟩))
    go_ret
    exact ⟨by first | rfl | (simp; done) | (simp [*]; done), by repeat (first | exact Drawn0.refl _ | apply Drawn0.step)⟩

/-- THE ONE PURE STATEMENT of chatelainelaw3_RingPowers: yours. -/
def chatelainelaw3_RingPowers.Pure : Prop := ∀ (a0 : Int) (a1 : Int) (a2 : Int), (Lit.int .i64 a0).wf = true → (Lit.int .i64 a1).wf = true → (Lit.int .i64 a2).wf = true → ∃ k, chatelainelaw3_RingPowers.f k a0 a1 a2 = some true
theorem chatelainelaw3_RingPowers.walk (P : chatelainelaw3_RingPowers.Pure) (a0 : Int) (a1 : Int) (a2 : Int) (w : World) (w0 : (Lit.int .i64 a0).wf = true) (w1 : (Lit.int .i64 a1).wf = true) (w2 : (Lit.int .i64 a2).wf = true) :
    Calls Try.prog 6 #[.int .i64 a0, .int .i64 a1, .int .i64 a2] w fun e w' => e = .returned (.bool true) ∧ Below w.heap.size w w' := by
  obtain ⟨k, h⟩ := P a0 a1 a2 w0 w1 w2
  refine (chatelainelaw3_RingPowers.calls k a0 a1 a2 true w h).mono ?_
  rintro e w' ⟨rfl, hd⟩
  exact ⟨rfl, hd.below⟩

/-! ### chatelaineref3_Of: function 26 -/
def chatelaineref3_Of.f (a0 : Int) : Option (Int) := some (Int.tmod (wrap64 ((Int.tmod a0 3329) + 3329)) 3329)
set_option maxHeartbeats 8000000 in
set_option maxRecDepth 100000 in
theorem chatelaineref3_Of.calls (a0 : Int) (r : Int) (w : World) (h : chatelaineref3_Of.f a0 = some r) :
    Calls Try.prog 26 #[.int .i64 a0] w fun e w' => e = .returned (.int .i64 r) ∧ Drawn0 w w' := by
  have H : (some (Int.tmod (wrap64 ((Int.tmod a0 3329) + 3329)) 3329)) = some r := h
  clear h
  obtain rfl := Option.some.inj H
  go_enter Try.func26, Try.ntmps26
  go_wp2
  go_ret
  exact ⟨by first | rfl | (simp; done) | (simp [*]; done), by repeat (first | exact Drawn0.refl _ | apply Drawn0.step)⟩

end Go.Proofs.Ytiphpcehmjcejaa.PRing
