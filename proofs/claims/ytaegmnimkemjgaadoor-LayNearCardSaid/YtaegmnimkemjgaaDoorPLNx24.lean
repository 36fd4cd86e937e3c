-- By a program of this session (wip/myprint.sh) out of the translation; Lean checks it.
import Derived.Test.YtaegmnimkemjgaaDoorPLNx0
import Derived.Test.YtaegmnimkemjgaaDoorPLNx5
import Derived.Test.YtaegmnimkemjgaaDoorPLNx8
import Derived.Test.YtaegmnimkemjgaaDoorPLNx9
import Derived.Test.YtaegmnimkemjgaaDoorPLNx13
import Derived.Test.YtaegmnimkemjgaaDoorPLNx14
import Derived.Test.YtaegmnimkemjgaaDoorPLNx15
import Derived.Test.YtaegmnimkemjgaaDoorPLNx19
import Derived.Test.YtaegmnimkemjgaaDoorPLNx20
import Derived.Test.YtaegmnimkemjgaaDoorPLNx22
import Derived.Test.YtaegmnimkemjgaaDoorPLNx23
namespace Go.Proofs.YtaegmnimkemjgaaDoor.PLN
open Go.RowKit Go.Proofs.YtaegmnimkemjgaaDoorW.PrintWords Go.Proofs.YtaegmnimkemjgaaDoorW.PrintLast Go.Proofs.YtaegmnimkemjgaaDoorW.PrintMore
attribute [local go_sem] max2_int min2_int max_two min_two max_three min_three max_four min_four   -- for this text's walks alone
set_option linter.unusedVariables false
set_option linter.unusedSimpArgs false

/-! ### chatelainelaw11_LayNear: function 3 -/
mutual
def chatelainelaw11_LayNear.j0 : Nat → Int → Int → Int → List Int → List Int → Bool → Option (Bool)
  | 0, _, _, _, _, _, _ => none
  | k + 1, x0, x1, x2, x3, x4, x33 => if x33 = true then ((chatelainelaw11_awake.f k).bind fun t277 => (some t277)) else ((chatelainelaw0_LendInts.f x3).bind fun t278 => ((chatelainelaw0_LendBytes.f x4).bind fun t281 => ((lay_Near.f k x1 x2 t278).bind fun t284 => ((lay_Far.f k x1 x2 t281).bind fun t287 => ((lay_Of.f x0).bind fun bt290 => ((chatelaineref11_Of.f x0).bind fun bt301 => ((lay_Sizes.f k x0).bind fun bt312 => ((chatelaineref11_Sizes.f x0).bind fun bt315 => ((chatelaineref11_Near.f k x1 x2 x3).bind fun t318 => ((chatelainelaw0_SameBytes.f k t284 t318).bind fun t321 => (if t321 = true then ((chatelaineref11_Far.f k x1 x2 x4).bind fun t322 => ((chatelainelaw0_SameInts.f k t287 t322).bind fun t325 => (if t325 = true then (if (bt290.2.2.2.2.2.2.2.2.2 == bt301.2.2.2.2.2.2.2.2.2) = true then (if bt290.1 = bt301.1 then (if bt290.2.1 = bt301.2.1 then (if bt290.2.2.1 = bt301.2.2.1 then (if bt290.2.2.2.1 = bt301.2.2.2.1 then (if bt290.2.2.2.2.1 = bt301.2.2.2.2.1 then (if bt290.2.2.2.2.2.1 = bt301.2.2.2.2.2.1 then (if bt290.2.2.2.2.2.2.1 = bt301.2.2.2.2.2.2.1 then (if bt290.2.2.2.2.2.2.2.1 = bt301.2.2.2.2.2.2.2.1 then (if bt290.2.2.2.2.2.2.2.2.1 = bt301.2.2.2.2.2.2.2.2.1 then (if bt312.1 = bt315.1 then (if bt312.2.1 = bt315.2.1 then (chatelainelaw11_LayNear.j1 k x3 x4 t278 t281 t284 t287 (bt312.2.2 == bt315.2.2)) else (chatelainelaw11_LayNear.j1 k x3 x4 t278 t281 t284 t287 false)) else (chatelainelaw11_LayNear.j1 k x3 x4 t278 t281 t284 t287 false)) else (chatelainelaw11_LayNear.j1 k x3 x4 t278 t281 t284 t287 false)) else (chatelainelaw11_LayNear.j1 k x3 x4 t278 t281 t284 t287 false)) else (chatelainelaw11_LayNear.j1 k x3 x4 t278 t281 t284 t287 false)) else (chatelainelaw11_LayNear.j1 k x3 x4 t278 t281 t284 t287 false)) else (chatelainelaw11_LayNear.j1 k x3 x4 t278 t281 t284 t287 false)) else (chatelainelaw11_LayNear.j1 k x3 x4 t278 t281 t284 t287 false)) else (chatelainelaw11_LayNear.j1 k x3 x4 t278 t281 t284 t287 false)) else (chatelainelaw11_LayNear.j1 k x3 x4 t278 t281 t284 t287 false)) else (chatelainelaw11_LayNear.j1 k x3 x4 t278 t281 t284 t287 false)) else (chatelainelaw11_LayNear.j1 k x3 x4 t278 t281 t284 t287 false)) else (chatelainelaw11_LayNear.j1 k x3 x4 t278 t281 t284 t287 false)))) else (chatelainelaw11_LayNear.j1 k x3 x4 t278 t281 t284 t287 false))))))))))))
def chatelainelaw11_LayNear.j1 : Nat → List Int → List Int → List Int → List Int → List Int → List Int → Bool → Option (Bool)
  | 0, _, _, _, _, _, _, _ => none
  | k + 1, x3, x4, x11, x12, x13, x14, x25 => (chatelainelaw0_OverBytes.f k x13).bind fun _ => ((chatelainelaw0_OverInts.f k x14).bind fun _ => (if x25 = true then ((chatelainelaw0_KeptInts.f k x11 x3).bind fun t326 => (if t326 = true then ((chatelainelaw0_KeptBytes.f k x12 x4).bind fun t327 => (if t327 = true then ((chatelainelaw11_awake.f k).bind fun t328 => (some t328)) else (some false))) else (some false))) else (some false)))
end
def chatelainelaw11_LayNear.f (k : Nat) (a0 : Int) (a1 : Int) (a2 : Int) (l3 : List Int) (l4 : List Int) : Option (Bool) := if (l3.length : Int) > 300 then (chatelainelaw11_LayNear.j0 k a0 a1 a2 l3 l4 true) else (chatelainelaw11_LayNear.j0 k a0 a1 a2 l3 l4 (decide ((l4.length : Int) > 1000)))
theorem chatelainelaw11_LayNear.mono_l : ∀ k, (∀ y0 y1 y2 y3 y4 y5, LeO (chatelainelaw11_LayNear.j0 k y0 y1 y2 y3 y4 y5) (chatelainelaw11_LayNear.j0 (k + 1) y0 y1 y2 y3 y4 y5)) ∧ (∀ y0 y1 y2 y3 y4 y5 y6, LeO (chatelainelaw11_LayNear.j1 k y0 y1 y2 y3 y4 y5 y6) (chatelainelaw11_LayNear.j1 (k + 1) y0 y1 y2 y3 y4 y5 y6))
  | 0 => ⟨fun _ _ _ _ _ _ r h => by simp [chatelainelaw11_LayNear.j0] at h, fun _ _ _ _ _ _ _ r h => by simp [chatelainelaw11_LayNear.j1] at h⟩
  | k + 1 => by
    obtain ⟨ih0, ih1⟩ := chatelainelaw11_LayNear.mono_l k
    refine ⟨?_, ?_⟩
    · intro y0 y1 y2 y3 y4 y5
      unfold chatelainelaw11_LayNear.j0
      repeat' first
      | (with_reducible exact ih0 _ _ _ _ _ _)
      | (with_reducible exact ih1 _ _ _ _ _ _ _)
      | (with_reducible exact chatelainelaw0_KeptBytes.mono _ _ _)
      | (with_reducible exact chatelainelaw0_KeptInts.mono _ _ _)
      | (with_reducible exact chatelainelaw0_OverBytes.mono _ _)
      | (with_reducible exact chatelainelaw0_OverInts.mono _ _)
      | (with_reducible exact chatelainelaw0_SameBytes.mono _ _ _)
      | (with_reducible exact chatelainelaw0_SameInts.mono _ _ _)
      | (with_reducible exact chatelainelaw11_awake.mono _)
      | (with_reducible exact chatelaineref11_Far.mono _ _ _ _)
      | (with_reducible exact chatelaineref11_Near.mono _ _ _ _)
      | (with_reducible exact lay_Far.mono _ _ _ _)
      | (with_reducible exact lay_Near.mono _ _ _ _)
      | (with_reducible exact lay_Sizes.mono _ _)
      | (with_reducible exact LeO.refl _)
      | (with_reducible exact LeO.none _)
      | (with_reducible refine LeO.ite ?_ ?_)
      | (with_reducible refine LeO.bind ?_ (fun _ => ?_))
      | exact ih0 _ _ _ _ _ _
      | exact ih1 _ _ _ _ _ _ _
      | exact chatelainelaw0_KeptBytes.mono _ _ _
      | exact chatelainelaw0_KeptInts.mono _ _ _
      | exact chatelainelaw0_OverBytes.mono _ _
      | exact chatelainelaw0_OverInts.mono _ _
      | exact chatelainelaw0_SameBytes.mono _ _ _
      | exact chatelainelaw0_SameInts.mono _ _ _
      | exact chatelainelaw11_awake.mono _
      | exact chatelaineref11_Far.mono _ _ _ _
      | exact chatelaineref11_Near.mono _ _ _ _
      | exact lay_Far.mono _ _ _ _
      | exact lay_Near.mono _ _ _ _
      | exact lay_Sizes.mono _ _
      | exact LeO.none _
      | refine LeO.ite ?_ ?_
      | refine LeO.bind ?_ (fun _ => ?_)
    · intro y0 y1 y2 y3 y4 y5 y6
      unfold chatelainelaw11_LayNear.j1
      repeat' first
      | (with_reducible exact ih0 _ _ _ _ _ _)
      | (with_reducible exact ih1 _ _ _ _ _ _ _)
      | (with_reducible exact chatelainelaw0_KeptBytes.mono _ _ _)
      | (with_reducible exact chatelainelaw0_KeptInts.mono _ _ _)
      | (with_reducible exact chatelainelaw0_OverBytes.mono _ _)
      | (with_reducible exact chatelainelaw0_OverInts.mono _ _)
      | (with_reducible exact chatelainelaw0_SameBytes.mono _ _ _)
      | (with_reducible exact chatelainelaw0_SameInts.mono _ _ _)
      | (with_reducible exact chatelainelaw11_awake.mono _)
      | (with_reducible exact chatelaineref11_Far.mono _ _ _ _)
      | (with_reducible exact chatelaineref11_Near.mono _ _ _ _)
      | (with_reducible exact lay_Far.mono _ _ _ _)
      | (with_reducible exact lay_Near.mono _ _ _ _)
      | (with_reducible exact lay_Sizes.mono _ _)
      | (with_reducible exact LeO.refl _)
      | (with_reducible exact LeO.none _)
      | (with_reducible refine LeO.ite ?_ ?_)
      | (with_reducible refine LeO.bind ?_ (fun _ => ?_))
      | exact ih0 _ _ _ _ _ _
      | exact ih1 _ _ _ _ _ _ _
      | exact chatelainelaw0_KeptBytes.mono _ _ _
      | exact chatelainelaw0_KeptInts.mono _ _ _
      | exact chatelainelaw0_OverBytes.mono _ _
      | exact chatelainelaw0_OverInts.mono _ _
      | exact chatelainelaw0_SameBytes.mono _ _ _
      | exact chatelainelaw0_SameInts.mono _ _ _
      | exact chatelainelaw11_awake.mono _
      | exact chatelaineref11_Far.mono _ _ _ _
      | exact chatelaineref11_Near.mono _ _ _ _
      | exact lay_Far.mono _ _ _ _
      | exact lay_Near.mono _ _ _ _
      | exact lay_Sizes.mono _ _
      | exact LeO.none _
      | refine LeO.ite ?_ ?_
      | refine LeO.bind ?_ (fun _ => ?_)
theorem chatelainelaw11_LayNear.mono : ∀ a0 a1 a2 a3 a4 k, LeO (chatelainelaw11_LayNear.f k a0 a1 a2 a3 a4) (chatelainelaw11_LayNear.f (k + 1) a0 a1 a2 a3 a4) := by
  intro a0 a1 a2 a3 a4 k
  obtain ⟨ih0, ih1⟩ := chatelainelaw11_LayNear.mono_l k
  unfold chatelainelaw11_LayNear.f
  repeat' first
      | (with_reducible exact ih0 _ _ _ _ _ _)
      | (with_reducible exact ih1 _ _ _ _ _ _ _)
      | (with_reducible exact chatelainelaw0_KeptBytes.mono _ _ _)
      | (with_reducible exact chatelainelaw0_KeptInts.mono _ _ _)
      | (with_reducible exact chatelainelaw0_OverBytes.mono _ _)
      | (with_reducible exact chatelainelaw0_OverInts.mono _ _)
      | (with_reducible exact chatelainelaw0_SameBytes.mono _ _ _)
      | (with_reducible exact chatelainelaw0_SameInts.mono _ _ _)
      | (with_reducible exact chatelainelaw11_awake.mono _)
      | (with_reducible exact chatelaineref11_Far.mono _ _ _ _)
      | (with_reducible exact chatelaineref11_Near.mono _ _ _ _)
      | (with_reducible exact lay_Far.mono _ _ _ _)
      | (with_reducible exact lay_Near.mono _ _ _ _)
      | (with_reducible exact lay_Sizes.mono _ _)
      | (with_reducible exact LeO.refl _)
      | (with_reducible exact LeO.none _)
      | (with_reducible refine LeO.ite ?_ ?_)
      | (with_reducible refine LeO.bind ?_ (fun _ => ?_))
      | exact ih0 _ _ _ _ _ _
      | exact ih1 _ _ _ _ _ _ _
      | exact chatelainelaw0_KeptBytes.mono _ _ _
      | exact chatelainelaw0_KeptInts.mono _ _ _
      | exact chatelainelaw0_OverBytes.mono _ _
      | exact chatelainelaw0_OverInts.mono _ _
      | exact chatelainelaw0_SameBytes.mono _ _ _
      | exact chatelainelaw0_SameInts.mono _ _ _
      | exact chatelainelaw11_awake.mono _
      | exact chatelaineref11_Far.mono _ _ _ _
      | exact chatelaineref11_Near.mono _ _ _ _
      | exact lay_Far.mono _ _ _ _
      | exact lay_Near.mono _ _ _ _
      | exact lay_Sizes.mono _ _
      | exact LeO.none _
      | refine LeO.ite ?_ ?_
      | refine LeO.bind ?_ (fun _ => ?_)
set_option maxHeartbeats 8000000 in
set_option maxRecDepth 100000 in
theorem chatelainelaw11_LayNear.calls (k : Nat) (a0 : Int) (a1 : Int) (a2 : Int) (A3 : Option Addr) (c3 : Nat) (l3 : List Int) (A4 : Option Addr) (c4 : Nat) (l4 : List Int) (r : Bool) (w : World) (hr3 : Kd.C (Kd.int .i64) w A3 l3.length l3) (hc3 : l3.length ≤ c3) (hr4 : Kd.C (Kd.int .u8) w A4 l4.length l4) (hc4 : l4.length ≤ c4) (hg_ : w.cell? ⟨0, 0, none⟩ = some (.iface 115 (.agg #[.pointer (some ⟨1, 48, none⟩)]))) (h : chatelainelaw11_LayNear.f k a0 a1 a2 l3 l4 = some r) :
    Calls Tryd.prog 3 #[.int .i64 a0, .int .i64 a1, .int .i64 a2, .slice A3 l3.length c3, .slice A4 l4.length c4] w fun e w' => e = .returned (.bool r) ∧ Below w.heap.size w w' := by
  have hu30 := Tryd.underlying30
  have hu33 := Tryd.underlying33
  have HR3 := Aside0.mk hr3
  have HC3 := Aside0.mk hc3
  clear hr3 hc3
  have HR4 := Aside0.mk hr4
  have HC4 := Aside0.mk hc4
  clear hr4 hc4
  have HG := Aside0.mk hg_
  clear hg_
  have HB := Aside0.mk (Below.refl w.heap.size w)
  have H : (if (l3.length : Int) > 300 then (chatelainelaw11_LayNear.j0 k a0 a1 a2 l3 l4 true) else (chatelainelaw11_LayNear.j0 k a0 a1 a2 l3 l4 (decide ((l4.length : Int) > 1000)))) = some r := h
  clear h
  have HC6 := Aside0.mk H
  clear H
  go_enter Tryd.func3, Tryd.ntmps3
  simp only [List.append_eq, List.cons_append, List.nil_append]
  go_upto_region 1 with (fail)
  go_cut [33] (fun v33 wc => ∃ (kq : Nat) (x33_5 : Bool), v33 = .bool x33_5 ∧ Aside0 (chatelainelaw11_LayNear.j0 kq a0 a1 a2 l3 l4 x33_5 = some r) ∧ Aside0 (kq ≤ k) ∧ Aside0 (Below w.heap.size w wc))
  case first =>
    have H := HC6.out
    clear HC6
    by_cases c7 : (l3.length : Int) > 300
    · rw [if_pos c7] at H
      (first | rw [if_pos c7] | rw [if_pos (eq_of_beq c7)] | skip)
      have c7b0 : decide (300 < (l3.length : Int)) = true := decide_eq_true c7
      have c7b1 : decide (300 < l3.length) = true := decide_eq_true (by omega)
      clear c7
      (first | rw [c7b0] | rw [c7b1] | (simp only [i64_w, i32_w]; rw [c7b0]) | skip)
      as_aux_lemma =>
        have H' := Aside0.mk H
        clear H
        go_wp2
        go_meet
        case rel => exact ⟨_, (true), (by first | rfl | (simp; done) | (simp [*]; done)), H', ⟨by first | omega | exact Nat.le_refl _⟩, ⟨by repeat (first | (with_reducible first | exact HB.out | apply below_alloc | apply pw_below_drewN | apply below_drew1) | exact HB.out)⟩⟩
    · rw [if_neg c7] at H
      (first | rw [if_neg c7] | rw [if_neg (fun e_ => c7 (beq_iff_eq.mpr e_))] | skip)
      have c7b0 : decide (300 < (l3.length : Int)) = false := decide_eq_false c7
      have c7b1 : decide (300 < l3.length) = false := decide_eq_false (by omega)
      clear c7
      (first | rw [c7b0] | rw [c7b1] | (simp only [i64_w, i32_w]; rw [c7b0]) | skip)
      as_aux_lemma =>
        have H' := Aside0.mk H
        clear H
        go_wp2
        go_meet
        case rel => exact ⟨_, (decide ((l4.length : Int) > 1000)), (by first | rfl | (simp; done) | (simp [*]; done)), H', ⟨by first | omega | exact Nat.le_refl _⟩, ⟨by repeat (first | (with_reducible first | exact HB.out | apply below_alloc | apply pw_below_drewN | apply below_drew1) | exact HB.out)⟩⟩
  case rest =>
    clear HC6
    try clear p2
    try clear c3
    try clear c4
    try clear c7
    try clear c7b0
    try clear c7b1
    obtain ⟨kq, x33_5, rfl, HA, HJ5, HB⟩ := hcut
    cases kq with
    | zero => exact absurd HA.out (by simp [chatelainelaw11_LayNear.j0])
    | succ kj5 =>
      have H := HA.out
      clear HA
      simp only [chatelainelaw11_LayNear.j0] at H
      by_cases c8 : x33_5 = true
      · subst c8
        have H1 : ((chatelainelaw11_awake.f kj5).bind fun t277 => (some t277)) = some r := by rw [if_pos rfl] at H; exact H
        clear H
        have H := H1
        clear H1
        replace H := Option.bind_eq_some_iff.mp H
        obtain ⟨t277, A90, H⟩ := H
        replace H : (some t277) = some r := H
        have A9 := Aside0.mk A90
        clear A90
        as_aux_lemma =>
          obtain rfl := Option.some.inj H
          go_wp2_with (first | ((with_reducible refine gate_callee (f := 8) rfl ?_); refine goesL_ (some 34) rfl rfl Tryd.func8 (by kernel_rfl) rfl #[] rfl (by (try simp only [List.map_toArray, List.map_cons, List.map_nil]); first | done | rfl | (simp only [List.length_drop, List.length_take]; rfl)) ?_; (with_reducible refine (chatelainelaw11_awake.calls kj5  t277 _ ?side1 A9.out).mono ?_); (case side1 => exact pw_cell_below (by repeat (first | (with_reducible first | exact HB.out | apply below_alloc | apply pw_below_drewN | apply below_drew1) | exact HB.out)) HG.out); rintro e w10 ⟨rfl, hb⟩; refine ⟨_, rfl, ?_⟩; have n0_ := Aside0.mk (below_step (by repeat (first | (with_reducible first | exact HB.out | apply below_alloc | apply pw_below_drewN | apply below_drew1) | exact HB.out)) hb); clear HB; have HB := n0_; clear n0_; (try clear hb); (try clear hb2); (try clear hk); (try clear hi); (try clear A9)))
          go_ret
          exact ⟨by first | rfl | (simp [errW_none, errW_some] <;> rfl) | (simp [*, errW_none, errW_some] <;> rfl), by repeat (first | (with_reducible first | exact HB.out | apply below_alloc | apply pw_below_drewN | apply below_drew1) | exact HB.out)⟩
      · replace c8 := Bool.eq_false_iff.mpr c8
        subst c8
        have H1 : ((chatelainelaw0_LendInts.f l3).bind fun t278 => ((chatelainelaw0_LendBytes.f l4).bind fun t281 => ((lay_Near.f kj5 a1 a2 t278).bind fun t284 => ((lay_Far.f kj5 a1 a2 t281).bind fun t287 => ((lay_Of.f a0).bind fun bt290 => ((chatelaineref11_Of.f a0).bind fun bt301 => ((lay_Sizes.f kj5 a0).bind fun bt312 => ((chatelaineref11_Sizes.f a0).bind fun bt315 => ((chatelaineref11_Near.f kj5 a1 a2 l3).bind fun t318 => ((chatelainelaw0_SameBytes.f kj5 t284 t318).bind fun t321 => (if t321 = true then ((chatelaineref11_Far.f kj5 a1 a2 l4).bind fun t322 => ((chatelainelaw0_SameInts.f kj5 t287 t322).bind fun t325 => (if t325 = true then (if (bt290.2.2.2.2.2.2.2.2.2 == bt301.2.2.2.2.2.2.2.2.2) = true then (if bt290.1 = bt301.1 then (if bt290.2.1 = bt301.2.1 then (if bt290.2.2.1 = bt301.2.2.1 then (if bt290.2.2.2.1 = bt301.2.2.2.1 then (if bt290.2.2.2.2.1 = bt301.2.2.2.2.1 then (if bt290.2.2.2.2.2.1 = bt301.2.2.2.2.2.1 then (if bt290.2.2.2.2.2.2.1 = bt301.2.2.2.2.2.2.1 then (if bt290.2.2.2.2.2.2.2.1 = bt301.2.2.2.2.2.2.2.1 then (if bt290.2.2.2.2.2.2.2.2.1 = bt301.2.2.2.2.2.2.2.2.1 then (if bt312.1 = bt315.1 then (if bt312.2.1 = bt315.2.1 then (chatelainelaw11_LayNear.j1 kj5 l3 l4 t278 t281 t284 t287 (bt312.2.2 == bt315.2.2)) else (chatelainelaw11_LayNear.j1 kj5 l3 l4 t278 t281 t284 t287 false)) else (chatelainelaw11_LayNear.j1 kj5 l3 l4 t278 t281 t284 t287 false)) else (chatelainelaw11_LayNear.j1 kj5 l3 l4 t278 t281 t284 t287 false)) else (chatelainelaw11_LayNear.j1 kj5 l3 l4 t278 t281 t284 t287 false)) else (chatelainelaw11_LayNear.j1 kj5 l3 l4 t278 t281 t284 t287 false)) else (chatelainelaw11_LayNear.j1 kj5 l3 l4 t278 t281 t284 t287 false)) else (chatelainelaw11_LayNear.j1 kj5 l3 l4 t278 t281 t284 t287 false)) else (chatelainelaw11_LayNear.j1 kj5 l3 l4 t278 t281 t284 t287 false)) else (chatelainelaw11_LayNear.j1 kj5 l3 l4 t278 t281 t284 t287 false)) else (chatelainelaw11_LayNear.j1 kj5 l3 l4 t278 t281 t284 t287 false)) else (chatelainelaw11_LayNear.j1 kj5 l3 l4 t278 t281 t284 t287 false)) else (chatelainelaw11_LayNear.j1 kj5 l3 l4 t278 t281 t284 t287 false)) else (chatelainelaw11_LayNear.j1 kj5 l3 l4 t278 t281 t284 t287 false)))) else (chatelainelaw11_LayNear.j1 kj5 l3 l4 t278 t281 t284 t287 false)))))))))))) = some r := by rw [if_neg (show ¬ (false = true) by decide)] at H; exact H
        clear H
        have H := H1
        clear H1
        replace H := Option.bind_eq_some_iff.mp H
        obtain ⟨t278, A110, H⟩ := H
        replace H : ((chatelainelaw0_LendBytes.f l4).bind fun t281 => ((lay_Near.f kj5 a1 a2 t278).bind fun t284 => ((lay_Far.f kj5 a1 a2 t281).bind fun t287 => ((lay_Of.f a0).bind fun bt290 => ((chatelaineref11_Of.f a0).bind fun bt301 => ((lay_Sizes.f kj5 a0).bind fun bt312 => ((chatelaineref11_Sizes.f a0).bind fun bt315 => ((chatelaineref11_Near.f kj5 a1 a2 l3).bind fun t318 => ((chatelainelaw0_SameBytes.f kj5 t284 t318).bind fun t321 => (if t321 = true then ((chatelaineref11_Far.f kj5 a1 a2 l4).bind fun t322 => ((chatelainelaw0_SameInts.f kj5 t287 t322).bind fun t325 => (if t325 = true then (if (bt290.2.2.2.2.2.2.2.2.2 == bt301.2.2.2.2.2.2.2.2.2) = true then (if bt290.1 = bt301.1 then (if bt290.2.1 = bt301.2.1 then (if bt290.2.2.1 = bt301.2.2.1 then (if bt290.2.2.2.1 = bt301.2.2.2.1 then (if bt290.2.2.2.2.1 = bt301.2.2.2.2.1 then (if bt290.2.2.2.2.2.1 = bt301.2.2.2.2.2.1 then (if bt290.2.2.2.2.2.2.1 = bt301.2.2.2.2.2.2.1 then (if bt290.2.2.2.2.2.2.2.1 = bt301.2.2.2.2.2.2.2.1 then (if bt290.2.2.2.2.2.2.2.2.1 = bt301.2.2.2.2.2.2.2.2.1 then (if bt312.1 = bt315.1 then (if bt312.2.1 = bt315.2.1 then (chatelainelaw11_LayNear.j1 kj5 l3 l4 t278 t281 t284 t287 (bt312.2.2 == bt315.2.2)) else (chatelainelaw11_LayNear.j1 kj5 l3 l4 t278 t281 t284 t287 false)) else (chatelainelaw11_LayNear.j1 kj5 l3 l4 t278 t281 t284 t287 false)) else (chatelainelaw11_LayNear.j1 kj5 l3 l4 t278 t281 t284 t287 false)) else (chatelainelaw11_LayNear.j1 kj5 l3 l4 t278 t281 t284 t287 false)) else (chatelainelaw11_LayNear.j1 kj5 l3 l4 t278 t281 t284 t287 false)) else (chatelainelaw11_LayNear.j1 kj5 l3 l4 t278 t281 t284 t287 false)) else (chatelainelaw11_LayNear.j1 kj5 l3 l4 t278 t281 t284 t287 false)) else (chatelainelaw11_LayNear.j1 kj5 l3 l4 t278 t281 t284 t287 false)) else (chatelainelaw11_LayNear.j1 kj5 l3 l4 t278 t281 t284 t287 false)) else (chatelainelaw11_LayNear.j1 kj5 l3 l4 t278 t281 t284 t287 false)) else (chatelainelaw11_LayNear.j1 kj5 l3 l4 t278 t281 t284 t287 false)) else (chatelainelaw11_LayNear.j1 kj5 l3 l4 t278 t281 t284 t287 false)) else (chatelainelaw11_LayNear.j1 kj5 l3 l4 t278 t281 t284 t287 false)))) else (chatelainelaw11_LayNear.j1 kj5 l3 l4 t278 t281 t284 t287 false))))))))))) = some r := H
        have A11 := Aside0.mk A110
        clear A110
        replace H := Option.bind_eq_some_iff.mp H
        obtain ⟨t281, A120, H⟩ := H
        replace H : ((lay_Near.f kj5 a1 a2 t278).bind fun t284 => ((lay_Far.f kj5 a1 a2 t281).bind fun t287 => ((lay_Of.f a0).bind fun bt290 => ((chatelaineref11_Of.f a0).bind fun bt301 => ((lay_Sizes.f kj5 a0).bind fun bt312 => ((chatelaineref11_Sizes.f a0).bind fun bt315 => ((chatelaineref11_Near.f kj5 a1 a2 l3).bind fun t318 => ((chatelainelaw0_SameBytes.f kj5 t284 t318).bind fun t321 => (if t321 = true then ((chatelaineref11_Far.f kj5 a1 a2 l4).bind fun t322 => ((chatelainelaw0_SameInts.f kj5 t287 t322).bind fun t325 => (if t325 = true then (if (bt290.2.2.2.2.2.2.2.2.2 == bt301.2.2.2.2.2.2.2.2.2) = true then (if bt290.1 = bt301.1 then (if bt290.2.1 = bt301.2.1 then (if bt290.2.2.1 = bt301.2.2.1 then (if bt290.2.2.2.1 = bt301.2.2.2.1 then (if bt290.2.2.2.2.1 = bt301.2.2.2.2.1 then (if bt290.2.2.2.2.2.1 = bt301.2.2.2.2.2.1 then (if bt290.2.2.2.2.2.2.1 = bt301.2.2.2.2.2.2.1 then (if bt290.2.2.2.2.2.2.2.1 = bt301.2.2.2.2.2.2.2.1 then (if bt290.2.2.2.2.2.2.2.2.1 = bt301.2.2.2.2.2.2.2.2.1 then (if bt312.1 = bt315.1 then (if bt312.2.1 = bt315.2.1 then (chatelainelaw11_LayNear.j1 kj5 l3 l4 t278 t281 t284 t287 (bt312.2.2 == bt315.2.2)) else (chatelainelaw11_LayNear.j1 kj5 l3 l4 t278 t281 t284 t287 false)) else (chatelainelaw11_LayNear.j1 kj5 l3 l4 t278 t281 t284 t287 false)) else (chatelainelaw11_LayNear.j1 kj5 l3 l4 t278 t281 t284 t287 false)) else (chatelainelaw11_LayNear.j1 kj5 l3 l4 t278 t281 t284 t287 false)) else (chatelainelaw11_LayNear.j1 kj5 l3 l4 t278 t281 t284 t287 false)) else (chatelainelaw11_LayNear.j1 kj5 l3 l4 t278 t281 t284 t287 false)) else (chatelainelaw11_LayNear.j1 kj5 l3 l4 t278 t281 t284 t287 false)) else (chatelainelaw11_LayNear.j1 kj5 l3 l4 t278 t281 t284 t287 false)) else (chatelainelaw11_LayNear.j1 kj5 l3 l4 t278 t281 t284 t287 false)) else (chatelainelaw11_LayNear.j1 kj5 l3 l4 t278 t281 t284 t287 false)) else (chatelainelaw11_LayNear.j1 kj5 l3 l4 t278 t281 t284 t287 false)) else (chatelainelaw11_LayNear.j1 kj5 l3 l4 t278 t281 t284 t287 false)) else (chatelainelaw11_LayNear.j1 kj5 l3 l4 t278 t281 t284 t287 false)))) else (chatelainelaw11_LayNear.j1 kj5 l3 l4 t278 t281 t284 t287 false)))))))))) = some r := H
        have A12 := Aside0.mk A120
        clear A120
        replace H := Option.bind_eq_some_iff.mp H
        obtain ⟨t284, A130, H⟩ := H
        replace H : ((lay_Far.f kj5 a1 a2 t281).bind fun t287 => ((lay_Of.f a0).bind fun bt290 => ((chatelaineref11_Of.f a0).bind fun bt301 => ((lay_Sizes.f kj5 a0).bind fun bt312 => ((chatelaineref11_Sizes.f a0).bind fun bt315 => ((chatelaineref11_Near.f kj5 a1 a2 l3).bind fun t318 => ((chatelainelaw0_SameBytes.f kj5 t284 t318).bind fun t321 => (if t321 = true then ((chatelaineref11_Far.f kj5 a1 a2 l4).bind fun t322 => ((chatelainelaw0_SameInts.f kj5 t287 t322).bind fun t325 => (if t325 = true then (if (bt290.2.2.2.2.2.2.2.2.2 == bt301.2.2.2.2.2.2.2.2.2) = true then (if bt290.1 = bt301.1 then (if bt290.2.1 = bt301.2.1 then (if bt290.2.2.1 = bt301.2.2.1 then (if bt290.2.2.2.1 = bt301.2.2.2.1 then (if bt290.2.2.2.2.1 = bt301.2.2.2.2.1 then (if bt290.2.2.2.2.2.1 = bt301.2.2.2.2.2.1 then (if bt290.2.2.2.2.2.2.1 = bt301.2.2.2.2.2.2.1 then (if bt290.2.2.2.2.2.2.2.1 = bt301.2.2.2.2.2.2.2.1 then (if bt290.2.2.2.2.2.2.2.2.1 = bt301.2.2.2.2.2.2.2.2.1 then (if bt312.1 = bt315.1 then (if bt312.2.1 = bt315.2.1 then (chatelainelaw11_LayNear.j1 kj5 l3 l4 t278 t281 t284 t287 (bt312.2.2 == bt315.2.2)) else (chatelainelaw11_LayNear.j1 kj5 l3 l4 t278 t281 t284 t287 false)) else (chatelainelaw11_LayNear.j1 kj5 l3 l4 t278 t281 t284 t287 false)) else (chatelainelaw11_LayNear.j1 kj5 l3 l4 t278 t281 t284 t287 false)) else (chatelainelaw11_LayNear.j1 kj5 l3 l4 t278 t281 t284 t287 false)) else (chatelainelaw11_LayNear.j1 kj5 l3 l4 t278 t281 t284 t287 false)) else (chatelainelaw11_LayNear.j1 kj5 l3 l4 t278 t281 t284 t287 false)) else (chatelainelaw11_LayNear.j1 kj5 l3 l4 t278 t281 t284 t287 false)) else (chatelainelaw11_LayNear.j1 kj5 l3 l4 t278 t281 t284 t287 false)) else (chatelainelaw11_LayNear.j1 kj5 l3 l4 t278 t281 t284 t287 false)) else (chatelainelaw11_LayNear.j1 kj5 l3 l4 t278 t281 t284 t287 false)) else (chatelainelaw11_LayNear.j1 kj5 l3 l4 t278 t281 t284 t287 false)) else (chatelainelaw11_LayNear.j1 kj5 l3 l4 t278 t281 t284 t287 false)) else (chatelainelaw11_LayNear.j1 kj5 l3 l4 t278 t281 t284 t287 false)))) else (chatelainelaw11_LayNear.j1 kj5 l3 l4 t278 t281 t284 t287 false))))))))) = some r := H
        have A13 := Aside0.mk A130
        clear A130
        replace H := Option.bind_eq_some_iff.mp H
        obtain ⟨t287, A140, H⟩ := H
        replace H : ((lay_Of.f a0).bind fun bt290 => ((chatelaineref11_Of.f a0).bind fun bt301 => ((lay_Sizes.f kj5 a0).bind fun bt312 => ((chatelaineref11_Sizes.f a0).bind fun bt315 => ((chatelaineref11_Near.f kj5 a1 a2 l3).bind fun t318 => ((chatelainelaw0_SameBytes.f kj5 t284 t318).bind fun t321 => (if t321 = true then ((chatelaineref11_Far.f kj5 a1 a2 l4).bind fun t322 => ((chatelainelaw0_SameInts.f kj5 t287 t322).bind fun t325 => (if t325 = true then (if (bt290.2.2.2.2.2.2.2.2.2 == bt301.2.2.2.2.2.2.2.2.2) = true then (if bt290.1 = bt301.1 then (if bt290.2.1 = bt301.2.1 then (if bt290.2.2.1 = bt301.2.2.1 then (if bt290.2.2.2.1 = bt301.2.2.2.1 then (if bt290.2.2.2.2.1 = bt301.2.2.2.2.1 then (if bt290.2.2.2.2.2.1 = bt301.2.2.2.2.2.1 then (if bt290.2.2.2.2.2.2.1 = bt301.2.2.2.2.2.2.1 then (if bt290.2.2.2.2.2.2.2.1 = bt301.2.2.2.2.2.2.2.1 then (if bt290.2.2.2.2.2.2.2.2.1 = bt301.2.2.2.2.2.2.2.2.1 then (if bt312.1 = bt315.1 then (if bt312.2.1 = bt315.2.1 then (chatelainelaw11_LayNear.j1 kj5 l3 l4 t278 t281 t284 t287 (bt312.2.2 == bt315.2.2)) else (chatelainelaw11_LayNear.j1 kj5 l3 l4 t278 t281 t284 t287 false)) else (chatelainelaw11_LayNear.j1 kj5 l3 l4 t278 t281 t284 t287 false)) else (chatelainelaw11_LayNear.j1 kj5 l3 l4 t278 t281 t284 t287 false)) else (chatelainelaw11_LayNear.j1 kj5 l3 l4 t278 t281 t284 t287 false)) else (chatelainelaw11_LayNear.j1 kj5 l3 l4 t278 t281 t284 t287 false)) else (chatelainelaw11_LayNear.j1 kj5 l3 l4 t278 t281 t284 t287 false)) else (chatelainelaw11_LayNear.j1 kj5 l3 l4 t278 t281 t284 t287 false)) else (chatelainelaw11_LayNear.j1 kj5 l3 l4 t278 t281 t284 t287 false)) else (chatelainelaw11_LayNear.j1 kj5 l3 l4 t278 t281 t284 t287 false)) else (chatelainelaw11_LayNear.j1 kj5 l3 l4 t278 t281 t284 t287 false)) else (chatelainelaw11_LayNear.j1 kj5 l3 l4 t278 t281 t284 t287 false)) else (chatelainelaw11_LayNear.j1 kj5 l3 l4 t278 t281 t284 t287 false)) else (chatelainelaw11_LayNear.j1 kj5 l3 l4 t278 t281 t284 t287 false)))) else (chatelainelaw11_LayNear.j1 kj5 l3 l4 t278 t281 t284 t287 false)))))))) = some r := H
        have A14 := Aside0.mk A140
        clear A140
        replace H := Option.bind_eq_some_iff.mp H
        obtain ⟨⟨t290, t291, t292, t293, t294, t295, t296, t297, t298, t299⟩, A150, H⟩ := H
        replace H : ((chatelaineref11_Of.f a0).bind fun bt301 => ((lay_Sizes.f kj5 a0).bind fun bt312 => ((chatelaineref11_Sizes.f a0).bind fun bt315 => ((chatelaineref11_Near.f kj5 a1 a2 l3).bind fun t318 => ((chatelainelaw0_SameBytes.f kj5 t284 t318).bind fun t321 => (if t321 = true then ((chatelaineref11_Far.f kj5 a1 a2 l4).bind fun t322 => ((chatelainelaw0_SameInts.f kj5 t287 t322).bind fun t325 => (if t325 = true then (if (t299 == bt301.2.2.2.2.2.2.2.2.2) = true then (if t290 = bt301.1 then (if t291 = bt301.2.1 then (if t292 = bt301.2.2.1 then (if t293 = bt301.2.2.2.1 then (if t294 = bt301.2.2.2.2.1 then (if t295 = bt301.2.2.2.2.2.1 then (if t296 = bt301.2.2.2.2.2.2.1 then (if t297 = bt301.2.2.2.2.2.2.2.1 then (if t298 = bt301.2.2.2.2.2.2.2.2.1 then (if bt312.1 = bt315.1 then (if bt312.2.1 = bt315.2.1 then (chatelainelaw11_LayNear.j1 kj5 l3 l4 t278 t281 t284 t287 (bt312.2.2 == bt315.2.2)) else (chatelainelaw11_LayNear.j1 kj5 l3 l4 t278 t281 t284 t287 false)) else (chatelainelaw11_LayNear.j1 kj5 l3 l4 t278 t281 t284 t287 false)) else (chatelainelaw11_LayNear.j1 kj5 l3 l4 t278 t281 t284 t287 false)) else (chatelainelaw11_LayNear.j1 kj5 l3 l4 t278 t281 t284 t287 false)) else (chatelainelaw11_LayNear.j1 kj5 l3 l4 t278 t281 t284 t287 false)) else (chatelainelaw11_LayNear.j1 kj5 l3 l4 t278 t281 t284 t287 false)) else (chatelainelaw11_LayNear.j1 kj5 l3 l4 t278 t281 t284 t287 false)) else (chatelainelaw11_LayNear.j1 kj5 l3 l4 t278 t281 t284 t287 false)) else (chatelainelaw11_LayNear.j1 kj5 l3 l4 t278 t281 t284 t287 false)) else (chatelainelaw11_LayNear.j1 kj5 l3 l4 t278 t281 t284 t287 false)) else (chatelainelaw11_LayNear.j1 kj5 l3 l4 t278 t281 t284 t287 false)) else (chatelainelaw11_LayNear.j1 kj5 l3 l4 t278 t281 t284 t287 false)) else (chatelainelaw11_LayNear.j1 kj5 l3 l4 t278 t281 t284 t287 false)))) else (chatelainelaw11_LayNear.j1 kj5 l3 l4 t278 t281 t284 t287 false))))))) = some r := H
        have A15 := Aside0.mk A150
        clear A150
        replace H := Option.bind_eq_some_iff.mp H
        obtain ⟨⟨t301, t302, t303, t304, t305, t306, t307, t308, t309, t310⟩, A160, H⟩ := H
        replace H : ((lay_Sizes.f kj5 a0).bind fun bt312 => ((chatelaineref11_Sizes.f a0).bind fun bt315 => ((chatelaineref11_Near.f kj5 a1 a2 l3).bind fun t318 => ((chatelainelaw0_SameBytes.f kj5 t284 t318).bind fun t321 => (if t321 = true then ((chatelaineref11_Far.f kj5 a1 a2 l4).bind fun t322 => ((chatelainelaw0_SameInts.f kj5 t287 t322).bind fun t325 => (if t325 = true then (if (t299 == t310) = true then (if t290 = t301 then (if t291 = t302 then (if t292 = t303 then (if t293 = t304 then (if t294 = t305 then (if t295 = t306 then (if t296 = t307 then (if t297 = t308 then (if t298 = t309 then (if bt312.1 = bt315.1 then (if bt312.2.1 = bt315.2.1 then (chatelainelaw11_LayNear.j1 kj5 l3 l4 t278 t281 t284 t287 (bt312.2.2 == bt315.2.2)) else (chatelainelaw11_LayNear.j1 kj5 l3 l4 t278 t281 t284 t287 false)) else (chatelainelaw11_LayNear.j1 kj5 l3 l4 t278 t281 t284 t287 false)) else (chatelainelaw11_LayNear.j1 kj5 l3 l4 t278 t281 t284 t287 false)) else (chatelainelaw11_LayNear.j1 kj5 l3 l4 t278 t281 t284 t287 false)) else (chatelainelaw11_LayNear.j1 kj5 l3 l4 t278 t281 t284 t287 false)) else (chatelainelaw11_LayNear.j1 kj5 l3 l4 t278 t281 t284 t287 false)) else (chatelainelaw11_LayNear.j1 kj5 l3 l4 t278 t281 t284 t287 false)) else (chatelainelaw11_LayNear.j1 kj5 l3 l4 t278 t281 t284 t287 false)) else (chatelainelaw11_LayNear.j1 kj5 l3 l4 t278 t281 t284 t287 false)) else (chatelainelaw11_LayNear.j1 kj5 l3 l4 t278 t281 t284 t287 false)) else (chatelainelaw11_LayNear.j1 kj5 l3 l4 t278 t281 t284 t287 false)) else (chatelainelaw11_LayNear.j1 kj5 l3 l4 t278 t281 t284 t287 false)) else (chatelainelaw11_LayNear.j1 kj5 l3 l4 t278 t281 t284 t287 false)))) else (chatelainelaw11_LayNear.j1 kj5 l3 l4 t278 t281 t284 t287 false)))))) = some r := H
        have A16 := Aside0.mk A160
        clear A160
        replace H := Option.bind_eq_some_iff.mp H
        obtain ⟨⟨t312, t313, t314⟩, A170, H⟩ := H
        replace H : ((chatelaineref11_Sizes.f a0).bind fun bt315 => ((chatelaineref11_Near.f kj5 a1 a2 l3).bind fun t318 => ((chatelainelaw0_SameBytes.f kj5 t284 t318).bind fun t321 => (if t321 = true then ((chatelaineref11_Far.f kj5 a1 a2 l4).bind fun t322 => ((chatelainelaw0_SameInts.f kj5 t287 t322).bind fun t325 => (if t325 = true then (if (t299 == t310) = true then (if t290 = t301 then (if t291 = t302 then (if t292 = t303 then (if t293 = t304 then (if t294 = t305 then (if t295 = t306 then (if t296 = t307 then (if t297 = t308 then (if t298 = t309 then (if t312 = bt315.1 then (if t313 = bt315.2.1 then (chatelainelaw11_LayNear.j1 kj5 l3 l4 t278 t281 t284 t287 (t314 == bt315.2.2)) else (chatelainelaw11_LayNear.j1 kj5 l3 l4 t278 t281 t284 t287 false)) else (chatelainelaw11_LayNear.j1 kj5 l3 l4 t278 t281 t284 t287 false)) else (chatelainelaw11_LayNear.j1 kj5 l3 l4 t278 t281 t284 t287 false)) else (chatelainelaw11_LayNear.j1 kj5 l3 l4 t278 t281 t284 t287 false)) else (chatelainelaw11_LayNear.j1 kj5 l3 l4 t278 t281 t284 t287 false)) else (chatelainelaw11_LayNear.j1 kj5 l3 l4 t278 t281 t284 t287 false)) else (chatelainelaw11_LayNear.j1 kj5 l3 l4 t278 t281 t284 t287 false)) else (chatelainelaw11_LayNear.j1 kj5 l3 l4 t278 t281 t284 t287 false)) else (chatelainelaw11_LayNear.j1 kj5 l3 l4 t278 t281 t284 t287 false)) else (chatelainelaw11_LayNear.j1 kj5 l3 l4 t278 t281 t284 t287 false)) else (chatelainelaw11_LayNear.j1 kj5 l3 l4 t278 t281 t284 t287 false)) else (chatelainelaw11_LayNear.j1 kj5 l3 l4 t278 t281 t284 t287 false)) else (chatelainelaw11_LayNear.j1 kj5 l3 l4 t278 t281 t284 t287 false)))) else (chatelainelaw11_LayNear.j1 kj5 l3 l4 t278 t281 t284 t287 false))))) = some r := H
        have A17 := Aside0.mk A170
        clear A170
        replace H := Option.bind_eq_some_iff.mp H
        obtain ⟨⟨t315, t316, t317⟩, A180, H⟩ := H
        replace H : ((chatelaineref11_Near.f kj5 a1 a2 l3).bind fun t318 => ((chatelainelaw0_SameBytes.f kj5 t284 t318).bind fun t321 => (if t321 = true then ((chatelaineref11_Far.f kj5 a1 a2 l4).bind fun t322 => ((chatelainelaw0_SameInts.f kj5 t287 t322).bind fun t325 => (if t325 = true then (if (t299 == t310) = true then (if t290 = t301 then (if t291 = t302 then (if t292 = t303 then (if t293 = t304 then (if t294 = t305 then (if t295 = t306 then (if t296 = t307 then (if t297 = t308 then (if t298 = t309 then (if t312 = t315 then (if t313 = t316 then (chatelainelaw11_LayNear.j1 kj5 l3 l4 t278 t281 t284 t287 (t314 == t317)) else (chatelainelaw11_LayNear.j1 kj5 l3 l4 t278 t281 t284 t287 false)) else (chatelainelaw11_LayNear.j1 kj5 l3 l4 t278 t281 t284 t287 false)) else (chatelainelaw11_LayNear.j1 kj5 l3 l4 t278 t281 t284 t287 false)) else (chatelainelaw11_LayNear.j1 kj5 l3 l4 t278 t281 t284 t287 false)) else (chatelainelaw11_LayNear.j1 kj5 l3 l4 t278 t281 t284 t287 false)) else (chatelainelaw11_LayNear.j1 kj5 l3 l4 t278 t281 t284 t287 false)) else (chatelainelaw11_LayNear.j1 kj5 l3 l4 t278 t281 t284 t287 false)) else (chatelainelaw11_LayNear.j1 kj5 l3 l4 t278 t281 t284 t287 false)) else (chatelainelaw11_LayNear.j1 kj5 l3 l4 t278 t281 t284 t287 false)) else (chatelainelaw11_LayNear.j1 kj5 l3 l4 t278 t281 t284 t287 false)) else (chatelainelaw11_LayNear.j1 kj5 l3 l4 t278 t281 t284 t287 false)) else (chatelainelaw11_LayNear.j1 kj5 l3 l4 t278 t281 t284 t287 false)) else (chatelainelaw11_LayNear.j1 kj5 l3 l4 t278 t281 t284 t287 false)))) else (chatelainelaw11_LayNear.j1 kj5 l3 l4 t278 t281 t284 t287 false)))) = some r := H
        have A18 := Aside0.mk A180
        clear A180
        have HC19 := Aside0.mk H
        clear H
        go_upto_region 9 with (first | ((with_reducible refine gate_callee (f := 9) rfl ?_); refine goesL_ (some 36) rfl rfl Tryd.func9 (by kernel_rfl) rfl #[.slice A3 l3.length c3] rfl (by (try simp only [List.map_toArray, List.map_cons, List.map_nil]); first | done | rfl | (simp only [List.length_drop, List.length_take]; rfl)) ?_; (with_reducible refine (chatelainelaw0_LendInts.calls _ _ l3 t278 _ ?side1 ?side2 A11.out).mono ?_); (case side1 => repeat (first | exact (Kd.C_below HR3.out HB.out) | (with_reducible refine Kd.C_alloc ?_ _) | (with_reducible refine Kd.C_drewN ?_ _) | (with_reducible refine Kd.C_drew ?_))); (case side2 => exact HC3.out); rintro e w20 ⟨v279, rfl, ho0, hb⟩; refine ⟨_, rfl, ?_⟩; have n0_ := Aside0.mk (Kd.LI_lower ho0 (below_size (by repeat (first | (with_reducible first | exact HB.out | apply below_alloc | apply pw_below_drewN | apply below_drew1) | exact HB.out)))); have n1_ := Aside0.mk (below_step (by repeat (first | (with_reducible first | exact HB.out | apply below_alloc | apply pw_below_drewN | apply below_drew1) | exact HB.out)) hb); clear HB; have HO280 := n0_; have HB := n1_; clear n0_ n1_; (try clear hb); (try clear hb2); (try clear hk); (try clear hi); (try clear ho0); (try clear A11)) | ((with_reducible refine gate_callee (f := 10) rfl ?_); refine goesL_ (some 38) rfl rfl Tryd.func10 (by kernel_rfl) rfl #[.slice A4 l4.length c4] rfl (by (try simp only [List.map_toArray, List.map_cons, List.map_nil]); first | done | rfl | (simp only [List.length_drop, List.length_take]; rfl)) ?_; (with_reducible refine (chatelainelaw0_LendBytes.calls _ _ l4 t281 _ ?side1 ?side2 A12.out).mono ?_); (case side1 => repeat (first | exact (Kd.C_below HR4.out HB.out) | (with_reducible refine Kd.C_alloc ?_ _) | (with_reducible refine Kd.C_drewN ?_ _) | (with_reducible refine Kd.C_drew ?_))); (case side2 => exact HC4.out); rintro e w21 ⟨v282, rfl, ho0, hb⟩; refine ⟨_, rfl, ?_⟩; have n0_ := Aside0.mk (Kd.LI_below (by (with_reducible repeat (first | apply Kd.LI_alloc | apply Kd.LI_drewN | apply Kd.LI_drew)); exact HO280.out) hb); have n1_ := Aside0.mk (Kd.LB_lower ho0 (below_size (by repeat (first | (with_reducible first | exact HB.out | apply below_alloc | apply pw_below_drewN | apply below_drew1) | exact HB.out)))); have n2_ := Aside0.mk (below_step (by repeat (first | (with_reducible first | exact HB.out | apply below_alloc | apply pw_below_drewN | apply below_drew1) | exact HB.out)) hb); clear HO280; clear HB; have HO280 := n0_; have HO283 := n1_; have HB := n2_; clear n0_ n1_ n2_; (try clear hb); (try clear hb2); (try clear hk); (try clear hi); (try clear ho0); (try clear A12); obtain ⟨Ao22, co22, eo22⟩ := Kd.LI_slice HO280.out; subst eo22) | ((with_reducible refine gate_callee (f := 11) rfl ?_); refine goesL_ (some 42) rfl rfl Tryd.func11 (by kernel_rfl) rfl #[.int .i64 a1, .int .i64 a2, .slice Ao22 t278.length co22] rfl (by (try simp only [List.map_toArray, List.map_cons, List.map_nil]); first | done | rfl | (simp only [List.length_drop, List.length_take]; rfl)) ?_; (with_reducible refine (lay_Near.calls kj5 a1 a2 _ _ t278 t284 _ ?side1 ?side2 A13.out).mono ?_); (case side1 => repeat (first | exact (Kd.LI_reads' HO280.out).2.2 | (with_reducible refine Kd.C_alloc ?_ _) | (with_reducible refine Kd.C_drewN ?_ _) | (with_reducible refine Kd.C_drew ?_))); (case side2 => exact (Kd.LI_reads' HO280.out).2.1); rintro e w23 ⟨v285, rfl, ho0, hb⟩; refine ⟨_, rfl, ?_⟩; have n0_ := Aside0.mk (Kd.LI_below (by (with_reducible repeat (first | apply Kd.LI_alloc | apply Kd.LI_drewN | apply Kd.LI_drew)); exact HO280.out) hb); have n1_ := Aside0.mk (Kd.LB_elder' (by (with_reducible repeat (first | apply Kd.LB_alloc | apply Kd.LB_drewN | apply Kd.LB_drew)); exact HO283.out) (Kd.R_base ho0) hb); have n2_ := Aside0.mk (Kd.R_lower (Kd.R_new' ho0 (Kd.LB_lt (by (with_reducible repeat (first | apply Kd.LB_alloc | apply Kd.LB_drewN | apply Kd.LB_drew)); exact HO283.out))) (below_size (by repeat (first | (with_reducible first | exact HB.out | apply below_alloc | apply pw_below_drewN | apply below_drew1) | exact HB.out)))); have n3_ := Aside0.mk (below_step (by repeat (first | (with_reducible first | exact HB.out | apply below_alloc | apply pw_below_drewN | apply below_drew1) | exact HB.out)) hb); clear HO280; clear HO283; clear HB; have HO280 := n0_; have HO283 := n1_; have HO286 := n2_; have HB := n3_; clear n0_ n1_ n2_ n3_; (try clear hb); (try clear hb2); (try clear hk); (try clear hi); (try clear ho0); (try clear A13); obtain ⟨Ao24, co24, eo24⟩ := Kd.LB_slice HO283.out; subst eo24) | ((with_reducible refine gate_callee (f := 12) rfl ?_); refine goesL_ (some 46) rfl rfl Tryd.func12 (by kernel_rfl) rfl #[.int .i64 a1, .int .i64 a2, .slice Ao24 t281.length co24] rfl (by (try simp only [List.map_toArray, List.map_cons, List.map_nil]); first | done | rfl | (simp only [List.length_drop, List.length_take]; rfl)) ?_; (with_reducible refine (lay_Far.calls kj5 a1 a2 _ _ t281 t287 _ ?side1 ?side2 A14.out).mono ?_); (case side1 => repeat (first | exact (Kd.LB_reads' HO283.out).2.2 | (with_reducible refine Kd.C_alloc ?_ _) | (with_reducible refine Kd.C_drewN ?_ _) | (with_reducible refine Kd.C_drew ?_))); (case side2 => exact (Kd.LB_reads' HO283.out).2.1); rintro e w25 ⟨v288, rfl, ho0, hb⟩; refine ⟨_, rfl, ?_⟩; have n0_ := Aside0.mk (Kd.LI_elder' (by (with_reducible repeat (first | apply Kd.LI_alloc | apply Kd.LI_drewN | apply Kd.LI_drew)); exact HO280.out) (Kd.R_base ho0) hb); have n1_ := Aside0.mk (Kd.LB_below (by (with_reducible repeat (first | apply Kd.LB_alloc | apply Kd.LB_drewN | apply Kd.LB_drew)); exact HO283.out) hb); have n2_ := Aside0.mk (Kd.R_below (by (with_reducible repeat (first | apply Kd.R_alloc | apply Kd.R_drewN | apply Kd.R_drew)); exact HO286.out) hb); have n3_ := Aside0.mk (Kd.R_lower (Kd.R_new' ho0 (Kd.LI_lt (by (with_reducible repeat (first | apply Kd.LI_alloc | apply Kd.LI_drewN | apply Kd.LI_drew)); exact HO280.out))) (below_size (by repeat (first | (with_reducible first | exact HB.out | apply below_alloc | apply pw_below_drewN | apply below_drew1) | exact HB.out)))); have n4_ := Aside0.mk (below_step (by repeat (first | (with_reducible first | exact HB.out | apply below_alloc | apply pw_below_drewN | apply below_drew1) | exact HB.out)) hb); clear HO280; clear HO283; clear HO286; clear HB; have HO280 := n0_; have HO283 := n1_; have HO286 := n2_; have HO289 := n3_; have HB := n4_; clear n0_ n1_ n2_ n3_ n4_; (try clear hb); (try clear hb2); (try clear hk); (try clear hi); (try clear ho0); (try clear A14)) | ((with_reducible refine gate_callee (f := 13) rfl ?_); refine goesL_ (some 49) rfl rfl Tryd.func13 (by kernel_rfl) rfl #[.int .i64 a0] rfl (by (try simp only [List.map_toArray, List.map_cons, List.map_nil]); first | done | rfl | (simp only [List.length_drop, List.length_take]; rfl)) ?_; (with_reducible refine (lay_Of.calls a0 t290 t291 t292 t293 t294 t295 t296 t297 t298 t299 _ A15.out).mono ?_); rintro e w26 ⟨rfl, hb⟩; refine ⟨_, rfl, ?_⟩; have n0_ := Aside0.mk (Kd.LI_below (by (with_reducible repeat (first | apply Kd.LI_alloc | apply Kd.LI_drewN | apply Kd.LI_drew)); exact HO280.out) hb); have n1_ := Aside0.mk (Kd.LB_below (by (with_reducible repeat (first | apply Kd.LB_alloc | apply Kd.LB_drewN | apply Kd.LB_drew)); exact HO283.out) hb); have n2_ := Aside0.mk (Kd.R_below (by (with_reducible repeat (first | apply Kd.R_alloc | apply Kd.R_drewN | apply Kd.R_drew)); exact HO286.out) hb); have n3_ := Aside0.mk (Kd.R_below (by (with_reducible repeat (first | apply Kd.R_alloc | apply Kd.R_drewN | apply Kd.R_drew)); exact HO289.out) hb); have n4_ := Aside0.mk (below_step (by repeat (first | (with_reducible first | exact HB.out | apply below_alloc | apply pw_below_drewN | apply below_drew1) | exact HB.out)) hb); clear HO280; clear HO283; clear HO286; clear HO289; clear HB; have HO280 := n0_; have HO283 := n1_; have HO286 := n2_; have HO289 := n3_; have HB := n4_; clear n0_ n1_ n2_ n3_ n4_; (try clear hb); (try clear hb2); (try clear hk); (try clear hi); (try clear A15)) | ((with_reducible refine gate_dst (N := 15) rfl ?_); (try (refine gate_guard (by rfl) ?_; dsimp only)); refine box_event ?hg (N := 15) ?hd (cs := #[.int .i64 0, .int .i64 0, .int .i64 0, .int .i64 0, .int .i64 0, .int .i64 0, .int .i64 0, .int .i64 0, .int .i64 0]) (t := 30) ?hr ?_; (case hd => rfl); (case hg => rfl); (case hr => first | (go_simp; done) | (go_simp; rfl)); intro gb300 hg w27 hbox hb; have n0_ := Aside0.mk (Kd.LI_below (by (with_reducible repeat (first | apply Kd.LI_alloc | apply Kd.LI_drewN | apply Kd.LI_drew)); exact HO280.out) hb); have n1_ := Aside0.mk (Kd.LB_below (by (with_reducible repeat (first | apply Kd.LB_alloc | apply Kd.LB_drewN | apply Kd.LB_drew)); exact HO283.out) hb); have n2_ := Aside0.mk (Kd.R_below (by (with_reducible repeat (first | apply Kd.R_alloc | apply Kd.R_drewN | apply Kd.R_drew)); exact HO286.out) hb); have n3_ := Aside0.mk (Kd.R_below (by (with_reducible repeat (first | apply Kd.R_alloc | apply Kd.R_drewN | apply Kd.R_drew)); exact HO289.out) hb); have n4_ := Aside0.mk (below_step (by repeat (first | (with_reducible first | exact HB.out | apply below_alloc | apply pw_below_drewN | apply below_drew1) | exact HB.out)) hb); have n5_ := Aside0.mk (hbox); have n6_ := Aside0.mk ((by rw [hg]; exact (below_size (by repeat (first | (with_reducible first | exact HB.out | apply below_alloc | apply pw_below_drewN | apply below_drew1) | exact HB.out))) : w.heap.size ≤ gb300)); have n7_ := Aside0.mk ((by rw [hg]; exact (below_size (by repeat (first | (with_reducible first | exact HB.out | apply below_alloc | apply pw_below_drewN | apply below_drew1) | exact HB.out))) : w.heap.size ≤ gb300)); clear HO280; clear HO283; clear HO286; clear HO289; clear HB; have HO280 := n0_; have HO283 := n1_; have HO286 := n2_; have HO289 := n3_; have HB := n4_; have BK300 := n5_; have GW300 := n6_; have GE300 := n7_; clear n0_ n1_ n2_ n3_ n4_ n5_ n6_ n7_; clear hb hbox hg; have hcz28_0 : w27.cell? ⟨gb300, 0, none⟩ = some (.int .i64 0) := (blk_cell BK300.out 0).trans rfl; have hcz28_1 : w27.cell? ⟨gb300, 1, none⟩ = some (.int .i64 0) := (blk_cell BK300.out 1).trans rfl; have hcz28_2 : w27.cell? ⟨gb300, 2, none⟩ = some (.int .i64 0) := (blk_cell BK300.out 2).trans rfl; have hcz28_3 : w27.cell? ⟨gb300, 3, none⟩ = some (.int .i64 0) := (blk_cell BK300.out 3).trans rfl; have hcz28_4 : w27.cell? ⟨gb300, 4, none⟩ = some (.int .i64 0) := (blk_cell BK300.out 4).trans rfl; have hcz28_5 : w27.cell? ⟨gb300, 5, none⟩ = some (.int .i64 0) := (blk_cell BK300.out 5).trans rfl; have hcz28_6 : w27.cell? ⟨gb300, 6, none⟩ = some (.int .i64 0) := (blk_cell BK300.out 6).trans rfl; have hcz28_7 : w27.cell? ⟨gb300, 7, none⟩ = some (.int .i64 0) := (blk_cell BK300.out 7).trans rfl; have hcz28_8 : w27.cell? ⟨gb300, 8, none⟩ = some (.int .i64 0) := (blk_cell BK300.out 8).trans rfl; have hfz28_0 := blk_frozen BK300.out 0; have hfz28_1 := blk_frozen BK300.out 1; have hfz28_2 := blk_frozen BK300.out 2; have hfz28_3 := blk_frozen BK300.out 3; have hfz28_4 := blk_frozen BK300.out 4; have hfz28_5 := blk_frozen BK300.out 5; have hfz28_6 := blk_frozen BK300.out 6; have hfz28_7 := blk_frozen BK300.out 7; have hfz28_8 := blk_frozen BK300.out 8) | ((with_reducible refine gate_callee (f := 14) rfl ?_); refine goesL_ (some 54) rfl rfl Tryd.func14 (by kernel_rfl) rfl #[.int .i64 a0] rfl (by (try simp only [List.map_toArray, List.map_cons, List.map_nil]); first | done | rfl | (simp only [List.length_drop, List.length_take]; rfl)) ?_; (with_reducible refine (chatelaineref11_Of.calls a0 t301 t302 t303 t304 t305 t306 t307 t308 t309 t310 _ A16.out).mono ?_); rintro e w29 ⟨rfl, hb⟩; refine ⟨_, rfl, ?_⟩; have n0_ := Aside0.mk (Kd.LI_below (by (with_reducible repeat (first | apply Kd.LI_alloc | apply Kd.LI_drewN | apply Kd.LI_drew)); exact (Kd.LI_mono (Kd.LI_far (p := ⟨gb300, 8, none⟩) (Kd.LI_far (p := ⟨gb300, 7, none⟩) (Kd.LI_far (p := ⟨gb300, 6, none⟩) (Kd.LI_far (p := ⟨gb300, 5, none⟩) (Kd.LI_far (p := ⟨gb300, 4, none⟩) (Kd.LI_far (p := ⟨gb300, 3, none⟩) (Kd.LI_far (p := ⟨gb300, 2, none⟩) (Kd.LI_far (p := ⟨gb300, 1, none⟩) (Kd.LI_far (p := ⟨gb300, 0, none⟩) (Kd.LI_types HO280.out BK300.out (by decide)) (fun _ hk => hk.2) (.int .i64 t290)) (fun _ hk => hk.2) (.int .i64 t291)) (fun _ hk => hk.2) (.int .i64 t292)) (fun _ hk => hk.2) (.int .i64 t293)) (fun _ hk => hk.2) (.int .i64 t294)) (fun _ hk => hk.2) (.int .i64 t295)) (fun _ hk => hk.2) (.int .i64 t296)) (fun _ hk => hk.2) (.int .i64 t297)) (fun _ hk => hk.2) (.int .i64 t298)) (fun _ h_ => h_.1))) hb); have n1_ := Aside0.mk (Kd.LB_below (by (with_reducible repeat (first | apply Kd.LB_alloc | apply Kd.LB_drewN | apply Kd.LB_drew)); exact (Kd.LB_mono (Kd.LB_far (p := ⟨gb300, 8, none⟩) (Kd.LB_far (p := ⟨gb300, 7, none⟩) (Kd.LB_far (p := ⟨gb300, 6, none⟩) (Kd.LB_far (p := ⟨gb300, 5, none⟩) (Kd.LB_far (p := ⟨gb300, 4, none⟩) (Kd.LB_far (p := ⟨gb300, 3, none⟩) (Kd.LB_far (p := ⟨gb300, 2, none⟩) (Kd.LB_far (p := ⟨gb300, 1, none⟩) (Kd.LB_far (p := ⟨gb300, 0, none⟩) (Kd.LB_types HO283.out BK300.out (by decide)) (fun _ hk => hk.2) (.int .i64 t290)) (fun _ hk => hk.2) (.int .i64 t291)) (fun _ hk => hk.2) (.int .i64 t292)) (fun _ hk => hk.2) (.int .i64 t293)) (fun _ hk => hk.2) (.int .i64 t294)) (fun _ hk => hk.2) (.int .i64 t295)) (fun _ hk => hk.2) (.int .i64 t296)) (fun _ hk => hk.2) (.int .i64 t297)) (fun _ hk => hk.2) (.int .i64 t298)) (fun _ h_ => h_.1))) hb); have n2_ := Aside0.mk (Kd.R_below (by (with_reducible repeat (first | apply Kd.R_alloc | apply Kd.R_drewN | apply Kd.R_drew)); exact (Kd.R_mono (Kd.R_far (p := ⟨gb300, 8, none⟩) (Kd.R_far (p := ⟨gb300, 7, none⟩) (Kd.R_far (p := ⟨gb300, 6, none⟩) (Kd.R_far (p := ⟨gb300, 5, none⟩) (Kd.R_far (p := ⟨gb300, 4, none⟩) (Kd.R_far (p := ⟨gb300, 3, none⟩) (Kd.R_far (p := ⟨gb300, 2, none⟩) (Kd.R_far (p := ⟨gb300, 1, none⟩) (Kd.R_far (p := ⟨gb300, 0, none⟩) (Kd.R_types HO286.out BK300.out (by decide)) (fun _ hk => hk.2) (.int .i64 t290)) (fun _ hk => hk.2) (.int .i64 t291)) (fun _ hk => hk.2) (.int .i64 t292)) (fun _ hk => hk.2) (.int .i64 t293)) (fun _ hk => hk.2) (.int .i64 t294)) (fun _ hk => hk.2) (.int .i64 t295)) (fun _ hk => hk.2) (.int .i64 t296)) (fun _ hk => hk.2) (.int .i64 t297)) (fun _ hk => hk.2) (.int .i64 t298)) (fun _ h_ => h_.1))) hb); have n3_ := Aside0.mk (Kd.R_below (by (with_reducible repeat (first | apply Kd.R_alloc | apply Kd.R_drewN | apply Kd.R_drew)); exact (Kd.R_mono (Kd.R_far (p := ⟨gb300, 8, none⟩) (Kd.R_far (p := ⟨gb300, 7, none⟩) (Kd.R_far (p := ⟨gb300, 6, none⟩) (Kd.R_far (p := ⟨gb300, 5, none⟩) (Kd.R_far (p := ⟨gb300, 4, none⟩) (Kd.R_far (p := ⟨gb300, 3, none⟩) (Kd.R_far (p := ⟨gb300, 2, none⟩) (Kd.R_far (p := ⟨gb300, 1, none⟩) (Kd.R_far (p := ⟨gb300, 0, none⟩) (Kd.R_types HO289.out BK300.out (by decide)) (fun _ hk => hk.2) (.int .i64 t290)) (fun _ hk => hk.2) (.int .i64 t291)) (fun _ hk => hk.2) (.int .i64 t292)) (fun _ hk => hk.2) (.int .i64 t293)) (fun _ hk => hk.2) (.int .i64 t294)) (fun _ hk => hk.2) (.int .i64 t295)) (fun _ hk => hk.2) (.int .i64 t296)) (fun _ hk => hk.2) (.int .i64 t297)) (fun _ hk => hk.2) (.int .i64 t298)) (fun _ h_ => h_.1))) hb); have n4_ := Aside0.mk (blk_below (g := gb300) (o := .cells #[.int .i64 t290, .int .i64 t291, .int .i64 t292, .int .i64 t293, .int .i64 t294, .int .i64 t295, .int .i64 t296, .int .i64 t297, .int .i64 t298] 30 (0, 0)) (by (with_reducible repeat (first | refine blk_drewN ?_ _ | refine blk_drew ?_ | refine blk_alloc ?_ _)); refine blk_put (cs := #[.int .i64 t290, .int .i64 t291, .int .i64 t292, .int .i64 t293, .int .i64 t294, .int .i64 t295, .int .i64 t296, .int .i64 t297, .int .i64 0]) ?_ 8 _ rfl; (with_reducible repeat (first | refine blk_drewN ?_ _ | refine blk_drew ?_ | refine blk_alloc ?_ _)); refine blk_put (cs := #[.int .i64 t290, .int .i64 t291, .int .i64 t292, .int .i64 t293, .int .i64 t294, .int .i64 t295, .int .i64 t296, .int .i64 0, .int .i64 0]) ?_ 7 _ rfl; (with_reducible repeat (first | refine blk_drewN ?_ _ | refine blk_drew ?_ | refine blk_alloc ?_ _)); refine blk_put (cs := #[.int .i64 t290, .int .i64 t291, .int .i64 t292, .int .i64 t293, .int .i64 t294, .int .i64 t295, .int .i64 0, .int .i64 0, .int .i64 0]) ?_ 6 _ rfl; (with_reducible repeat (first | refine blk_drewN ?_ _ | refine blk_drew ?_ | refine blk_alloc ?_ _)); refine blk_put (cs := #[.int .i64 t290, .int .i64 t291, .int .i64 t292, .int .i64 t293, .int .i64 t294, .int .i64 0, .int .i64 0, .int .i64 0, .int .i64 0]) ?_ 5 _ rfl; (with_reducible repeat (first | refine blk_drewN ?_ _ | refine blk_drew ?_ | refine blk_alloc ?_ _)); refine blk_put (cs := #[.int .i64 t290, .int .i64 t291, .int .i64 t292, .int .i64 t293, .int .i64 0, .int .i64 0, .int .i64 0, .int .i64 0, .int .i64 0]) ?_ 4 _ rfl; (with_reducible repeat (first | refine blk_drewN ?_ _ | refine blk_drew ?_ | refine blk_alloc ?_ _)); refine blk_put (cs := #[.int .i64 t290, .int .i64 t291, .int .i64 t292, .int .i64 0, .int .i64 0, .int .i64 0, .int .i64 0, .int .i64 0, .int .i64 0]) ?_ 3 _ rfl; (with_reducible repeat (first | refine blk_drewN ?_ _ | refine blk_drew ?_ | refine blk_alloc ?_ _)); refine blk_put (cs := #[.int .i64 t290, .int .i64 t291, .int .i64 0, .int .i64 0, .int .i64 0, .int .i64 0, .int .i64 0, .int .i64 0, .int .i64 0]) ?_ 2 _ rfl; (with_reducible repeat (first | refine blk_drewN ?_ _ | refine blk_drew ?_ | refine blk_alloc ?_ _)); refine blk_put (cs := #[.int .i64 t290, .int .i64 0, .int .i64 0, .int .i64 0, .int .i64 0, .int .i64 0, .int .i64 0, .int .i64 0, .int .i64 0]) ?_ 1 _ rfl; (with_reducible repeat (first | refine blk_drewN ?_ _ | refine blk_drew ?_ | refine blk_alloc ?_ _)); refine blk_put (cs := #[.int .i64 0, .int .i64 0, .int .i64 0, .int .i64 0, .int .i64 0, .int .i64 0, .int .i64 0, .int .i64 0, .int .i64 0]) ?_ 0 _ rfl; (with_reducible repeat (first | refine blk_drewN ?_ _ | refine blk_drew ?_ | refine blk_alloc ?_ _)); exact BK300.out) hb); have n5_ := Aside0.mk (below_step (by repeat (first | (with_reducible first | exact HB.out | apply below_alloc | apply pw_below_drewN | apply below_drew1 | refine below_set ?_ GE300.out) | exact HB.out)) hb); clear HO280; clear HO283; clear HO286; clear HO289; clear BK300; clear HB; have HO280 := n0_; have HO283 := n1_; have HO286 := n2_; have HO289 := n3_; have BK300 := n4_; have HB := n5_; clear n0_ n1_ n2_ n3_ n4_ n5_; (try clear hb); (try clear hb2); (try clear hk); (try clear hi); (try clear A16)) | ((with_reducible refine gate_dst (N := 17) rfl ?_); (try (refine gate_guard (by rfl) ?_; dsimp only)); refine box_event ?hg (N := 17) ?hd (cs := #[.int .i64 0, .int .i64 0, .int .i64 0, .int .i64 0, .int .i64 0, .int .i64 0, .int .i64 0, .int .i64 0, .int .i64 0]) (t := 33) ?hr ?_; (case hd => rfl); (case hg => rfl); (case hr => first | (go_simp; done) | (go_simp; rfl)); intro gb311 hg w30 hbox hb; have n0_ := Aside0.mk (Kd.LI_below (by (with_reducible repeat (first | apply Kd.LI_alloc | apply Kd.LI_drewN | apply Kd.LI_drew)); exact HO280.out) hb); have n1_ := Aside0.mk (Kd.LB_below (by (with_reducible repeat (first | apply Kd.LB_alloc | apply Kd.LB_drewN | apply Kd.LB_drew)); exact HO283.out) hb); have n2_ := Aside0.mk (Kd.R_below (by (with_reducible repeat (first | apply Kd.R_alloc | apply Kd.R_drewN | apply Kd.R_drew)); exact HO286.out) hb); have n3_ := Aside0.mk (Kd.R_below (by (with_reducible repeat (first | apply Kd.R_alloc | apply Kd.R_drewN | apply Kd.R_drew)); exact HO289.out) hb); have n4_ := Aside0.mk (blk_below (g := gb300) (o := .cells #[.int .i64 t290, .int .i64 t291, .int .i64 t292, .int .i64 t293, .int .i64 t294, .int .i64 t295, .int .i64 t296, .int .i64 t297, .int .i64 t298] 30 (0, 0)) (by (with_reducible repeat (first | refine blk_drewN ?_ _ | refine blk_drew ?_ | refine blk_alloc ?_ _)); exact BK300.out) hb); have n5_ := Aside0.mk (below_step (by repeat (first | (with_reducible first | exact HB.out | apply below_alloc | apply pw_below_drewN | apply below_drew1 | refine below_set ?_ GE300.out) | exact HB.out)) hb); have n6_ := Aside0.mk (hbox); have n7_ := Aside0.mk ((by rw [hg]; exact (below_size (by repeat (first | (with_reducible first | exact HB.out | apply below_alloc | apply pw_below_drewN | apply below_drew1 | refine below_set ?_ GE300.out) | exact HB.out))) : w.heap.size ≤ gb311)); have n8_ := Aside0.mk ((by rw [hg]; exact (below_size (by repeat (first | (with_reducible first | exact HB.out | apply below_alloc | apply pw_below_drewN | apply below_drew1 | refine below_set ?_ GE300.out) | exact HB.out))) : w.heap.size ≤ gb311)); have n9_ := Aside0.mk ((by rw [hg]; exact Nat.ne_of_lt (blk_lt (g := gb300) (o := .cells #[.int .i64 t290, .int .i64 t291, .int .i64 t292, .int .i64 t293, .int .i64 t294, .int .i64 t295, .int .i64 t296, .int .i64 t297, .int .i64 t298] 30 (0, 0)) (by (with_reducible repeat (first | refine blk_drewN ?_ _ | refine blk_drew ?_ | refine blk_alloc ?_ _)); exact BK300.out)) : gb300 ≠ gb311)); have n10_ := Aside0.mk ((by rw [hg]; exact Nat.ne_of_gt (blk_lt (g := gb300) (o := .cells #[.int .i64 t290, .int .i64 t291, .int .i64 t292, .int .i64 t293, .int .i64 t294, .int .i64 t295, .int .i64 t296, .int .i64 t297, .int .i64 t298] 30 (0, 0)) (by (with_reducible repeat (first | refine blk_drewN ?_ _ | refine blk_drew ?_ | refine blk_alloc ?_ _)); exact BK300.out)) : gb311 ≠ gb300)); clear HO280; clear HO283; clear HO286; clear HO289; clear BK300; clear HB; have HO280 := n0_; have HO283 := n1_; have HO286 := n2_; have HO289 := n3_; have BK300 := n4_; have HB := n5_; have BK311 := n6_; have GW311 := n7_; have GE311 := n8_; have NB300_311 := n9_; have NB311_300 := n10_; clear n0_ n1_ n2_ n3_ n4_ n5_ n6_ n7_ n8_ n9_ n10_; clear hb hbox hg; have hnb31 := NB311_300.out; have hnc31 := NB300_311.out; have hcz32_0 : w30.cell? ⟨gb311, 0, none⟩ = some (.int .i64 0) := (blk_cell BK311.out 0).trans rfl; have hcz32_1 : w30.cell? ⟨gb311, 1, none⟩ = some (.int .i64 0) := (blk_cell BK311.out 1).trans rfl; have hcz32_2 : w30.cell? ⟨gb311, 2, none⟩ = some (.int .i64 0) := (blk_cell BK311.out 2).trans rfl; have hcz32_3 : w30.cell? ⟨gb311, 3, none⟩ = some (.int .i64 0) := (blk_cell BK311.out 3).trans rfl; have hcz32_4 : w30.cell? ⟨gb311, 4, none⟩ = some (.int .i64 0) := (blk_cell BK311.out 4).trans rfl; have hcz32_5 : w30.cell? ⟨gb311, 5, none⟩ = some (.int .i64 0) := (blk_cell BK311.out 5).trans rfl; have hcz32_6 : w30.cell? ⟨gb311, 6, none⟩ = some (.int .i64 0) := (blk_cell BK311.out 6).trans rfl; have hcz32_7 : w30.cell? ⟨gb311, 7, none⟩ = some (.int .i64 0) := (blk_cell BK311.out 7).trans rfl; have hcz32_8 : w30.cell? ⟨gb311, 8, none⟩ = some (.int .i64 0) := (blk_cell BK311.out 8).trans rfl; have hfz32_0 := blk_frozen BK311.out 0; have hfz32_1 := blk_frozen BK311.out 1; have hfz32_2 := blk_frozen BK311.out 2; have hfz32_3 := blk_frozen BK311.out 3; have hfz32_4 := blk_frozen BK311.out 4; have hfz32_5 := blk_frozen BK311.out 5; have hfz32_6 := blk_frozen BK311.out 6; have hfz32_7 := blk_frozen BK311.out 7; have hfz32_8 := blk_frozen BK311.out 8) | ((with_reducible refine gate_callee (f := 15) rfl ?_); refine goesL_ (some 59) rfl rfl Tryd.func15 (by kernel_rfl) rfl #[.int .i64 a0] rfl (by (try simp only [List.map_toArray, List.map_cons, List.map_nil]); first | done | rfl | (simp only [List.length_drop, List.length_take]; rfl)) ?_; (with_reducible refine (lay_Sizes.calls kj5 a0 t312 t313 t314 _ A17.out).mono ?_); rintro e w33 ⟨rfl, hb⟩; refine ⟨_, rfl, ?_⟩; have n0_ := Aside0.mk (Kd.LI_below (by (with_reducible repeat (first | apply Kd.LI_alloc | apply Kd.LI_drewN | apply Kd.LI_drew)); exact (Kd.LI_mono (Kd.LI_far (p := ⟨gb311, 8, none⟩) (Kd.LI_far (p := ⟨gb311, 7, none⟩) (Kd.LI_far (p := ⟨gb311, 6, none⟩) (Kd.LI_far (p := ⟨gb311, 5, none⟩) (Kd.LI_far (p := ⟨gb311, 4, none⟩) (Kd.LI_far (p := ⟨gb311, 3, none⟩) (Kd.LI_far (p := ⟨gb311, 2, none⟩) (Kd.LI_far (p := ⟨gb311, 1, none⟩) (Kd.LI_far (p := ⟨gb311, 0, none⟩) (Kd.LI_types HO280.out BK311.out (by decide)) (fun _ hk => hk.2) (.int .i64 t301)) (fun _ hk => hk.2) (.int .i64 t302)) (fun _ hk => hk.2) (.int .i64 t303)) (fun _ hk => hk.2) (.int .i64 t304)) (fun _ hk => hk.2) (.int .i64 t305)) (fun _ hk => hk.2) (.int .i64 t306)) (fun _ hk => hk.2) (.int .i64 t307)) (fun _ hk => hk.2) (.int .i64 t308)) (fun _ hk => hk.2) (.int .i64 t309)) (fun _ h_ => h_.1))) hb); have n1_ := Aside0.mk (Kd.LB_below (by (with_reducible repeat (first | apply Kd.LB_alloc | apply Kd.LB_drewN | apply Kd.LB_drew)); exact (Kd.LB_mono (Kd.LB_far (p := ⟨gb311, 8, none⟩) (Kd.LB_far (p := ⟨gb311, 7, none⟩) (Kd.LB_far (p := ⟨gb311, 6, none⟩) (Kd.LB_far (p := ⟨gb311, 5, none⟩) (Kd.LB_far (p := ⟨gb311, 4, none⟩) (Kd.LB_far (p := ⟨gb311, 3, none⟩) (Kd.LB_far (p := ⟨gb311, 2, none⟩) (Kd.LB_far (p := ⟨gb311, 1, none⟩) (Kd.LB_far (p := ⟨gb311, 0, none⟩) (Kd.LB_types HO283.out BK311.out (by decide)) (fun _ hk => hk.2) (.int .i64 t301)) (fun _ hk => hk.2) (.int .i64 t302)) (fun _ hk => hk.2) (.int .i64 t303)) (fun _ hk => hk.2) (.int .i64 t304)) (fun _ hk => hk.2) (.int .i64 t305)) (fun _ hk => hk.2) (.int .i64 t306)) (fun _ hk => hk.2) (.int .i64 t307)) (fun _ hk => hk.2) (.int .i64 t308)) (fun _ hk => hk.2) (.int .i64 t309)) (fun _ h_ => h_.1))) hb); have n2_ := Aside0.mk (Kd.R_below (by (with_reducible repeat (first | apply Kd.R_alloc | apply Kd.R_drewN | apply Kd.R_drew)); exact (Kd.R_mono (Kd.R_far (p := ⟨gb311, 8, none⟩) (Kd.R_far (p := ⟨gb311, 7, none⟩) (Kd.R_far (p := ⟨gb311, 6, none⟩) (Kd.R_far (p := ⟨gb311, 5, none⟩) (Kd.R_far (p := ⟨gb311, 4, none⟩) (Kd.R_far (p := ⟨gb311, 3, none⟩) (Kd.R_far (p := ⟨gb311, 2, none⟩) (Kd.R_far (p := ⟨gb311, 1, none⟩) (Kd.R_far (p := ⟨gb311, 0, none⟩) (Kd.R_types HO286.out BK311.out (by decide)) (fun _ hk => hk.2) (.int .i64 t301)) (fun _ hk => hk.2) (.int .i64 t302)) (fun _ hk => hk.2) (.int .i64 t303)) (fun _ hk => hk.2) (.int .i64 t304)) (fun _ hk => hk.2) (.int .i64 t305)) (fun _ hk => hk.2) (.int .i64 t306)) (fun _ hk => hk.2) (.int .i64 t307)) (fun _ hk => hk.2) (.int .i64 t308)) (fun _ hk => hk.2) (.int .i64 t309)) (fun _ h_ => h_.1))) hb); have n3_ := Aside0.mk (Kd.R_below (by (with_reducible repeat (first | apply Kd.R_alloc | apply Kd.R_drewN | apply Kd.R_drew)); exact (Kd.R_mono (Kd.R_far (p := ⟨gb311, 8, none⟩) (Kd.R_far (p := ⟨gb311, 7, none⟩) (Kd.R_far (p := ⟨gb311, 6, none⟩) (Kd.R_far (p := ⟨gb311, 5, none⟩) (Kd.R_far (p := ⟨gb311, 4, none⟩) (Kd.R_far (p := ⟨gb311, 3, none⟩) (Kd.R_far (p := ⟨gb311, 2, none⟩) (Kd.R_far (p := ⟨gb311, 1, none⟩) (Kd.R_far (p := ⟨gb311, 0, none⟩) (Kd.R_types HO289.out BK311.out (by decide)) (fun _ hk => hk.2) (.int .i64 t301)) (fun _ hk => hk.2) (.int .i64 t302)) (fun _ hk => hk.2) (.int .i64 t303)) (fun _ hk => hk.2) (.int .i64 t304)) (fun _ hk => hk.2) (.int .i64 t305)) (fun _ hk => hk.2) (.int .i64 t306)) (fun _ hk => hk.2) (.int .i64 t307)) (fun _ hk => hk.2) (.int .i64 t308)) (fun _ hk => hk.2) (.int .i64 t309)) (fun _ h_ => h_.1))) hb); have n4_ := Aside0.mk (blk_below (g := gb300) (o := .cells #[.int .i64 t290, .int .i64 t291, .int .i64 t292, .int .i64 t293, .int .i64 t294, .int .i64 t295, .int .i64 t296, .int .i64 t297, .int .i64 t298] 30 (0, 0)) (by (with_reducible repeat (first | refine blk_drewN ?_ _ | refine blk_drew ?_ | refine blk_alloc ?_ _)); refine blk_far ?_ NB300_311.out _; (with_reducible repeat (first | refine blk_drewN ?_ _ | refine blk_drew ?_ | refine blk_alloc ?_ _)); refine blk_far ?_ NB300_311.out _; (with_reducible repeat (first | refine blk_drewN ?_ _ | refine blk_drew ?_ | refine blk_alloc ?_ _)); refine blk_far ?_ NB300_311.out _; (with_reducible repeat (first | refine blk_drewN ?_ _ | refine blk_drew ?_ | refine blk_alloc ?_ _)); refine blk_far ?_ NB300_311.out _; (with_reducible repeat (first | refine blk_drewN ?_ _ | refine blk_drew ?_ | refine blk_alloc ?_ _)); refine blk_far ?_ NB300_311.out _; (with_reducible repeat (first | refine blk_drewN ?_ _ | refine blk_drew ?_ | refine blk_alloc ?_ _)); refine blk_far ?_ NB300_311.out _; (with_reducible repeat (first | refine blk_drewN ?_ _ | refine blk_drew ?_ | refine blk_alloc ?_ _)); refine blk_far ?_ NB300_311.out _; (with_reducible repeat (first | refine blk_drewN ?_ _ | refine blk_drew ?_ | refine blk_alloc ?_ _)); refine blk_far ?_ NB300_311.out _; (with_reducible repeat (first | refine blk_drewN ?_ _ | refine blk_drew ?_ | refine blk_alloc ?_ _)); refine blk_far ?_ NB300_311.out _; (with_reducible repeat (first | refine blk_drewN ?_ _ | refine blk_drew ?_ | refine blk_alloc ?_ _)); exact BK300.out) hb); have n5_ := Aside0.mk (blk_below (g := gb311) (o := .cells #[.int .i64 t301, .int .i64 t302, .int .i64 t303, .int .i64 t304, .int .i64 t305, .int .i64 t306, .int .i64 t307, .int .i64 t308, .int .i64 t309] 33 (0, 0)) (by (with_reducible repeat (first | refine blk_drewN ?_ _ | refine blk_drew ?_ | refine blk_alloc ?_ _)); refine blk_put (cs := #[.int .i64 t301, .int .i64 t302, .int .i64 t303, .int .i64 t304, .int .i64 t305, .int .i64 t306, .int .i64 t307, .int .i64 t308, .int .i64 0]) ?_ 8 _ rfl; (with_reducible repeat (first | refine blk_drewN ?_ _ | refine blk_drew ?_ | refine blk_alloc ?_ _)); refine blk_put (cs := #[.int .i64 t301, .int .i64 t302, .int .i64 t303, .int .i64 t304, .int .i64 t305, .int .i64 t306, .int .i64 t307, .int .i64 0, .int .i64 0]) ?_ 7 _ rfl; (with_reducible repeat (first | refine blk_drewN ?_ _ | refine blk_drew ?_ | refine blk_alloc ?_ _)); refine blk_put (cs := #[.int .i64 t301, .int .i64 t302, .int .i64 t303, .int .i64 t304, .int .i64 t305, .int .i64 t306, .int .i64 0, .int .i64 0, .int .i64 0]) ?_ 6 _ rfl; (with_reducible repeat (first | refine blk_drewN ?_ _ | refine blk_drew ?_ | refine blk_alloc ?_ _)); refine blk_put (cs := #[.int .i64 t301, .int .i64 t302, .int .i64 t303, .int .i64 t304, .int .i64 t305, .int .i64 0, .int .i64 0, .int .i64 0, .int .i64 0]) ?_ 5 _ rfl; (with_reducible repeat (first | refine blk_drewN ?_ _ | refine blk_drew ?_ | refine blk_alloc ?_ _)); refine blk_put (cs := #[.int .i64 t301, .int .i64 t302, .int .i64 t303, .int .i64 t304, .int .i64 0, .int .i64 0, .int .i64 0, .int .i64 0, .int .i64 0]) ?_ 4 _ rfl; (with_reducible repeat (first | refine blk_drewN ?_ _ | refine blk_drew ?_ | refine blk_alloc ?_ _)); refine blk_put (cs := #[.int .i64 t301, .int .i64 t302, .int .i64 t303, .int .i64 0, .int .i64 0, .int .i64 0, .int .i64 0, .int .i64 0, .int .i64 0]) ?_ 3 _ rfl; (with_reducible repeat (first | refine blk_drewN ?_ _ | refine blk_drew ?_ | refine blk_alloc ?_ _)); refine blk_put (cs := #[.int .i64 t301, .int .i64 t302, .int .i64 0, .int .i64 0, .int .i64 0, .int .i64 0, .int .i64 0, .int .i64 0, .int .i64 0]) ?_ 2 _ rfl; (with_reducible repeat (first | refine blk_drewN ?_ _ | refine blk_drew ?_ | refine blk_alloc ?_ _)); refine blk_put (cs := #[.int .i64 t301, .int .i64 0, .int .i64 0, .int .i64 0, .int .i64 0, .int .i64 0, .int .i64 0, .int .i64 0, .int .i64 0]) ?_ 1 _ rfl; (with_reducible repeat (first | refine blk_drewN ?_ _ | refine blk_drew ?_ | refine blk_alloc ?_ _)); refine blk_put (cs := #[.int .i64 0, .int .i64 0, .int .i64 0, .int .i64 0, .int .i64 0, .int .i64 0, .int .i64 0, .int .i64 0, .int .i64 0]) ?_ 0 _ rfl; (with_reducible repeat (first | refine blk_drewN ?_ _ | refine blk_drew ?_ | refine blk_alloc ?_ _)); exact BK311.out) hb); have n6_ := Aside0.mk (below_step (by repeat (first | (with_reducible first | exact HB.out | apply below_alloc | apply pw_below_drewN | apply below_drew1 | refine below_set ?_ GE300.out | refine below_set ?_ GE311.out) | exact HB.out)) hb); clear HO280; clear HO283; clear HO286; clear HO289; clear BK300; clear BK311; clear HB; have HO280 := n0_; have HO283 := n1_; have HO286 := n2_; have HO289 := n3_; have BK300 := n4_; have BK311 := n5_; have HB := n6_; clear n0_ n1_ n2_ n3_ n4_ n5_ n6_; (try clear hb); (try clear hb2); (try clear hk); (try clear hi); (try clear A17)) | ((with_reducible refine gate_callee (f := 16) rfl ?_); refine goesL_ (some 65) rfl rfl Tryd.func16 (by kernel_rfl) rfl #[.int .i64 a0] rfl (by (try simp only [List.map_toArray, List.map_cons, List.map_nil]); first | done | rfl | (simp only [List.length_drop, List.length_take]; rfl)) ?_; (with_reducible refine (chatelaineref11_Sizes.calls a0 t315 t316 t317 _ A18.out).mono ?_); rintro e w34 ⟨rfl, hb⟩; refine ⟨_, rfl, ?_⟩; have n0_ := Aside0.mk (Kd.LI_below (by (with_reducible repeat (first | apply Kd.LI_alloc | apply Kd.LI_drewN | apply Kd.LI_drew)); exact HO280.out) hb); have n1_ := Aside0.mk (Kd.LB_below (by (with_reducible repeat (first | apply Kd.LB_alloc | apply Kd.LB_drewN | apply Kd.LB_drew)); exact HO283.out) hb); have n2_ := Aside0.mk (Kd.R_below (by (with_reducible repeat (first | apply Kd.R_alloc | apply Kd.R_drewN | apply Kd.R_drew)); exact HO286.out) hb); have n3_ := Aside0.mk (Kd.R_below (by (with_reducible repeat (first | apply Kd.R_alloc | apply Kd.R_drewN | apply Kd.R_drew)); exact HO289.out) hb); have n4_ := Aside0.mk (blk_below (g := gb300) (o := .cells #[.int .i64 t290, .int .i64 t291, .int .i64 t292, .int .i64 t293, .int .i64 t294, .int .i64 t295, .int .i64 t296, .int .i64 t297, .int .i64 t298] 30 (0, 0)) (by (with_reducible repeat (first | refine blk_drewN ?_ _ | refine blk_drew ?_ | refine blk_alloc ?_ _)); exact BK300.out) hb); have n5_ := Aside0.mk (blk_below (g := gb311) (o := .cells #[.int .i64 t301, .int .i64 t302, .int .i64 t303, .int .i64 t304, .int .i64 t305, .int .i64 t306, .int .i64 t307, .int .i64 t308, .int .i64 t309] 33 (0, 0)) (by (with_reducible repeat (first | refine blk_drewN ?_ _ | refine blk_drew ?_ | refine blk_alloc ?_ _)); exact BK311.out) hb); have n6_ := Aside0.mk (below_step (by repeat (first | (with_reducible first | exact HB.out | apply below_alloc | apply pw_below_drewN | apply below_drew1 | refine below_set ?_ GE300.out | refine below_set ?_ GE311.out) | exact HB.out)) hb); clear HO280; clear HO283; clear HO286; clear HO289; clear BK300; clear BK311; clear HB; have HO280 := n0_; have HO283 := n1_; have HO286 := n2_; have HO289 := n3_; have BK300 := n4_; have BK311 := n5_; have HB := n6_; clear n0_ n1_ n2_ n3_ n4_ n5_ n6_; (try clear hb); (try clear hb2); (try clear hk); (try clear hi); (try clear A18)))
        (try simp only [Act.put, List.setIfInBounds_toArray, List.set_cons_zero, List.set_cons_succ])
        go_cut [25] (fun v25 wc => ∃ (kq : Nat) (x25_18 : Bool), v25 = .bool x25_18 ∧ Aside0 (chatelainelaw11_LayNear.j1 kq l3 l4 t278 t281 t284 t287 x25_18 = some r) ∧ Aside0 (kq ≤ kj5) ∧ Aside0 (Kd.LI (Kd.int .i64) 3 wc w.heap.size (fun k_ => some k_ ≠ (v288 : Value).ownBlock) (.slice Ao22 t278.length co22) t278) ∧ Aside0 (Kd.LB (Kd.int .u8) 5 wc w.heap.size (fun k_ => some k_ ≠ (v285 : Value).ownBlock) (.slice Ao24 t281.length co24) t281) ∧ Aside0 (Kd.R (Kd.int .u8) 5 wc w.heap.size (fun k_ => some k_ ≠ ((.slice Ao24 t281.length co24) : Value).ownBlock) v285 t284) ∧ Aside0 (Kd.R (Kd.int .i64) 3 wc w.heap.size (fun k_ => some k_ ≠ ((.slice Ao22 t278.length co22) : Value).ownBlock) v288 t287) ∧ Aside0 (wc.heap[gb300]? = some (.cells #[.int .i64 t290, .int .i64 t291, .int .i64 t292, .int .i64 t293, .int .i64 t294, .int .i64 t295, .int .i64 t296, .int .i64 t297, .int .i64 t298] 30 (0, 0))) ∧ Aside0 (wc.heap[gb311]? = some (.cells #[.int .i64 t301, .int .i64 t302, .int .i64 t303, .int .i64 t304, .int .i64 t305, .int .i64 t306, .int .i64 t307, .int .i64 t308, .int .i64 t309] 33 (0, 0))) ∧ Aside0 (Below w.heap.size w wc))
        case first =>
          have H := HC19.out
          clear HC19
          replace H := Option.bind_eq_some_iff.mp H
          obtain ⟨t318, A350, H⟩ := H
          replace H : ((chatelainelaw0_SameBytes.f kj5 t284 t318).bind fun t321 => (if t321 = true then ((chatelaineref11_Far.f kj5 a1 a2 l4).bind fun t322 => ((chatelainelaw0_SameInts.f kj5 t287 t322).bind fun t325 => (if t325 = true then (if (t299 == t310) = true then (if t290 = t301 then (if t291 = t302 then (if t292 = t303 then (if t293 = t304 then (if t294 = t305 then (if t295 = t306 then (if t296 = t307 then (if t297 = t308 then (if t298 = t309 then (if t312 = t315 then (if t313 = t316 then (chatelainelaw11_LayNear.j1 kj5 l3 l4 t278 t281 t284 t287 (t314 == t317)) else (chatelainelaw11_LayNear.j1 kj5 l3 l4 t278 t281 t284 t287 false)) else (chatelainelaw11_LayNear.j1 kj5 l3 l4 t278 t281 t284 t287 false)) else (chatelainelaw11_LayNear.j1 kj5 l3 l4 t278 t281 t284 t287 false)) else (chatelainelaw11_LayNear.j1 kj5 l3 l4 t278 t281 t284 t287 false)) else (chatelainelaw11_LayNear.j1 kj5 l3 l4 t278 t281 t284 t287 false)) else (chatelainelaw11_LayNear.j1 kj5 l3 l4 t278 t281 t284 t287 false)) else (chatelainelaw11_LayNear.j1 kj5 l3 l4 t278 t281 t284 t287 false)) else (chatelainelaw11_LayNear.j1 kj5 l3 l4 t278 t281 t284 t287 false)) else (chatelainelaw11_LayNear.j1 kj5 l3 l4 t278 t281 t284 t287 false)) else (chatelainelaw11_LayNear.j1 kj5 l3 l4 t278 t281 t284 t287 false)) else (chatelainelaw11_LayNear.j1 kj5 l3 l4 t278 t281 t284 t287 false)) else (chatelainelaw11_LayNear.j1 kj5 l3 l4 t278 t281 t284 t287 false)) else (chatelainelaw11_LayNear.j1 kj5 l3 l4 t278 t281 t284 t287 false)))) else (chatelainelaw11_LayNear.j1 kj5 l3 l4 t278 t281 t284 t287 false))) = some r := H
          have A35 := Aside0.mk A350
          clear A350
          replace H := Option.bind_eq_some_iff.mp H
          obtain ⟨t321, A360, H⟩ := H
          replace H : (if t321 = true then ((chatelaineref11_Far.f kj5 a1 a2 l4).bind fun t322 => ((chatelainelaw0_SameInts.f kj5 t287 t322).bind fun t325 => (if t325 = true then (if (t299 == t310) = true then (if t290 = t301 then (if t291 = t302 then (if t292 = t303 then (if t293 = t304 then (if t294 = t305 then (if t295 = t306 then (if t296 = t307 then (if t297 = t308 then (if t298 = t309 then (if t312 = t315 then (if t313 = t316 then (chatelainelaw11_LayNear.j1 kj5 l3 l4 t278 t281 t284 t287 (t314 == t317)) else (chatelainelaw11_LayNear.j1 kj5 l3 l4 t278 t281 t284 t287 false)) else (chatelainelaw11_LayNear.j1 kj5 l3 l4 t278 t281 t284 t287 false)) else (chatelainelaw11_LayNear.j1 kj5 l3 l4 t278 t281 t284 t287 false)) else (chatelainelaw11_LayNear.j1 kj5 l3 l4 t278 t281 t284 t287 false)) else (chatelainelaw11_LayNear.j1 kj5 l3 l4 t278 t281 t284 t287 false)) else (chatelainelaw11_LayNear.j1 kj5 l3 l4 t278 t281 t284 t287 false)) else (chatelainelaw11_LayNear.j1 kj5 l3 l4 t278 t281 t284 t287 false)) else (chatelainelaw11_LayNear.j1 kj5 l3 l4 t278 t281 t284 t287 false)) else (chatelainelaw11_LayNear.j1 kj5 l3 l4 t278 t281 t284 t287 false)) else (chatelainelaw11_LayNear.j1 kj5 l3 l4 t278 t281 t284 t287 false)) else (chatelainelaw11_LayNear.j1 kj5 l3 l4 t278 t281 t284 t287 false)) else (chatelainelaw11_LayNear.j1 kj5 l3 l4 t278 t281 t284 t287 false)) else (chatelainelaw11_LayNear.j1 kj5 l3 l4 t278 t281 t284 t287 false)))) else (chatelainelaw11_LayNear.j1 kj5 l3 l4 t278 t281 t284 t287 false)) = some r := H
          have A36 := Aside0.mk A360
          clear A360
          repeat (first | (go_big_may; go_says (first | ((with_reducible refine gate_callee (f := 18) rfl ?_); refine goesL_ (some 73) rfl rfl Tryd.func18 (by kernel_rfl) rfl #[.int .i64 a1, .int .i64 a2, .slice A3 l3.length c3] rfl (by (try simp only [List.map_toArray, List.map_cons, List.map_nil]); first | done | rfl | (simp only [List.length_drop, List.length_take]; rfl)) ?_; (with_reducible refine (chatelaineref11_Near.calls kj5 a1 a2 _ _ l3 t318 _ ?side1 ?side2 A35.out).mono ?_); (case side1 => repeat (first | exact (Kd.C_below HR3.out HB.out) | (with_reducible refine Kd.C_alloc ?_ _) | (with_reducible refine Kd.C_drewN ?_ _) | (with_reducible refine Kd.C_drew ?_))); (case side2 => exact HC3.out); rintro e w37 ⟨v319, rfl, ho0, hb⟩; refine ⟨_, rfl, ?_⟩; have n0_ := Aside0.mk (Kd.LI_below (by (with_reducible repeat (first | apply Kd.LI_alloc | apply Kd.LI_drewN | apply Kd.LI_drew)); exact HO280.out) hb); have n1_ := Aside0.mk (Kd.LB_elder' (by (with_reducible repeat (first | apply Kd.LB_alloc | apply Kd.LB_drewN | apply Kd.LB_drew)); exact HO283.out) (Kd.R_base ho0) hb); have n2_ := Aside0.mk (Kd.R_elder' (by (with_reducible repeat (first | apply Kd.R_alloc | apply Kd.R_drewN | apply Kd.R_drew)); exact HO286.out) (Kd.R_base ho0) hb); have n3_ := Aside0.mk (Kd.R_below (by (with_reducible repeat (first | apply Kd.R_alloc | apply Kd.R_drewN | apply Kd.R_drew)); exact HO289.out) hb); have n4_ := Aside0.mk (Kd.R_lower (Kd.R_new' (Kd.R_new' ho0 (Kd.LB_lt (by (with_reducible repeat (first | apply Kd.LB_alloc | apply Kd.LB_drewN | apply Kd.LB_drew)); exact HO283.out))) (Kd.R_lt (by (with_reducible repeat (first | apply Kd.R_alloc | apply Kd.R_drewN | apply Kd.R_drew)); exact HO286.out))) (below_size (by repeat (first | (with_reducible first | exact HB.out | apply below_alloc | apply pw_below_drewN | apply below_drew1 | refine below_set ?_ GE300.out | refine below_set ?_ GE311.out) | exact HB.out)))); have n5_ := Aside0.mk (blk_below (g := gb300) (o := .cells #[.int .i64 t290, .int .i64 t291, .int .i64 t292, .int .i64 t293, .int .i64 t294, .int .i64 t295, .int .i64 t296, .int .i64 t297, .int .i64 t298] 30 (0, 0)) (by (with_reducible repeat (first | refine blk_drewN ?_ _ | refine blk_drew ?_ | refine blk_alloc ?_ _)); exact BK300.out) hb); have n6_ := Aside0.mk (blk_below (g := gb311) (o := .cells #[.int .i64 t301, .int .i64 t302, .int .i64 t303, .int .i64 t304, .int .i64 t305, .int .i64 t306, .int .i64 t307, .int .i64 t308, .int .i64 t309] 33 (0, 0)) (by (with_reducible repeat (first | refine blk_drewN ?_ _ | refine blk_drew ?_ | refine blk_alloc ?_ _)); exact BK311.out) hb); have n7_ := Aside0.mk (below_step (by repeat (first | (with_reducible first | exact HB.out | apply below_alloc | apply pw_below_drewN | apply below_drew1 | refine below_set ?_ GE300.out | refine below_set ?_ GE311.out) | exact HB.out)) hb); clear HO280; clear HO283; clear HO286; clear HO289; clear BK300; clear BK311; clear HB; have HO280 := n0_; have HO283 := n1_; have HO286 := n2_; have HO289 := n3_; have HO320 := n4_; have BK300 := n5_; have BK311 := n6_; have HB := n7_; clear n0_ n1_ n2_ n3_ n4_ n5_ n6_ n7_; (try clear hb); (try clear hb2); (try clear hk); (try clear hi); (try clear ho0); (try clear A35); obtain ⟨Ao38, co38, eo38⟩ := Kd.R_slice HO286.out; subst eo38; obtain ⟨Ao39, co39, eo39⟩ := Kd.R_slice HO320.out; subst eo39) | ((with_reducible refine gate_callee (f := 17) rfl ?_); refine goesL_ (some 74) rfl rfl Tryd.func17 (by kernel_rfl) rfl #[.slice Ao38 t284.length co38, .slice Ao39 t318.length co39] rfl (by (try simp only [List.map_toArray, List.map_cons, List.map_nil]); first | done | rfl | (simp only [List.length_drop, List.length_take]; rfl)) ?_; (with_reducible refine (chatelainelaw0_SameBytes.calls kj5 _ _ t284 _ _ t318 t321 _ ?side1 ?side2 ?side3 ?side4 A36.out).mono ?_); (case side1 => repeat (first | exact (Kd.R_reads' HO286.out).2.2 | (with_reducible refine Kd.C_alloc ?_ _) | (with_reducible refine Kd.C_drewN ?_ _) | (with_reducible refine Kd.C_drew ?_))); (case side2 => exact (Kd.R_reads' HO286.out).2.1); (case side3 => repeat (first | exact (Kd.R_reads' HO320.out).2.2 | (with_reducible refine Kd.C_alloc ?_ _) | (with_reducible refine Kd.C_drewN ?_ _) | (with_reducible refine Kd.C_drew ?_))); (case side4 => exact (Kd.R_reads' HO320.out).2.1); rintro e w' ⟨rfl, ⟨nd, rfl⟩⟩; refine ⟨_, rfl, ?_⟩))) | go_values | go_skip | go_guarded | ((with_reducible refine own_cond ?_); (first | refine own_condT rfl ?_ | refine own_condF rfl ?_)) | ((with_reducible refine own_ite ?_); (first | rw [own_iteT] | rw [own_iteF])) | ((fail_if_success (with_reducible refine own_ite ?_)); (fail_if_success (with_reducible refine own_cond ?_)); (first | (go_step; (first | (fail_if_success (with_reducible refine own_upon ?_)) | go_step | go_upon); (fail_if_success ((case' isTrue => skip); (case' isFalse => skip)))) | go_upon | ((with_reducible refine own_upon ?_); go_simp) | dsimp only)))
          as_aux_lemma =>
            by_cases c40 : t321 = true
            · subst c40
              have H1 : ((chatelaineref11_Far.f kj5 a1 a2 l4).bind fun t322 => ((chatelainelaw0_SameInts.f kj5 t287 t322).bind fun t325 => (if t325 = true then (if (t299 == t310) = true then (if t290 = t301 then (if t291 = t302 then (if t292 = t303 then (if t293 = t304 then (if t294 = t305 then (if t295 = t306 then (if t296 = t307 then (if t297 = t308 then (if t298 = t309 then (if t312 = t315 then (if t313 = t316 then (chatelainelaw11_LayNear.j1 kj5 l3 l4 t278 t281 t284 t287 (t314 == t317)) else (chatelainelaw11_LayNear.j1 kj5 l3 l4 t278 t281 t284 t287 false)) else (chatelainelaw11_LayNear.j1 kj5 l3 l4 t278 t281 t284 t287 false)) else (chatelainelaw11_LayNear.j1 kj5 l3 l4 t278 t281 t284 t287 false)) else (chatelainelaw11_LayNear.j1 kj5 l3 l4 t278 t281 t284 t287 false)) else (chatelainelaw11_LayNear.j1 kj5 l3 l4 t278 t281 t284 t287 false)) else (chatelainelaw11_LayNear.j1 kj5 l3 l4 t278 t281 t284 t287 false)) else (chatelainelaw11_LayNear.j1 kj5 l3 l4 t278 t281 t284 t287 false)) else (chatelainelaw11_LayNear.j1 kj5 l3 l4 t278 t281 t284 t287 false)) else (chatelainelaw11_LayNear.j1 kj5 l3 l4 t278 t281 t284 t287 false)) else (chatelainelaw11_LayNear.j1 kj5 l3 l4 t278 t281 t284 t287 false)) else (chatelainelaw11_LayNear.j1 kj5 l3 l4 t278 t281 t284 t287 false)) else (chatelainelaw11_LayNear.j1 kj5 l3 l4 t278 t281 t284 t287 false)) else (chatelainelaw11_LayNear.j1 kj5 l3 l4 t278 t281 t284 t287 false)))) = some r := by rw [if_pos rfl] at H; exact H
              clear H
              have H := H1
              clear H1
              replace H := Option.bind_eq_some_iff.mp H
              obtain ⟨t322, A410, H⟩ := H
              replace H : ((chatelainelaw0_SameInts.f kj5 t287 t322).bind fun t325 => (if t325 = true then (if (t299 == t310) = true then (if t290 = t301 then (if t291 = t302 then (if t292 = t303 then (if t293 = t304 then (if t294 = t305 then (if t295 = t306 then (if t296 = t307 then (if t297 = t308 then (if t298 = t309 then (if t312 = t315 then (if t313 = t316 then (chatelainelaw11_LayNear.j1 kj5 l3 l4 t278 t281 t284 t287 (t314 == t317)) else (chatelainelaw11_LayNear.j1 kj5 l3 l4 t278 t281 t284 t287 false)) else (chatelainelaw11_LayNear.j1 kj5 l3 l4 t278 t281 t284 t287 false)) else (chatelainelaw11_LayNear.j1 kj5 l3 l4 t278 t281 t284 t287 false)) else (chatelainelaw11_LayNear.j1 kj5 l3 l4 t278 t281 t284 t287 false)) else (chatelainelaw11_LayNear.j1 kj5 l3 l4 t278 t281 t284 t287 false)) else (chatelainelaw11_LayNear.j1 kj5 l3 l4 t278 t281 t284 t287 false)) else (chatelainelaw11_LayNear.j1 kj5 l3 l4 t278 t281 t284 t287 false)) else (chatelainelaw11_LayNear.j1 kj5 l3 l4 t278 t281 t284 t287 false)) else (chatelainelaw11_LayNear.j1 kj5 l3 l4 t278 t281 t284 t287 false)) else (chatelainelaw11_LayNear.j1 kj5 l3 l4 t278 t281 t284 t287 false)) else (chatelainelaw11_LayNear.j1 kj5 l3 l4 t278 t281 t284 t287 false)) else (chatelainelaw11_LayNear.j1 kj5 l3 l4 t278 t281 t284 t287 false)) else (chatelainelaw11_LayNear.j1 kj5 l3 l4 t278 t281 t284 t287 false))) = some r := H
              have A41 := Aside0.mk A410
              clear A410
              replace H := Option.bind_eq_some_iff.mp H
              obtain ⟨t325, A420, H⟩ := H
              replace H : (if t325 = true then (if (t299 == t310) = true then (if t290 = t301 then (if t291 = t302 then (if t292 = t303 then (if t293 = t304 then (if t294 = t305 then (if t295 = t306 then (if t296 = t307 then (if t297 = t308 then (if t298 = t309 then (if t312 = t315 then (if t313 = t316 then (chatelainelaw11_LayNear.j1 kj5 l3 l4 t278 t281 t284 t287 (t314 == t317)) else (chatelainelaw11_LayNear.j1 kj5 l3 l4 t278 t281 t284 t287 false)) else (chatelainelaw11_LayNear.j1 kj5 l3 l4 t278 t281 t284 t287 false)) else (chatelainelaw11_LayNear.j1 kj5 l3 l4 t278 t281 t284 t287 false)) else (chatelainelaw11_LayNear.j1 kj5 l3 l4 t278 t281 t284 t287 false)) else (chatelainelaw11_LayNear.j1 kj5 l3 l4 t278 t281 t284 t287 false)) else (chatelainelaw11_LayNear.j1 kj5 l3 l4 t278 t281 t284 t287 false)) else (chatelainelaw11_LayNear.j1 kj5 l3 l4 t278 t281 t284 t287 false)) else (chatelainelaw11_LayNear.j1 kj5 l3 l4 t278 t281 t284 t287 false)) else (chatelainelaw11_LayNear.j1 kj5 l3 l4 t278 t281 t284 t287 false)) else (chatelainelaw11_LayNear.j1 kj5 l3 l4 t278 t281 t284 t287 false)) else (chatelainelaw11_LayNear.j1 kj5 l3 l4 t278 t281 t284 t287 false)) else (chatelainelaw11_LayNear.j1 kj5 l3 l4 t278 t281 t284 t287 false)) else (chatelainelaw11_LayNear.j1 kj5 l3 l4 t278 t281 t284 t287 false)) = some r := H
              have A42 := Aside0.mk A420
              clear A420
              repeat (first | (go_big_may; go_says (first | (go_at_call 20; (with_reducible refine (chatelaineref11_Far.calls kj5 a1 a2 _ _ l4 t322 _ ?side1 ?side2 A41.out).mono ?_); (case side1 => repeat (first | exact (Kd.C_below HR4.out HB.out) | (with_reducible refine Kd.C_alloc ?_ _) | (with_reducible refine Kd.C_drewN ?_ _) | (with_reducible refine Kd.C_drew ?_))); (case side2 => exact HC4.out); rintro e w43 ⟨v323, rfl, ho0, hb⟩; have n0_ := Aside0.mk (Kd.LI_elder' (by (with_reducible repeat (first | apply Kd.LI_alloc | apply Kd.LI_drewN | apply Kd.LI_drew)); exact HO280.out) (Kd.R_base ho0) hb); have n1_ := Aside0.mk (Kd.LB_below (by (with_reducible repeat (first | apply Kd.LB_alloc | apply Kd.LB_drewN | apply Kd.LB_drew)); exact HO283.out) hb); have n2_ := Aside0.mk (Kd.R_below (by (with_reducible repeat (first | apply Kd.R_alloc | apply Kd.R_drewN | apply Kd.R_drew)); exact HO286.out) hb); have n3_ := Aside0.mk (Kd.R_elder' (by (with_reducible repeat (first | apply Kd.R_alloc | apply Kd.R_drewN | apply Kd.R_drew)); exact HO289.out) (Kd.R_base ho0) hb); have n4_ := Aside0.mk (Kd.R_below (by (with_reducible repeat (first | apply Kd.R_alloc | apply Kd.R_drewN | apply Kd.R_drew)); exact HO320.out) hb); have n5_ := Aside0.mk (Kd.R_lower (Kd.R_new' (Kd.R_new' ho0 (Kd.LI_lt (by (with_reducible repeat (first | apply Kd.LI_alloc | apply Kd.LI_drewN | apply Kd.LI_drew)); exact HO280.out))) (Kd.R_lt (by (with_reducible repeat (first | apply Kd.R_alloc | apply Kd.R_drewN | apply Kd.R_drew)); exact HO289.out))) (below_size (by repeat (first | (with_reducible first | exact HB.out | apply below_alloc | apply pw_below_drewN | apply below_drew1 | refine below_set ?_ GE300.out | refine below_set ?_ GE311.out) | exact HB.out)))); have n6_ := Aside0.mk (blk_below (g := gb300) (o := .cells #[.int .i64 t290, .int .i64 t291, .int .i64 t292, .int .i64 t293, .int .i64 t294, .int .i64 t295, .int .i64 t296, .int .i64 t297, .int .i64 t298] 30 (0, 0)) (by (with_reducible repeat (first | refine blk_drewN ?_ _ | refine blk_drew ?_ | refine blk_alloc ?_ _)); exact BK300.out) hb); have n7_ := Aside0.mk (blk_below (g := gb311) (o := .cells #[.int .i64 t301, .int .i64 t302, .int .i64 t303, .int .i64 t304, .int .i64 t305, .int .i64 t306, .int .i64 t307, .int .i64 t308, .int .i64 t309] 33 (0, 0)) (by (with_reducible repeat (first | refine blk_drewN ?_ _ | refine blk_drew ?_ | refine blk_alloc ?_ _)); exact BK311.out) hb); have n8_ := Aside0.mk (below_step (by repeat (first | (with_reducible first | exact HB.out | apply below_alloc | apply pw_below_drewN | apply below_drew1 | refine below_set ?_ GE300.out | refine below_set ?_ GE311.out) | exact HB.out)) hb); clear HO280; clear HO283; clear HO286; clear HO289; clear HO320; clear BK300; clear BK311; clear HB; have HO280 := n0_; have HO283 := n1_; have HO286 := n2_; have HO289 := n3_; have HO320 := n4_; have HO324 := n5_; have BK300 := n6_; have BK311 := n7_; have HB := n8_; clear n0_ n1_ n2_ n3_ n4_ n5_ n6_ n7_ n8_; (try clear hb); (try clear hb2); (try clear hk); (try clear hi); (try clear ho0); (try clear A41); obtain ⟨Ao44, co44, eo44⟩ := Kd.R_slice HO289.out; subst eo44; obtain ⟨Ao45, co45, eo45⟩ := Kd.R_slice HO324.out; subst eo45) | (go_at_call 19; (with_reducible refine (chatelainelaw0_SameInts.calls kj5 _ _ t287 _ _ t322 t325 _ ?side1 ?side2 ?side3 ?side4 A42.out).mono ?_); (case side1 => repeat (first | exact (Kd.R_reads' HO289.out).2.2 | (with_reducible refine Kd.C_alloc ?_ _) | (with_reducible refine Kd.C_drewN ?_ _) | (with_reducible refine Kd.C_drew ?_))); (case side2 => exact (Kd.R_reads' HO289.out).2.1); (case side3 => repeat (first | exact (Kd.R_reads' HO324.out).2.2 | (with_reducible refine Kd.C_alloc ?_ _) | (with_reducible refine Kd.C_drewN ?_ _) | (with_reducible refine Kd.C_drew ?_))); (case side4 => exact (Kd.R_reads' HO324.out).2.1); rintro e w' ⟨rfl, ⟨nd, rfl⟩⟩))) | go_values | go_skip | go_guarded | ((with_reducible refine own_cond ?_); (first | refine own_condT rfl ?_ | refine own_condF rfl ?_)) | ((with_reducible refine own_ite ?_); (first | rw [own_iteT] | rw [own_iteF])) | ((fail_if_success (with_reducible refine own_ite ?_)); (fail_if_success (with_reducible refine own_cond ?_)); (first | (go_step; (first | (fail_if_success (with_reducible refine own_upon ?_)) | go_step | go_upon); (fail_if_success ((case' isTrue => skip); (case' isFalse => skip)))) | go_upon | ((with_reducible refine own_upon ?_); go_simp) | dsimp only)))
              as_aux_lemma =>
                by_cases c46 : t325 = true
                · subst c46
                  have H1 : (if (t299 == t310) = true then (if t290 = t301 then (if t291 = t302 then (if t292 = t303 then (if t293 = t304 then (if t294 = t305 then (if t295 = t306 then (if t296 = t307 then (if t297 = t308 then (if t298 = t309 then (if t312 = t315 then (if t313 = t316 then (chatelainelaw11_LayNear.j1 kj5 l3 l4 t278 t281 t284 t287 (t314 == t317)) else (chatelainelaw11_LayNear.j1 kj5 l3 l4 t278 t281 t284 t287 false)) else (chatelainelaw11_LayNear.j1 kj5 l3 l4 t278 t281 t284 t287 false)) else (chatelainelaw11_LayNear.j1 kj5 l3 l4 t278 t281 t284 t287 false)) else (chatelainelaw11_LayNear.j1 kj5 l3 l4 t278 t281 t284 t287 false)) else (chatelainelaw11_LayNear.j1 kj5 l3 l4 t278 t281 t284 t287 false)) else (chatelainelaw11_LayNear.j1 kj5 l3 l4 t278 t281 t284 t287 false)) else (chatelainelaw11_LayNear.j1 kj5 l3 l4 t278 t281 t284 t287 false)) else (chatelainelaw11_LayNear.j1 kj5 l3 l4 t278 t281 t284 t287 false)) else (chatelainelaw11_LayNear.j1 kj5 l3 l4 t278 t281 t284 t287 false)) else (chatelainelaw11_LayNear.j1 kj5 l3 l4 t278 t281 t284 t287 false)) else (chatelainelaw11_LayNear.j1 kj5 l3 l4 t278 t281 t284 t287 false)) else (chatelainelaw11_LayNear.j1 kj5 l3 l4 t278 t281 t284 t287 false)) = some r := by rw [if_pos rfl] at H; exact H
                  clear H
                  have H := H1
                  clear H1
                  by_cases c47 : (t299 == t310) = true
                  · rw [if_pos c47] at H
                    have c47b0 : (t299 == t310) = true := c47
                    (try (have c47b1 : decide (t299 = t310) = true := by simpa using c47))
                    (try (have c47b2 : (t299 == t310) = true := by simpa using c47))
                    clear c47
                    by_cases c48 : t290 = t301
                    · rw [if_pos c48] at H
                      have c48b0 : (t290 == t301) = true := beq_iff_eq.mpr c48
                      have c48b1 : (t290 != t301) = false := bne_eq_false_iff_eq.mpr c48
                      clear c48
                      by_cases c49 : t291 = t302
                      · rw [if_pos c49] at H
                        have c49b0 : (t291 == t302) = true := beq_iff_eq.mpr c49
                        have c49b1 : (t291 != t302) = false := bne_eq_false_iff_eq.mpr c49
                        clear c49
                        by_cases c50 : t292 = t303
                        · rw [if_pos c50] at H
                          have c50b0 : (t292 == t303) = true := beq_iff_eq.mpr c50
                          have c50b1 : (t292 != t303) = false := bne_eq_false_iff_eq.mpr c50
                          clear c50
                          by_cases c51 : t293 = t304
                          · rw [if_pos c51] at H
                            have c51b0 : (t293 == t304) = true := beq_iff_eq.mpr c51
                            have c51b1 : (t293 != t304) = false := bne_eq_false_iff_eq.mpr c51
                            clear c51
                            by_cases c52 : t294 = t305
                            · rw [if_pos c52] at H
                              have c52b0 : (t294 == t305) = true := beq_iff_eq.mpr c52
                              have c52b1 : (t294 != t305) = false := bne_eq_false_iff_eq.mpr c52
                              clear c52
                              by_cases c53 : t295 = t306
                              · rw [if_pos c53] at H
                                have c53b0 : (t295 == t306) = true := beq_iff_eq.mpr c53
                                have c53b1 : (t295 != t306) = false := bne_eq_false_iff_eq.mpr c53
                                clear c53
                                by_cases c54 : t296 = t307
                                · rw [if_pos c54] at H
                                  have c54b0 : (t296 == t307) = true := beq_iff_eq.mpr c54
                                  have c54b1 : (t296 != t307) = false := bne_eq_false_iff_eq.mpr c54
                                  clear c54
                                  by_cases c55 : t297 = t308
                                  · rw [if_pos c55] at H
                                    have c55b0 : (t297 == t308) = true := beq_iff_eq.mpr c55
                                    have c55b1 : (t297 != t308) = false := bne_eq_false_iff_eq.mpr c55
                                    clear c55
                                    by_cases c56 : t298 = t309
                                    · rw [if_pos c56] at H
                                      have c56b0 : (t298 == t309) = true := beq_iff_eq.mpr c56
                                      have c56b1 : (t298 != t309) = false := bne_eq_false_iff_eq.mpr c56
                                      clear c56
                                      by_cases c57 : t312 = t315
                                      · rw [if_pos c57] at H
                                        have c57b0 : (t312 == t315) = true := beq_iff_eq.mpr c57
                                        have c57b1 : (t312 != t315) = false := bne_eq_false_iff_eq.mpr c57
                                        clear c57
                                        by_cases c58 : t313 = t316
                                        · rw [if_pos c58] at H
                                          have c58b0 : (t313 == t316) = true := beq_iff_eq.mpr c58
                                          have c58b1 : (t313 != t316) = false := bne_eq_false_iff_eq.mpr c58
                                          clear c58
                                          as_aux_lemma =>
                                            have H' := Aside0.mk H
                                            clear H
                                            have hnb59 := NB300_311.out
                                            have hnc59 := NB311_300.out
                                            have hcz60_0 : w43.cell? ⟨gb300, 0, none⟩ = some (.int .i64 t290) := (blk_cell BK300.out 0).trans rfl
                                            have hcz60_1 : w43.cell? ⟨gb300, 1, none⟩ = some (.int .i64 t291) := (blk_cell BK300.out 1).trans rfl
                                            have hcz60_2 : w43.cell? ⟨gb300, 2, none⟩ = some (.int .i64 t292) := (blk_cell BK300.out 2).trans rfl
                                            have hcz60_3 : w43.cell? ⟨gb300, 3, none⟩ = some (.int .i64 t293) := (blk_cell BK300.out 3).trans rfl
                                            have hcz60_4 : w43.cell? ⟨gb300, 4, none⟩ = some (.int .i64 t294) := (blk_cell BK300.out 4).trans rfl
                                            have hcz60_5 : w43.cell? ⟨gb300, 5, none⟩ = some (.int .i64 t295) := (blk_cell BK300.out 5).trans rfl
                                            have hcz60_6 : w43.cell? ⟨gb300, 6, none⟩ = some (.int .i64 t296) := (blk_cell BK300.out 6).trans rfl
                                            have hcz60_7 : w43.cell? ⟨gb300, 7, none⟩ = some (.int .i64 t297) := (blk_cell BK300.out 7).trans rfl
                                            have hcz60_8 : w43.cell? ⟨gb300, 8, none⟩ = some (.int .i64 t298) := (blk_cell BK300.out 8).trans rfl
                                            have hfz60_0 := blk_frozen BK300.out 0
                                            have hfz60_1 := blk_frozen BK300.out 1
                                            have hfz60_2 := blk_frozen BK300.out 2
                                            have hfz60_3 := blk_frozen BK300.out 3
                                            have hfz60_4 := blk_frozen BK300.out 4
                                            have hfz60_5 := blk_frozen BK300.out 5
                                            have hfz60_6 := blk_frozen BK300.out 6
                                            have hfz60_7 := blk_frozen BK300.out 7
                                            have hfz60_8 := blk_frozen BK300.out 8
                                            have hcz61_0 : w43.cell? ⟨gb311, 0, none⟩ = some (.int .i64 t301) := (blk_cell BK311.out 0).trans rfl
                                            have hcz61_1 : w43.cell? ⟨gb311, 1, none⟩ = some (.int .i64 t302) := (blk_cell BK311.out 1).trans rfl
                                            have hcz61_2 : w43.cell? ⟨gb311, 2, none⟩ = some (.int .i64 t303) := (blk_cell BK311.out 2).trans rfl
                                            have hcz61_3 : w43.cell? ⟨gb311, 3, none⟩ = some (.int .i64 t304) := (blk_cell BK311.out 3).trans rfl
                                            have hcz61_4 : w43.cell? ⟨gb311, 4, none⟩ = some (.int .i64 t305) := (blk_cell BK311.out 4).trans rfl
                                            have hcz61_5 : w43.cell? ⟨gb311, 5, none⟩ = some (.int .i64 t306) := (blk_cell BK311.out 5).trans rfl
                                            have hcz61_6 : w43.cell? ⟨gb311, 6, none⟩ = some (.int .i64 t307) := (blk_cell BK311.out 6).trans rfl
                                            have hcz61_7 : w43.cell? ⟨gb311, 7, none⟩ = some (.int .i64 t308) := (blk_cell BK311.out 7).trans rfl
                                            have hcz61_8 : w43.cell? ⟨gb311, 8, none⟩ = some (.int .i64 t309) := (blk_cell BK311.out 8).trans rfl
                                            have hfz61_0 := blk_frozen BK311.out 0
                                            have hfz61_1 := blk_frozen BK311.out 1
                                            have hfz61_2 := blk_frozen BK311.out 2
                                            have hfz61_3 := blk_frozen BK311.out 3
                                            have hfz61_4 := blk_frozen BK311.out 4
                                            have hfz61_5 := blk_frozen BK311.out 5
                                            have hfz61_6 := blk_frozen BK311.out 6
                                            have hfz61_7 := blk_frozen BK311.out 7
                                            have hfz61_8 := blk_frozen BK311.out 8
                                            go_wp2
                                            go_meet
                                            case rel => exact ⟨_, ((t314 == t317)), (by first | rfl | (simp; done) | (simp [*]; done)), H', ⟨by have := HJ5.out; first | omega | exact Nat.le_refl _⟩, ⟨by (with_reducible repeat (first | apply Kd.LI_alloc | apply Kd.LI_drewN | apply Kd.LI_drew)); exact Kd.LI_mono HO280.out (fun _ hk => hk.1.2)⟩, ⟨by (with_reducible repeat (first | apply Kd.LB_alloc | apply Kd.LB_drewN | apply Kd.LB_drew)); exact Kd.LB_mono HO283.out (fun _ hk => hk.1.2)⟩, ⟨by (with_reducible repeat (first | apply Kd.R_alloc | apply Kd.R_drewN | apply Kd.R_drew)); exact Kd.R_mono HO286.out (fun _ hk => hk.1.2)⟩, ⟨by (with_reducible repeat (first | apply Kd.R_alloc | apply Kd.R_drewN | apply Kd.R_drew)); exact Kd.R_mono HO289.out (fun _ hk => hk.1.2)⟩, ⟨by (with_reducible repeat (first | refine blk_drewN ?_ _ | refine blk_drew ?_ | refine blk_alloc ?_ _)); exact BK300.out⟩, ⟨by (with_reducible repeat (first | refine blk_drewN ?_ _ | refine blk_drew ?_ | refine blk_alloc ?_ _)); exact BK311.out⟩, ⟨by repeat (first | (with_reducible first | exact HB.out | apply below_alloc | apply pw_below_drewN | apply below_drew1 | refine below_set ?_ GE300.out | refine below_set ?_ GE311.out) | exact HB.out)⟩⟩
                                        · rw [if_neg c58] at H
                                          have c58b0 : (t313 == t316) = false := beq_eq_false_iff_ne.mpr c58
                                          have c58b1 : (t313 != t316) = true := bne_iff_ne.mpr c58
                                          as_aux_lemma =>
                                            have H' := Aside0.mk H
                                            clear H
                                            have hnb62 := NB300_311.out
                                            have hnc62 := NB311_300.out
                                            have hcz63_0 : w43.cell? ⟨gb300, 0, none⟩ = some (.int .i64 t290) := (blk_cell BK300.out 0).trans rfl
                                            have hcz63_1 : w43.cell? ⟨gb300, 1, none⟩ = some (.int .i64 t291) := (blk_cell BK300.out 1).trans rfl
                                            have hcz63_2 : w43.cell? ⟨gb300, 2, none⟩ = some (.int .i64 t292) := (blk_cell BK300.out 2).trans rfl
                                            have hcz63_3 : w43.cell? ⟨gb300, 3, none⟩ = some (.int .i64 t293) := (blk_cell BK300.out 3).trans rfl
                                            have hcz63_4 : w43.cell? ⟨gb300, 4, none⟩ = some (.int .i64 t294) := (blk_cell BK300.out 4).trans rfl
                                            have hcz63_5 : w43.cell? ⟨gb300, 5, none⟩ = some (.int .i64 t295) := (blk_cell BK300.out 5).trans rfl
                                            have hcz63_6 : w43.cell? ⟨gb300, 6, none⟩ = some (.int .i64 t296) := (blk_cell BK300.out 6).trans rfl
                                            have hcz63_7 : w43.cell? ⟨gb300, 7, none⟩ = some (.int .i64 t297) := (blk_cell BK300.out 7).trans rfl
                                            have hcz63_8 : w43.cell? ⟨gb300, 8, none⟩ = some (.int .i64 t298) := (blk_cell BK300.out 8).trans rfl
                                            have hfz63_0 := blk_frozen BK300.out 0
                                            have hfz63_1 := blk_frozen BK300.out 1
                                            have hfz63_2 := blk_frozen BK300.out 2
                                            have hfz63_3 := blk_frozen BK300.out 3
                                            have hfz63_4 := blk_frozen BK300.out 4
                                            have hfz63_5 := blk_frozen BK300.out 5
                                            have hfz63_6 := blk_frozen BK300.out 6
                                            have hfz63_7 := blk_frozen BK300.out 7
                                            have hfz63_8 := blk_frozen BK300.out 8
                                            have hcz64_0 : w43.cell? ⟨gb311, 0, none⟩ = some (.int .i64 t301) := (blk_cell BK311.out 0).trans rfl
                                            have hcz64_1 : w43.cell? ⟨gb311, 1, none⟩ = some (.int .i64 t302) := (blk_cell BK311.out 1).trans rfl
                                            have hcz64_2 : w43.cell? ⟨gb311, 2, none⟩ = some (.int .i64 t303) := (blk_cell BK311.out 2).trans rfl
                                            have hcz64_3 : w43.cell? ⟨gb311, 3, none⟩ = some (.int .i64 t304) := (blk_cell BK311.out 3).trans rfl
                                            have hcz64_4 : w43.cell? ⟨gb311, 4, none⟩ = some (.int .i64 t305) := (blk_cell BK311.out 4).trans rfl
                                            have hcz64_5 : w43.cell? ⟨gb311, 5, none⟩ = some (.int .i64 t306) := (blk_cell BK311.out 5).trans rfl
                                            have hcz64_6 : w43.cell? ⟨gb311, 6, none⟩ = some (.int .i64 t307) := (blk_cell BK311.out 6).trans rfl
                                            have hcz64_7 : w43.cell? ⟨gb311, 7, none⟩ = some (.int .i64 t308) := (blk_cell BK311.out 7).trans rfl
                                            have hcz64_8 : w43.cell? ⟨gb311, 8, none⟩ = some (.int .i64 t309) := (blk_cell BK311.out 8).trans rfl
                                            have hfz64_0 := blk_frozen BK311.out 0
                                            have hfz64_1 := blk_frozen BK311.out 1
                                            have hfz64_2 := blk_frozen BK311.out 2
                                            have hfz64_3 := blk_frozen BK311.out 3
                                            have hfz64_4 := blk_frozen BK311.out 4
                                            have hfz64_5 := blk_frozen BK311.out 5
                                            have hfz64_6 := blk_frozen BK311.out 6
                                            have hfz64_7 := blk_frozen BK311.out 7
                                            have hfz64_8 := blk_frozen BK311.out 8
                                            go_wp2
                                            go_meet
                                            case rel => exact ⟨_, (false), (by first | rfl | (simp; done) | (simp [*]; done)), H', ⟨by have := HJ5.out; first | omega | exact Nat.le_refl _⟩, ⟨by (with_reducible repeat (first | apply Kd.LI_alloc | apply Kd.LI_drewN | apply Kd.LI_drew)); exact Kd.LI_mono HO280.out (fun _ hk => hk.1.2)⟩, ⟨by (with_reducible repeat (first | apply Kd.LB_alloc | apply Kd.LB_drewN | apply Kd.LB_drew)); exact Kd.LB_mono HO283.out (fun _ hk => hk.1.2)⟩, ⟨by (with_reducible repeat (first | apply Kd.R_alloc | apply Kd.R_drewN | apply Kd.R_drew)); exact Kd.R_mono HO286.out (fun _ hk => hk.1.2)⟩, ⟨by (with_reducible repeat (first | apply Kd.R_alloc | apply Kd.R_drewN | apply Kd.R_drew)); exact Kd.R_mono HO289.out (fun _ hk => hk.1.2)⟩, ⟨by (with_reducible repeat (first | refine blk_drewN ?_ _ | refine blk_drew ?_ | refine blk_alloc ?_ _)); exact BK300.out⟩, ⟨by (with_reducible repeat (first | refine blk_drewN ?_ _ | refine blk_drew ?_ | refine blk_alloc ?_ _)); exact BK311.out⟩, ⟨by repeat (first | (with_reducible first | exact HB.out | apply below_alloc | apply pw_below_drewN | apply below_drew1 | refine below_set ?_ GE300.out | refine below_set ?_ GE311.out) | exact HB.out)⟩⟩
                                      · rw [if_neg c57] at H
                                        have c57b0 : (t312 == t315) = false := beq_eq_false_iff_ne.mpr c57
                                        have c57b1 : (t312 != t315) = true := bne_iff_ne.mpr c57
                                        as_aux_lemma =>
                                          have H' := Aside0.mk H
                                          clear H
                                          have hnb65 := NB300_311.out
                                          have hnc65 := NB311_300.out
                                          have hcz66_0 : w43.cell? ⟨gb300, 0, none⟩ = some (.int .i64 t290) := (blk_cell BK300.out 0).trans rfl
                                          have hcz66_1 : w43.cell? ⟨gb300, 1, none⟩ = some (.int .i64 t291) := (blk_cell BK300.out 1).trans rfl
                                          have hcz66_2 : w43.cell? ⟨gb300, 2, none⟩ = some (.int .i64 t292) := (blk_cell BK300.out 2).trans rfl
                                          have hcz66_3 : w43.cell? ⟨gb300, 3, none⟩ = some (.int .i64 t293) := (blk_cell BK300.out 3).trans rfl
                                          have hcz66_4 : w43.cell? ⟨gb300, 4, none⟩ = some (.int .i64 t294) := (blk_cell BK300.out 4).trans rfl
                                          have hcz66_5 : w43.cell? ⟨gb300, 5, none⟩ = some (.int .i64 t295) := (blk_cell BK300.out 5).trans rfl
                                          have hcz66_6 : w43.cell? ⟨gb300, 6, none⟩ = some (.int .i64 t296) := (blk_cell BK300.out 6).trans rfl
                                          have hcz66_7 : w43.cell? ⟨gb300, 7, none⟩ = some (.int .i64 t297) := (blk_cell BK300.out 7).trans rfl
                                          have hcz66_8 : w43.cell? ⟨gb300, 8, none⟩ = some (.int .i64 t298) := (blk_cell BK300.out 8).trans rfl
                                          have hfz66_0 := blk_frozen BK300.out 0
                                          have hfz66_1 := blk_frozen BK300.out 1
                                          have hfz66_2 := blk_frozen BK300.out 2
                                          have hfz66_3 := blk_frozen BK300.out 3
                                          have hfz66_4 := blk_frozen BK300.out 4
                                          have hfz66_5 := blk_frozen BK300.out 5
                                          have hfz66_6 := blk_frozen BK300.out 6
                                          have hfz66_7 := blk_frozen BK300.out 7
                                          have hfz66_8 := blk_frozen BK300.out 8
                                          have hcz67_0 : w43.cell? ⟨gb311, 0, none⟩ = some (.int .i64 t301) := (blk_cell BK311.out 0).trans rfl
                                          have hcz67_1 : w43.cell? ⟨gb311, 1, none⟩ = some (.int .i64 t302) := (blk_cell BK311.out 1).trans rfl
                                          have hcz67_2 : w43.cell? ⟨gb311, 2, none⟩ = some (.int .i64 t303) := (blk_cell BK311.out 2).trans rfl
                                          have hcz67_3 : w43.cell? ⟨gb311, 3, none⟩ = some (.int .i64 t304) := (blk_cell BK311.out 3).trans rfl
                                          have hcz67_4 : w43.cell? ⟨gb311, 4, none⟩ = some (.int .i64 t305) := (blk_cell BK311.out 4).trans rfl
                                          have hcz67_5 : w43.cell? ⟨gb311, 5, none⟩ = some (.int .i64 t306) := (blk_cell BK311.out 5).trans rfl
                                          have hcz67_6 : w43.cell? ⟨gb311, 6, none⟩ = some (.int .i64 t307) := (blk_cell BK311.out 6).trans rfl
                                          have hcz67_7 : w43.cell? ⟨gb311, 7, none⟩ = some (.int .i64 t308) := (blk_cell BK311.out 7).trans rfl
                                          have hcz67_8 : w43.cell? ⟨gb311, 8, none⟩ = some (.int .i64 t309) := (blk_cell BK311.out 8).trans rfl
                                          have hfz67_0 := blk_frozen BK311.out 0
                                          have hfz67_1 := blk_frozen BK311.out 1
                                          have hfz67_2 := blk_frozen BK311.out 2
                                          have hfz67_3 := blk_frozen BK311.out 3
                                          have hfz67_4 := blk_frozen BK311.out 4
                                          have hfz67_5 := blk_frozen BK311.out 5
                                          have hfz67_6 := blk_frozen BK311.out 6
                                          have hfz67_7 := blk_frozen BK311.out 7
                                          have hfz67_8 := blk_frozen BK311.out 8
                                          go_wp2
                                          go_meet
                                          case rel => exact ⟨_, (false), (by first | rfl | (simp; done) | (simp [*]; done)), H', ⟨by have := HJ5.out; first | omega | exact Nat.le_refl _⟩, ⟨by (with_reducible repeat (first | apply Kd.LI_alloc | apply Kd.LI_drewN | apply Kd.LI_drew)); exact Kd.LI_mono HO280.out (fun _ hk => hk.1.2)⟩, ⟨by (with_reducible repeat (first | apply Kd.LB_alloc | apply Kd.LB_drewN | apply Kd.LB_drew)); exact Kd.LB_mono HO283.out (fun _ hk => hk.1.2)⟩, ⟨by (with_reducible repeat (first | apply Kd.R_alloc | apply Kd.R_drewN | apply Kd.R_drew)); exact Kd.R_mono HO286.out (fun _ hk => hk.1.2)⟩, ⟨by (with_reducible repeat (first | apply Kd.R_alloc | apply Kd.R_drewN | apply Kd.R_drew)); exact Kd.R_mono HO289.out (fun _ hk => hk.1.2)⟩, ⟨by (with_reducible repeat (first | refine blk_drewN ?_ _ | refine blk_drew ?_ | refine blk_alloc ?_ _)); exact BK300.out⟩, ⟨by (with_reducible repeat (first | refine blk_drewN ?_ _ | refine blk_drew ?_ | refine blk_alloc ?_ _)); exact BK311.out⟩, ⟨by repeat (first | (with_reducible first | exact HB.out | apply below_alloc | apply pw_below_drewN | apply below_drew1 | refine below_set ?_ GE300.out | refine below_set ?_ GE311.out) | exact HB.out)⟩⟩
                                    · rw [if_neg c56] at H
                                      have c56b0 : (t298 == t309) = false := beq_eq_false_iff_ne.mpr c56
                                      have c56b1 : (t298 != t309) = true := bne_iff_ne.mpr c56
                                      as_aux_lemma =>
                                        have H' := Aside0.mk H
                                        clear H
                                        have hnb68 := NB300_311.out
                                        have hnc68 := NB311_300.out
                                        have hcz69_0 : w43.cell? ⟨gb300, 0, none⟩ = some (.int .i64 t290) := (blk_cell BK300.out 0).trans rfl
                                        have hcz69_1 : w43.cell? ⟨gb300, 1, none⟩ = some (.int .i64 t291) := (blk_cell BK300.out 1).trans rfl
                                        have hcz69_2 : w43.cell? ⟨gb300, 2, none⟩ = some (.int .i64 t292) := (blk_cell BK300.out 2).trans rfl
                                        have hcz69_3 : w43.cell? ⟨gb300, 3, none⟩ = some (.int .i64 t293) := (blk_cell BK300.out 3).trans rfl
                                        have hcz69_4 : w43.cell? ⟨gb300, 4, none⟩ = some (.int .i64 t294) := (blk_cell BK300.out 4).trans rfl
                                        have hcz69_5 : w43.cell? ⟨gb300, 5, none⟩ = some (.int .i64 t295) := (blk_cell BK300.out 5).trans rfl
                                        have hcz69_6 : w43.cell? ⟨gb300, 6, none⟩ = some (.int .i64 t296) := (blk_cell BK300.out 6).trans rfl
                                        have hcz69_7 : w43.cell? ⟨gb300, 7, none⟩ = some (.int .i64 t297) := (blk_cell BK300.out 7).trans rfl
                                        have hcz69_8 : w43.cell? ⟨gb300, 8, none⟩ = some (.int .i64 t298) := (blk_cell BK300.out 8).trans rfl
                                        have hfz69_0 := blk_frozen BK300.out 0
                                        have hfz69_1 := blk_frozen BK300.out 1
                                        have hfz69_2 := blk_frozen BK300.out 2
                                        have hfz69_3 := blk_frozen BK300.out 3
                                        have hfz69_4 := blk_frozen BK300.out 4
                                        have hfz69_5 := blk_frozen BK300.out 5
                                        have hfz69_6 := blk_frozen BK300.out 6
                                        have hfz69_7 := blk_frozen BK300.out 7
                                        have hfz69_8 := blk_frozen BK300.out 8
                                        have hcz70_0 : w43.cell? ⟨gb311, 0, none⟩ = some (.int .i64 t301) := (blk_cell BK311.out 0).trans rfl
                                        have hcz70_1 : w43.cell? ⟨gb311, 1, none⟩ = some (.int .i64 t302) := (blk_cell BK311.out 1).trans rfl
                                        have hcz70_2 : w43.cell? ⟨gb311, 2, none⟩ = some (.int .i64 t303) := (blk_cell BK311.out 2).trans rfl
                                        have hcz70_3 : w43.cell? ⟨gb311, 3, none⟩ = some (.int .i64 t304) := (blk_cell BK311.out 3).trans rfl
                                        have hcz70_4 : w43.cell? ⟨gb311, 4, none⟩ = some (.int .i64 t305) := (blk_cell BK311.out 4).trans rfl
                                        have hcz70_5 : w43.cell? ⟨gb311, 5, none⟩ = some (.int .i64 t306) := (blk_cell BK311.out 5).trans rfl
                                        have hcz70_6 : w43.cell? ⟨gb311, 6, none⟩ = some (.int .i64 t307) := (blk_cell BK311.out 6).trans rfl
                                        have hcz70_7 : w43.cell? ⟨gb311, 7, none⟩ = some (.int .i64 t308) := (blk_cell BK311.out 7).trans rfl
                                        have hcz70_8 : w43.cell? ⟨gb311, 8, none⟩ = some (.int .i64 t309) := (blk_cell BK311.out 8).trans rfl
                                        have hfz70_0 := blk_frozen BK311.out 0
                                        have hfz70_1 := blk_frozen BK311.out 1
                                        have hfz70_2 := blk_frozen BK311.out 2
                                        have hfz70_3 := blk_frozen BK311.out 3
                                        have hfz70_4 := blk_frozen BK311.out 4
                                        have hfz70_5 := blk_frozen BK311.out 5
                                        have hfz70_6 := blk_frozen BK311.out 6
                                        have hfz70_7 := blk_frozen BK311.out 7
                                        have hfz70_8 := blk_frozen BK311.out 8
                                        go_wp2
                                        go_meet
                                        case rel => exact ⟨_, (false), (by first | rfl | (simp; done) | (simp [*]; done)), H', ⟨by have := HJ5.out; first | omega | exact Nat.le_refl _⟩, ⟨by (with_reducible repeat (first | apply Kd.LI_alloc | apply Kd.LI_drewN | apply Kd.LI_drew)); exact Kd.LI_mono HO280.out (fun _ hk => hk.1.2)⟩, ⟨by (with_reducible repeat (first | apply Kd.LB_alloc | apply Kd.LB_drewN | apply Kd.LB_drew)); exact Kd.LB_mono HO283.out (fun _ hk => hk.1.2)⟩, ⟨by (with_reducible repeat (first | apply Kd.R_alloc | apply Kd.R_drewN | apply Kd.R_drew)); exact Kd.R_mono HO286.out (fun _ hk => hk.1.2)⟩, ⟨by (with_reducible repeat (first | apply Kd.R_alloc | apply Kd.R_drewN | apply Kd.R_drew)); exact Kd.R_mono HO289.out (fun _ hk => hk.1.2)⟩, ⟨by (with_reducible repeat (first | refine blk_drewN ?_ _ | refine blk_drew ?_ | refine blk_alloc ?_ _)); exact BK300.out⟩, ⟨by (with_reducible repeat (first | refine blk_drewN ?_ _ | refine blk_drew ?_ | refine blk_alloc ?_ _)); exact BK311.out⟩, ⟨by repeat (first | (with_reducible first | exact HB.out | apply below_alloc | apply pw_below_drewN | apply below_drew1 | refine below_set ?_ GE300.out | refine below_set ?_ GE311.out) | exact HB.out)⟩⟩
                                  · rw [if_neg c55] at H
                                    have c55b0 : (t297 == t308) = false := beq_eq_false_iff_ne.mpr c55
                                    have c55b1 : (t297 != t308) = true := bne_iff_ne.mpr c55
                                    as_aux_lemma =>
                                      have H' := Aside0.mk H
                                      clear H
                                      have hnb71 := NB300_311.out
                                      have hnc71 := NB311_300.out
                                      have hcz72_0 : w43.cell? ⟨gb300, 0, none⟩ = some (.int .i64 t290) := (blk_cell BK300.out 0).trans rfl
                                      have hcz72_1 : w43.cell? ⟨gb300, 1, none⟩ = some (.int .i64 t291) := (blk_cell BK300.out 1).trans rfl
                                      have hcz72_2 : w43.cell? ⟨gb300, 2, none⟩ = some (.int .i64 t292) := (blk_cell BK300.out 2).trans rfl
                                      have hcz72_3 : w43.cell? ⟨gb300, 3, none⟩ = some (.int .i64 t293) := (blk_cell BK300.out 3).trans rfl
                                      have hcz72_4 : w43.cell? ⟨gb300, 4, none⟩ = some (.int .i64 t294) := (blk_cell BK300.out 4).trans rfl
                                      have hcz72_5 : w43.cell? ⟨gb300, 5, none⟩ = some (.int .i64 t295) := (blk_cell BK300.out 5).trans rfl
                                      have hcz72_6 : w43.cell? ⟨gb300, 6, none⟩ = some (.int .i64 t296) := (blk_cell BK300.out 6).trans rfl
                                      have hcz72_7 : w43.cell? ⟨gb300, 7, none⟩ = some (.int .i64 t297) := (blk_cell BK300.out 7).trans rfl
                                      have hcz72_8 : w43.cell? ⟨gb300, 8, none⟩ = some (.int .i64 t298) := (blk_cell BK300.out 8).trans rfl
                                      have hfz72_0 := blk_frozen BK300.out 0
                                      have hfz72_1 := blk_frozen BK300.out 1
                                      have hfz72_2 := blk_frozen BK300.out 2
                                      have hfz72_3 := blk_frozen BK300.out 3
                                      have hfz72_4 := blk_frozen BK300.out 4
                                      have hfz72_5 := blk_frozen BK300.out 5
                                      have hfz72_6 := blk_frozen BK300.out 6
                                      have hfz72_7 := blk_frozen BK300.out 7
                                      have hfz72_8 := blk_frozen BK300.out 8
                                      have hcz73_0 : w43.cell? ⟨gb311, 0, none⟩ = some (.int .i64 t301) := (blk_cell BK311.out 0).trans rfl
                                      have hcz73_1 : w43.cell? ⟨gb311, 1, none⟩ = some (.int .i64 t302) := (blk_cell BK311.out 1).trans rfl
                                      have hcz73_2 : w43.cell? ⟨gb311, 2, none⟩ = some (.int .i64 t303) := (blk_cell BK311.out 2).trans rfl
                                      have hcz73_3 : w43.cell? ⟨gb311, 3, none⟩ = some (.int .i64 t304) := (blk_cell BK311.out 3).trans rfl
                                      have hcz73_4 : w43.cell? ⟨gb311, 4, none⟩ = some (.int .i64 t305) := (blk_cell BK311.out 4).trans rfl
                                      have hcz73_5 : w43.cell? ⟨gb311, 5, none⟩ = some (.int .i64 t306) := (blk_cell BK311.out 5).trans rfl
                                      have hcz73_6 : w43.cell? ⟨gb311, 6, none⟩ = some (.int .i64 t307) := (blk_cell BK311.out 6).trans rfl
                                      have hcz73_7 : w43.cell? ⟨gb311, 7, none⟩ = some (.int .i64 t308) := (blk_cell BK311.out 7).trans rfl
                                      have hcz73_8 : w43.cell? ⟨gb311, 8, none⟩ = some (.int .i64 t309) := (blk_cell BK311.out 8).trans rfl
                                      have hfz73_0 := blk_frozen BK311.out 0
                                      have hfz73_1 := blk_frozen BK311.out 1
                                      have hfz73_2 := blk_frozen BK311.out 2
                                      have hfz73_3 := blk_frozen BK311.out 3
                                      have hfz73_4 := blk_frozen BK311.out 4
                                      have hfz73_5 := blk_frozen BK311.out 5
                                      have hfz73_6 := blk_frozen BK311.out 6
                                      have hfz73_7 := blk_frozen BK311.out 7
                                      have hfz73_8 := blk_frozen BK311.out 8
                                      go_wp2
                                      go_meet
                                      case rel => exact ⟨_, (false), (by first | rfl | (simp; done) | (simp [*]; done)), H', ⟨by have := HJ5.out; first | omega | exact Nat.le_refl _⟩, ⟨by (with_reducible repeat (first | apply Kd.LI_alloc | apply Kd.LI_drewN | apply Kd.LI_drew)); exact Kd.LI_mono HO280.out (fun _ hk => hk.1.2)⟩, ⟨by (with_reducible repeat (first | apply Kd.LB_alloc | apply Kd.LB_drewN | apply Kd.LB_drew)); exact Kd.LB_mono HO283.out (fun _ hk => hk.1.2)⟩, ⟨by (with_reducible repeat (first | apply Kd.R_alloc | apply Kd.R_drewN | apply Kd.R_drew)); exact Kd.R_mono HO286.out (fun _ hk => hk.1.2)⟩, ⟨by (with_reducible repeat (first | apply Kd.R_alloc | apply Kd.R_drewN | apply Kd.R_drew)); exact Kd.R_mono HO289.out (fun _ hk => hk.1.2)⟩, ⟨by (with_reducible repeat (first | refine blk_drewN ?_ _ | refine blk_drew ?_ | refine blk_alloc ?_ _)); exact BK300.out⟩, ⟨by (with_reducible repeat (first | refine blk_drewN ?_ _ | refine blk_drew ?_ | refine blk_alloc ?_ _)); exact BK311.out⟩, ⟨by repeat (first | (with_reducible first | exact HB.out | apply below_alloc | apply pw_below_drewN | apply below_drew1 | refine below_set ?_ GE300.out | refine below_set ?_ GE311.out) | exact HB.out)⟩⟩
                                · rw [if_neg c54] at H
                                  have c54b0 : (t296 == t307) = false := beq_eq_false_iff_ne.mpr c54
                                  have c54b1 : (t296 != t307) = true := bne_iff_ne.mpr c54
                                  as_aux_lemma =>
                                    have H' := Aside0.mk H
                                    clear H
                                    have hnb74 := NB300_311.out
                                    have hnc74 := NB311_300.out
                                    have hcz75_0 : w43.cell? ⟨gb300, 0, none⟩ = some (.int .i64 t290) := (blk_cell BK300.out 0).trans rfl
                                    have hcz75_1 : w43.cell? ⟨gb300, 1, none⟩ = some (.int .i64 t291) := (blk_cell BK300.out 1).trans rfl
                                    have hcz75_2 : w43.cell? ⟨gb300, 2, none⟩ = some (.int .i64 t292) := (blk_cell BK300.out 2).trans rfl
                                    have hcz75_3 : w43.cell? ⟨gb300, 3, none⟩ = some (.int .i64 t293) := (blk_cell BK300.out 3).trans rfl
                                    have hcz75_4 : w43.cell? ⟨gb300, 4, none⟩ = some (.int .i64 t294) := (blk_cell BK300.out 4).trans rfl
                                    have hcz75_5 : w43.cell? ⟨gb300, 5, none⟩ = some (.int .i64 t295) := (blk_cell BK300.out 5).trans rfl
                                    have hcz75_6 : w43.cell? ⟨gb300, 6, none⟩ = some (.int .i64 t296) := (blk_cell BK300.out 6).trans rfl
                                    have hcz75_7 : w43.cell? ⟨gb300, 7, none⟩ = some (.int .i64 t297) := (blk_cell BK300.out 7).trans rfl
                                    have hcz75_8 : w43.cell? ⟨gb300, 8, none⟩ = some (.int .i64 t298) := (blk_cell BK300.out 8).trans rfl
                                    have hfz75_0 := blk_frozen BK300.out 0
                                    have hfz75_1 := blk_frozen BK300.out 1
                                    have hfz75_2 := blk_frozen BK300.out 2
                                    have hfz75_3 := blk_frozen BK300.out 3
                                    have hfz75_4 := blk_frozen BK300.out 4
                                    have hfz75_5 := blk_frozen BK300.out 5
                                    have hfz75_6 := blk_frozen BK300.out 6
                                    have hfz75_7 := blk_frozen BK300.out 7
                                    have hfz75_8 := blk_frozen BK300.out 8
                                    have hcz76_0 : w43.cell? ⟨gb311, 0, none⟩ = some (.int .i64 t301) := (blk_cell BK311.out 0).trans rfl
                                    have hcz76_1 : w43.cell? ⟨gb311, 1, none⟩ = some (.int .i64 t302) := (blk_cell BK311.out 1).trans rfl
                                    have hcz76_2 : w43.cell? ⟨gb311, 2, none⟩ = some (.int .i64 t303) := (blk_cell BK311.out 2).trans rfl
                                    have hcz76_3 : w43.cell? ⟨gb311, 3, none⟩ = some (.int .i64 t304) := (blk_cell BK311.out 3).trans rfl
                                    have hcz76_4 : w43.cell? ⟨gb311, 4, none⟩ = some (.int .i64 t305) := (blk_cell BK311.out 4).trans rfl
                                    have hcz76_5 : w43.cell? ⟨gb311, 5, none⟩ = some (.int .i64 t306) := (blk_cell BK311.out 5).trans rfl
                                    have hcz76_6 : w43.cell? ⟨gb311, 6, none⟩ = some (.int .i64 t307) := (blk_cell BK311.out 6).trans rfl
                                    have hcz76_7 : w43.cell? ⟨gb311, 7, none⟩ = some (.int .i64 t308) := (blk_cell BK311.out 7).trans rfl
                                    have hcz76_8 : w43.cell? ⟨gb311, 8, none⟩ = some (.int .i64 t309) := (blk_cell BK311.out 8).trans rfl
                                    have hfz76_0 := blk_frozen BK311.out 0
                                    have hfz76_1 := blk_frozen BK311.out 1
                                    have hfz76_2 := blk_frozen BK311.out 2
                                    have hfz76_3 := blk_frozen BK311.out 3
                                    have hfz76_4 := blk_frozen BK311.out 4
                                    have hfz76_5 := blk_frozen BK311.out 5
                                    have hfz76_6 := blk_frozen BK311.out 6
                                    have hfz76_7 := blk_frozen BK311.out 7
                                    have hfz76_8 := blk_frozen BK311.out 8
                                    go_wp2
                                    go_meet
                                    case rel => exact ⟨_, (false), (by first | rfl | (simp; done) | (simp [*]; done)), H', ⟨by have := HJ5.out; first | omega | exact Nat.le_refl _⟩, ⟨by (with_reducible repeat (first | apply Kd.LI_alloc | apply Kd.LI_drewN | apply Kd.LI_drew)); exact Kd.LI_mono HO280.out (fun _ hk => hk.1.2)⟩, ⟨by (with_reducible repeat (first | apply Kd.LB_alloc | apply Kd.LB_drewN | apply Kd.LB_drew)); exact Kd.LB_mono HO283.out (fun _ hk => hk.1.2)⟩, ⟨by (with_reducible repeat (first | apply Kd.R_alloc | apply Kd.R_drewN | apply Kd.R_drew)); exact Kd.R_mono HO286.out (fun _ hk => hk.1.2)⟩, ⟨by (with_reducible repeat (first | apply Kd.R_alloc | apply Kd.R_drewN | apply Kd.R_drew)); exact Kd.R_mono HO289.out (fun _ hk => hk.1.2)⟩, ⟨by (with_reducible repeat (first | refine blk_drewN ?_ _ | refine blk_drew ?_ | refine blk_alloc ?_ _)); exact BK300.out⟩, ⟨by (with_reducible repeat (first | refine blk_drewN ?_ _ | refine blk_drew ?_ | refine blk_alloc ?_ _)); exact BK311.out⟩, ⟨by repeat (first | (with_reducible first | exact HB.out | apply below_alloc | apply pw_below_drewN | apply below_drew1 | refine below_set ?_ GE300.out | refine below_set ?_ GE311.out) | exact HB.out)⟩⟩
                              · rw [if_neg c53] at H
                                have c53b0 : (t295 == t306) = false := beq_eq_false_iff_ne.mpr c53
                                have c53b1 : (t295 != t306) = true := bne_iff_ne.mpr c53
                                as_aux_lemma =>
                                  have H' := Aside0.mk H
                                  clear H
                                  have hnb77 := NB300_311.out
                                  have hnc77 := NB311_300.out
                                  have hcz78_0 : w43.cell? ⟨gb300, 0, none⟩ = some (.int .i64 t290) := (blk_cell BK300.out 0).trans rfl
                                  have hcz78_1 : w43.cell? ⟨gb300, 1, none⟩ = some (.int .i64 t291) := (blk_cell BK300.out 1).trans rfl
                                  have hcz78_2 : w43.cell? ⟨gb300, 2, none⟩ = some (.int .i64 t292) := (blk_cell BK300.out 2).trans rfl
                                  have hcz78_3 : w43.cell? ⟨gb300, 3, none⟩ = some (.int .i64 t293) := (blk_cell BK300.out 3).trans rfl
                                  have hcz78_4 : w43.cell? ⟨gb300, 4, none⟩ = some (.int .i64 t294) := (blk_cell BK300.out 4).trans rfl
                                  have hcz78_5 : w43.cell? ⟨gb300, 5, none⟩ = some (.int .i64 t295) := (blk_cell BK300.out 5).trans rfl
                                  have hcz78_6 : w43.cell? ⟨gb300, 6, none⟩ = some (.int .i64 t296) := (blk_cell BK300.out 6).trans rfl
                                  have hcz78_7 : w43.cell? ⟨gb300, 7, none⟩ = some (.int .i64 t297) := (blk_cell BK300.out 7).trans rfl
                                  have hcz78_8 : w43.cell? ⟨gb300, 8, none⟩ = some (.int .i64 t298) := (blk_cell BK300.out 8).trans rfl
                                  have hfz78_0 := blk_frozen BK300.out 0
                                  have hfz78_1 := blk_frozen BK300.out 1
                                  have hfz78_2 := blk_frozen BK300.out 2
                                  have hfz78_3 := blk_frozen BK300.out 3
                                  have hfz78_4 := blk_frozen BK300.out 4
                                  have hfz78_5 := blk_frozen BK300.out 5
                                  have hfz78_6 := blk_frozen BK300.out 6
                                  have hfz78_7 := blk_frozen BK300.out 7
                                  have hfz78_8 := blk_frozen BK300.out 8
                                  have hcz79_0 : w43.cell? ⟨gb311, 0, none⟩ = some (.int .i64 t301) := (blk_cell BK311.out 0).trans rfl
                                  have hcz79_1 : w43.cell? ⟨gb311, 1, none⟩ = some (.int .i64 t302) := (blk_cell BK311.out 1).trans rfl
                                  have hcz79_2 : w43.cell? ⟨gb311, 2, none⟩ = some (.int .i64 t303) := (blk_cell BK311.out 2).trans rfl
                                  have hcz79_3 : w43.cell? ⟨gb311, 3, none⟩ = some (.int .i64 t304) := (blk_cell BK311.out 3).trans rfl
                                  have hcz79_4 : w43.cell? ⟨gb311, 4, none⟩ = some (.int .i64 t305) := (blk_cell BK311.out 4).trans rfl
                                  have hcz79_5 : w43.cell? ⟨gb311, 5, none⟩ = some (.int .i64 t306) := (blk_cell BK311.out 5).trans rfl
                                  have hcz79_6 : w43.cell? ⟨gb311, 6, none⟩ = some (.int .i64 t307) := (blk_cell BK311.out 6).trans rfl
                                  have hcz79_7 : w43.cell? ⟨gb311, 7, none⟩ = some (.int .i64 t308) := (blk_cell BK311.out 7).trans rfl
                                  have hcz79_8 : w43.cell? ⟨gb311, 8, none⟩ = some (.int .i64 t309) := (blk_cell BK311.out 8).trans rfl
                                  have hfz79_0 := blk_frozen BK311.out 0
                                  have hfz79_1 := blk_frozen BK311.out 1
                                  have hfz79_2 := blk_frozen BK311.out 2
                                  have hfz79_3 := blk_frozen BK311.out 3
                                  have hfz79_4 := blk_frozen BK311.out 4
                                  have hfz79_5 := blk_frozen BK311.out 5
                                  have hfz79_6 := blk_frozen BK311.out 6
                                  have hfz79_7 := blk_frozen BK311.out 7
                                  have hfz79_8 := blk_frozen BK311.out 8
                                  go_wp2
                                  go_meet
                                  case rel => exact ⟨_, (false), (by first | rfl | (simp; done) | (simp [*]; done)), H', ⟨by have := HJ5.out; first | omega | exact Nat.le_refl _⟩, ⟨by (with_reducible repeat (first | apply Kd.LI_alloc | apply Kd.LI_drewN | apply Kd.LI_drew)); exact Kd.LI_mono HO280.out (fun _ hk => hk.1.2)⟩, ⟨by (with_reducible repeat (first | apply Kd.LB_alloc | apply Kd.LB_drewN | apply Kd.LB_drew)); exact Kd.LB_mono HO283.out (fun _ hk => hk.1.2)⟩, ⟨by (with_reducible repeat (first | apply Kd.R_alloc | apply Kd.R_drewN | apply Kd.R_drew)); exact Kd.R_mono HO286.out (fun _ hk => hk.1.2)⟩, ⟨by (with_reducible repeat (first | apply Kd.R_alloc | apply Kd.R_drewN | apply Kd.R_drew)); exact Kd.R_mono HO289.out (fun _ hk => hk.1.2)⟩, ⟨by (with_reducible repeat (first | refine blk_drewN ?_ _ | refine blk_drew ?_ | refine blk_alloc ?_ _)); exact BK300.out⟩, ⟨by (with_reducible repeat (first | refine blk_drewN ?_ _ | refine blk_drew ?_ | refine blk_alloc ?_ _)); exact BK311.out⟩, ⟨by repeat (first | (with_reducible first | exact HB.out | apply below_alloc | apply pw_below_drewN | apply below_drew1 | refine below_set ?_ GE300.out | refine below_set ?_ GE311.out) | exact HB.out)⟩⟩
                            · rw [if_neg c52] at H
                              have c52b0 : (t294 == t305) = false := beq_eq_false_iff_ne.mpr c52
                              have c52b1 : (t294 != t305) = true := bne_iff_ne.mpr c52
                              as_aux_lemma =>
                                have H' := Aside0.mk H
                                clear H
                                have hnb80 := NB300_311.out
                                have hnc80 := NB311_300.out
                                have hcz81_0 : w43.cell? ⟨gb300, 0, none⟩ = some (.int .i64 t290) := (blk_cell BK300.out 0).trans rfl
                                have hcz81_1 : w43.cell? ⟨gb300, 1, none⟩ = some (.int .i64 t291) := (blk_cell BK300.out 1).trans rfl
                                have hcz81_2 : w43.cell? ⟨gb300, 2, none⟩ = some (.int .i64 t292) := (blk_cell BK300.out 2).trans rfl
                                have hcz81_3 : w43.cell? ⟨gb300, 3, none⟩ = some (.int .i64 t293) := (blk_cell BK300.out 3).trans rfl
                                have hcz81_4 : w43.cell? ⟨gb300, 4, none⟩ = some (.int .i64 t294) := (blk_cell BK300.out 4).trans rfl
                                have hcz81_5 : w43.cell? ⟨gb300, 5, none⟩ = some (.int .i64 t295) := (blk_cell BK300.out 5).trans rfl
                                have hcz81_6 : w43.cell? ⟨gb300, 6, none⟩ = some (.int .i64 t296) := (blk_cell BK300.out 6).trans rfl
                                have hcz81_7 : w43.cell? ⟨gb300, 7, none⟩ = some (.int .i64 t297) := (blk_cell BK300.out 7).trans rfl
                                have hcz81_8 : w43.cell? ⟨gb300, 8, none⟩ = some (.int .i64 t298) := (blk_cell BK300.out 8).trans rfl
                                have hfz81_0 := blk_frozen BK300.out 0
                                have hfz81_1 := blk_frozen BK300.out 1
                                have hfz81_2 := blk_frozen BK300.out 2
                                have hfz81_3 := blk_frozen BK300.out 3
                                have hfz81_4 := blk_frozen BK300.out 4
                                have hfz81_5 := blk_frozen BK300.out 5
                                have hfz81_6 := blk_frozen BK300.out 6
                                have hfz81_7 := blk_frozen BK300.out 7
                                have hfz81_8 := blk_frozen BK300.out 8
                                have hcz82_0 : w43.cell? ⟨gb311, 0, none⟩ = some (.int .i64 t301) := (blk_cell BK311.out 0).trans rfl
                                have hcz82_1 : w43.cell? ⟨gb311, 1, none⟩ = some (.int .i64 t302) := (blk_cell BK311.out 1).trans rfl
                                have hcz82_2 : w43.cell? ⟨gb311, 2, none⟩ = some (.int .i64 t303) := (blk_cell BK311.out 2).trans rfl
                                have hcz82_3 : w43.cell? ⟨gb311, 3, none⟩ = some (.int .i64 t304) := (blk_cell BK311.out 3).trans rfl
                                have hcz82_4 : w43.cell? ⟨gb311, 4, none⟩ = some (.int .i64 t305) := (blk_cell BK311.out 4).trans rfl
                                have hcz82_5 : w43.cell? ⟨gb311, 5, none⟩ = some (.int .i64 t306) := (blk_cell BK311.out 5).trans rfl
                                have hcz82_6 : w43.cell? ⟨gb311, 6, none⟩ = some (.int .i64 t307) := (blk_cell BK311.out 6).trans rfl
                                have hcz82_7 : w43.cell? ⟨gb311, 7, none⟩ = some (.int .i64 t308) := (blk_cell BK311.out 7).trans rfl
                                have hcz82_8 : w43.cell? ⟨gb311, 8, none⟩ = some (.int .i64 t309) := (blk_cell BK311.out 8).trans rfl
                                have hfz82_0 := blk_frozen BK311.out 0
                                have hfz82_1 := blk_frozen BK311.out 1
                                have hfz82_2 := blk_frozen BK311.out 2
                                have hfz82_3 := blk_frozen BK311.out 3
                                have hfz82_4 := blk_frozen BK311.out 4
                                have hfz82_5 := blk_frozen BK311.out 5
                                have hfz82_6 := blk_frozen BK311.out 6
                                have hfz82_7 := blk_frozen BK311.out 7
                                have hfz82_8 := blk_frozen BK311.out 8
                                go_wp2
                                go_meet
                                case rel => exact ⟨_, (false), (by first | rfl | (simp; done) | (simp [*]; done)), H', ⟨by have := HJ5.out; first | omega | exact Nat.le_refl _⟩, ⟨by (with_reducible repeat (first | apply Kd.LI_alloc | apply Kd.LI_drewN | apply Kd.LI_drew)); exact Kd.LI_mono HO280.out (fun _ hk => hk.1.2)⟩, ⟨by (with_reducible repeat (first | apply Kd.LB_alloc | apply Kd.LB_drewN | apply Kd.LB_drew)); exact Kd.LB_mono HO283.out (fun _ hk => hk.1.2)⟩, ⟨by (with_reducible repeat (first | apply Kd.R_alloc | apply Kd.R_drewN | apply Kd.R_drew)); exact Kd.R_mono HO286.out (fun _ hk => hk.1.2)⟩, ⟨by (with_reducible repeat (first | apply Kd.R_alloc | apply Kd.R_drewN | apply Kd.R_drew)); exact Kd.R_mono HO289.out (fun _ hk => hk.1.2)⟩, ⟨by (with_reducible repeat (first | refine blk_drewN ?_ _ | refine blk_drew ?_ | refine blk_alloc ?_ _)); exact BK300.out⟩, ⟨by (with_reducible repeat (first | refine blk_drewN ?_ _ | refine blk_drew ?_ | refine blk_alloc ?_ _)); exact BK311.out⟩, ⟨by repeat (first | (with_reducible first | exact HB.out | apply below_alloc | apply pw_below_drewN | apply below_drew1 | refine below_set ?_ GE300.out | refine below_set ?_ GE311.out) | exact HB.out)⟩⟩
                          · rw [if_neg c51] at H
                            have c51b0 : (t293 == t304) = false := beq_eq_false_iff_ne.mpr c51
                            have c51b1 : (t293 != t304) = true := bne_iff_ne.mpr c51
                            as_aux_lemma =>
                              have H' := Aside0.mk H
                              clear H
                              have hnb83 := NB300_311.out
                              have hnc83 := NB311_300.out
                              have hcz84_0 : w43.cell? ⟨gb300, 0, none⟩ = some (.int .i64 t290) := (blk_cell BK300.out 0).trans rfl
                              have hcz84_1 : w43.cell? ⟨gb300, 1, none⟩ = some (.int .i64 t291) := (blk_cell BK300.out 1).trans rfl
                              have hcz84_2 : w43.cell? ⟨gb300, 2, none⟩ = some (.int .i64 t292) := (blk_cell BK300.out 2).trans rfl
                              have hcz84_3 : w43.cell? ⟨gb300, 3, none⟩ = some (.int .i64 t293) := (blk_cell BK300.out 3).trans rfl
                              have hcz84_4 : w43.cell? ⟨gb300, 4, none⟩ = some (.int .i64 t294) := (blk_cell BK300.out 4).trans rfl
                              have hcz84_5 : w43.cell? ⟨gb300, 5, none⟩ = some (.int .i64 t295) := (blk_cell BK300.out 5).trans rfl
                              have hcz84_6 : w43.cell? ⟨gb300, 6, none⟩ = some (.int .i64 t296) := (blk_cell BK300.out 6).trans rfl
                              have hcz84_7 : w43.cell? ⟨gb300, 7, none⟩ = some (.int .i64 t297) := (blk_cell BK300.out 7).trans rfl
                              have hcz84_8 : w43.cell? ⟨gb300, 8, none⟩ = some (.int .i64 t298) := (blk_cell BK300.out 8).trans rfl
                              have hfz84_0 := blk_frozen BK300.out 0
                              have hfz84_1 := blk_frozen BK300.out 1
                              have hfz84_2 := blk_frozen BK300.out 2
                              have hfz84_3 := blk_frozen BK300.out 3
                              have hfz84_4 := blk_frozen BK300.out 4
                              have hfz84_5 := blk_frozen BK300.out 5
                              have hfz84_6 := blk_frozen BK300.out 6
                              have hfz84_7 := blk_frozen BK300.out 7
                              have hfz84_8 := blk_frozen BK300.out 8
                              have hcz85_0 : w43.cell? ⟨gb311, 0, none⟩ = some (.int .i64 t301) := (blk_cell BK311.out 0).trans rfl
                              have hcz85_1 : w43.cell? ⟨gb311, 1, none⟩ = some (.int .i64 t302) := (blk_cell BK311.out 1).trans rfl
                              have hcz85_2 : w43.cell? ⟨gb311, 2, none⟩ = some (.int .i64 t303) := (blk_cell BK311.out 2).trans rfl
                              have hcz85_3 : w43.cell? ⟨gb311, 3, none⟩ = some (.int .i64 t304) := (blk_cell BK311.out 3).trans rfl
                              have hcz85_4 : w43.cell? ⟨gb311, 4, none⟩ = some (.int .i64 t305) := (blk_cell BK311.out 4).trans rfl
                              have hcz85_5 : w43.cell? ⟨gb311, 5, none⟩ = some (.int .i64 t306) := (blk_cell BK311.out 5).trans rfl
                              have hcz85_6 : w43.cell? ⟨gb311, 6, none⟩ = some (.int .i64 t307) := (blk_cell BK311.out 6).trans rfl
                              have hcz85_7 : w43.cell? ⟨gb311, 7, none⟩ = some (.int .i64 t308) := (blk_cell BK311.out 7).trans rfl
                              have hcz85_8 : w43.cell? ⟨gb311, 8, none⟩ = some (.int .i64 t309) := (blk_cell BK311.out 8).trans rfl
                              have hfz85_0 := blk_frozen BK311.out 0
                              have hfz85_1 := blk_frozen BK311.out 1
                              have hfz85_2 := blk_frozen BK311.out 2
                              have hfz85_3 := blk_frozen BK311.out 3
                              have hfz85_4 := blk_frozen BK311.out 4
                              have hfz85_5 := blk_frozen BK311.out 5
                              have hfz85_6 := blk_frozen BK311.out 6
                              have hfz85_7 := blk_frozen BK311.out 7
                              have hfz85_8 := blk_frozen BK311.out 8
                              go_wp2
                              go_meet
                              case rel => exact ⟨_, (false), (by first | rfl | (simp; done) | (simp [*]; done)), H', ⟨by have := HJ5.out; first | omega | exact Nat.le_refl _⟩, ⟨by (with_reducible repeat (first | apply Kd.LI_alloc | apply Kd.LI_drewN | apply Kd.LI_drew)); exact Kd.LI_mono HO280.out (fun _ hk => hk.1.2)⟩, ⟨by (with_reducible repeat (first | apply Kd.LB_alloc | apply Kd.LB_drewN | apply Kd.LB_drew)); exact Kd.LB_mono HO283.out (fun _ hk => hk.1.2)⟩, ⟨by (with_reducible repeat (first | apply Kd.R_alloc | apply Kd.R_drewN | apply Kd.R_drew)); exact Kd.R_mono HO286.out (fun _ hk => hk.1.2)⟩, ⟨by (with_reducible repeat (first | apply Kd.R_alloc | apply Kd.R_drewN | apply Kd.R_drew)); exact Kd.R_mono HO289.out (fun _ hk => hk.1.2)⟩, ⟨by (with_reducible repeat (first | refine blk_drewN ?_ _ | refine blk_drew ?_ | refine blk_alloc ?_ _)); exact BK300.out⟩, ⟨by (with_reducible repeat (first | refine blk_drewN ?_ _ | refine blk_drew ?_ | refine blk_alloc ?_ _)); exact BK311.out⟩, ⟨by repeat (first | (with_reducible first | exact HB.out | apply below_alloc | apply pw_below_drewN | apply below_drew1 | refine below_set ?_ GE300.out | refine below_set ?_ GE311.out) | exact HB.out)⟩⟩
                        · rw [if_neg c50] at H
                          have c50b0 : (t292 == t303) = false := beq_eq_false_iff_ne.mpr c50
                          have c50b1 : (t292 != t303) = true := bne_iff_ne.mpr c50
                          as_aux_lemma =>
                            have H' := Aside0.mk H
                            clear H
                            have hnb86 := NB300_311.out
                            have hnc86 := NB311_300.out
                            have hcz87_0 : w43.cell? ⟨gb300, 0, none⟩ = some (.int .i64 t290) := (blk_cell BK300.out 0).trans rfl
                            have hcz87_1 : w43.cell? ⟨gb300, 1, none⟩ = some (.int .i64 t291) := (blk_cell BK300.out 1).trans rfl
                            have hcz87_2 : w43.cell? ⟨gb300, 2, none⟩ = some (.int .i64 t292) := (blk_cell BK300.out 2).trans rfl
                            have hcz87_3 : w43.cell? ⟨gb300, 3, none⟩ = some (.int .i64 t293) := (blk_cell BK300.out 3).trans rfl
                            have hcz87_4 : w43.cell? ⟨gb300, 4, none⟩ = some (.int .i64 t294) := (blk_cell BK300.out 4).trans rfl
                            have hcz87_5 : w43.cell? ⟨gb300, 5, none⟩ = some (.int .i64 t295) := (blk_cell BK300.out 5).trans rfl
                            have hcz87_6 : w43.cell? ⟨gb300, 6, none⟩ = some (.int .i64 t296) := (blk_cell BK300.out 6).trans rfl
                            have hcz87_7 : w43.cell? ⟨gb300, 7, none⟩ = some (.int .i64 t297) := (blk_cell BK300.out 7).trans rfl
                            have hcz87_8 : w43.cell? ⟨gb300, 8, none⟩ = some (.int .i64 t298) := (blk_cell BK300.out 8).trans rfl
                            have hfz87_0 := blk_frozen BK300.out 0
                            have hfz87_1 := blk_frozen BK300.out 1
                            have hfz87_2 := blk_frozen BK300.out 2
                            have hfz87_3 := blk_frozen BK300.out 3
                            have hfz87_4 := blk_frozen BK300.out 4
                            have hfz87_5 := blk_frozen BK300.out 5
                            have hfz87_6 := blk_frozen BK300.out 6
                            have hfz87_7 := blk_frozen BK300.out 7
                            have hfz87_8 := blk_frozen BK300.out 8
                            have hcz88_0 : w43.cell? ⟨gb311, 0, none⟩ = some (.int .i64 t301) := (blk_cell BK311.out 0).trans rfl
                            have hcz88_1 : w43.cell? ⟨gb311, 1, none⟩ = some (.int .i64 t302) := (blk_cell BK311.out 1).trans rfl
                            have hcz88_2 : w43.cell? ⟨gb311, 2, none⟩ = some (.int .i64 t303) := (blk_cell BK311.out 2).trans rfl
                            have hcz88_3 : w43.cell? ⟨gb311, 3, none⟩ = some (.int .i64 t304) := (blk_cell BK311.out 3).trans rfl
                            have hcz88_4 : w43.cell? ⟨gb311, 4, none⟩ = some (.int .i64 t305) := (blk_cell BK311.out 4).trans rfl
                            have hcz88_5 : w43.cell? ⟨gb311, 5, none⟩ = some (.int .i64 t306) := (blk_cell BK311.out 5).trans rfl
                            have hcz88_6 : w43.cell? ⟨gb311, 6, none⟩ = some (.int .i64 t307) := (blk_cell BK311.out 6).trans rfl
                            have hcz88_7 : w43.cell? ⟨gb311, 7, none⟩ = some (.int .i64 t308) := (blk_cell BK311.out 7).trans rfl
                            have hcz88_8 : w43.cell? ⟨gb311, 8, none⟩ = some (.int .i64 t309) := (blk_cell BK311.out 8).trans rfl
                            have hfz88_0 := blk_frozen BK311.out 0
                            have hfz88_1 := blk_frozen BK311.out 1
                            have hfz88_2 := blk_frozen BK311.out 2
                            have hfz88_3 := blk_frozen BK311.out 3
                            have hfz88_4 := blk_frozen BK311.out 4
                            have hfz88_5 := blk_frozen BK311.out 5
                            have hfz88_6 := blk_frozen BK311.out 6
                            have hfz88_7 := blk_frozen BK311.out 7
                            have hfz88_8 := blk_frozen BK311.out 8
                            go_wp2
                            go_meet
                            case rel => exact ⟨_, (false), (by first | rfl | (simp; done) | (simp [*]; done)), H', ⟨by have := HJ5.out; first | omega | exact Nat.le_refl _⟩, ⟨by (with_reducible repeat (first | apply Kd.LI_alloc | apply Kd.LI_drewN | apply Kd.LI_drew)); exact Kd.LI_mono HO280.out (fun _ hk => hk.1.2)⟩, ⟨by (with_reducible repeat (first | apply Kd.LB_alloc | apply Kd.LB_drewN | apply Kd.LB_drew)); exact Kd.LB_mono HO283.out (fun _ hk => hk.1.2)⟩, ⟨by (with_reducible repeat (first | apply Kd.R_alloc | apply Kd.R_drewN | apply Kd.R_drew)); exact Kd.R_mono HO286.out (fun _ hk => hk.1.2)⟩, ⟨by (with_reducible repeat (first | apply Kd.R_alloc | apply Kd.R_drewN | apply Kd.R_drew)); exact Kd.R_mono HO289.out (fun _ hk => hk.1.2)⟩, ⟨by (with_reducible repeat (first | refine blk_drewN ?_ _ | refine blk_drew ?_ | refine blk_alloc ?_ _)); exact BK300.out⟩, ⟨by (with_reducible repeat (first | refine blk_drewN ?_ _ | refine blk_drew ?_ | refine blk_alloc ?_ _)); exact BK311.out⟩, ⟨by repeat (first | (with_reducible first | exact HB.out | apply below_alloc | apply pw_below_drewN | apply below_drew1 | refine below_set ?_ GE300.out | refine below_set ?_ GE311.out) | exact HB.out)⟩⟩
                      · rw [if_neg c49] at H
                        have c49b0 : (t291 == t302) = false := beq_eq_false_iff_ne.mpr c49
                        have c49b1 : (t291 != t302) = true := bne_iff_ne.mpr c49
                        as_aux_lemma =>
                          have H' := Aside0.mk H
                          clear H
                          have hnb89 := NB300_311.out
                          have hnc89 := NB311_300.out
                          have hcz90_0 : w43.cell? ⟨gb300, 0, none⟩ = some (.int .i64 t290) := (blk_cell BK300.out 0).trans rfl
                          have hcz90_1 : w43.cell? ⟨gb300, 1, none⟩ = some (.int .i64 t291) := (blk_cell BK300.out 1).trans rfl
                          have hcz90_2 : w43.cell? ⟨gb300, 2, none⟩ = some (.int .i64 t292) := (blk_cell BK300.out 2).trans rfl
                          have hcz90_3 : w43.cell? ⟨gb300, 3, none⟩ = some (.int .i64 t293) := (blk_cell BK300.out 3).trans rfl
                          have hcz90_4 : w43.cell? ⟨gb300, 4, none⟩ = some (.int .i64 t294) := (blk_cell BK300.out 4).trans rfl
                          have hcz90_5 : w43.cell? ⟨gb300, 5, none⟩ = some (.int .i64 t295) := (blk_cell BK300.out 5).trans rfl
                          have hcz90_6 : w43.cell? ⟨gb300, 6, none⟩ = some (.int .i64 t296) := (blk_cell BK300.out 6).trans rfl
                          have hcz90_7 : w43.cell? ⟨gb300, 7, none⟩ = some (.int .i64 t297) := (blk_cell BK300.out 7).trans rfl
                          have hcz90_8 : w43.cell? ⟨gb300, 8, none⟩ = some (.int .i64 t298) := (blk_cell BK300.out 8).trans rfl
                          have hfz90_0 := blk_frozen BK300.out 0
                          have hfz90_1 := blk_frozen BK300.out 1
                          have hfz90_2 := blk_frozen BK300.out 2
                          have hfz90_3 := blk_frozen BK300.out 3
                          have hfz90_4 := blk_frozen BK300.out 4
                          have hfz90_5 := blk_frozen BK300.out 5
                          have hfz90_6 := blk_frozen BK300.out 6
                          have hfz90_7 := blk_frozen BK300.out 7
                          have hfz90_8 := blk_frozen BK300.out 8
                          have hcz91_0 : w43.cell? ⟨gb311, 0, none⟩ = some (.int .i64 t301) := (blk_cell BK311.out 0).trans rfl
                          have hcz91_1 : w43.cell? ⟨gb311, 1, none⟩ = some (.int .i64 t302) := (blk_cell BK311.out 1).trans rfl
                          have hcz91_2 : w43.cell? ⟨gb311, 2, none⟩ = some (.int .i64 t303) := (blk_cell BK311.out 2).trans rfl
                          have hcz91_3 : w43.cell? ⟨gb311, 3, none⟩ = some (.int .i64 t304) := (blk_cell BK311.out 3).trans rfl
                          have hcz91_4 : w43.cell? ⟨gb311, 4, none⟩ = some (.int .i64 t305) := (blk_cell BK311.out 4).trans rfl
                          have hcz91_5 : w43.cell? ⟨gb311, 5, none⟩ = some (.int .i64 t306) := (blk_cell BK311.out 5).trans rfl
                          have hcz91_6 : w43.cell? ⟨gb311, 6, none⟩ = some (.int .i64 t307) := (blk_cell BK311.out 6).trans rfl
                          have hcz91_7 : w43.cell? ⟨gb311, 7, none⟩ = some (.int .i64 t308) := (blk_cell BK311.out 7).trans rfl
                          have hcz91_8 : w43.cell? ⟨gb311, 8, none⟩ = some (.int .i64 t309) := (blk_cell BK311.out 8).trans rfl
                          have hfz91_0 := blk_frozen BK311.out 0
                          have hfz91_1 := blk_frozen BK311.out 1
                          have hfz91_2 := blk_frozen BK311.out 2
                          have hfz91_3 := blk_frozen BK311.out 3
                          have hfz91_4 := blk_frozen BK311.out 4
                          have hfz91_5 := blk_frozen BK311.out 5
                          have hfz91_6 := blk_frozen BK311.out 6
                          have hfz91_7 := blk_frozen BK311.out 7
                          have hfz91_8 := blk_frozen BK311.out 8
                          go_wp2
                          go_meet
                          case rel => exact ⟨_, (false), (by first | rfl | (simp; done) | (simp [*]; done)), H', ⟨by have := HJ5.out; first | omega | exact Nat.le_refl _⟩, ⟨by (with_reducible repeat (first | apply Kd.LI_alloc | apply Kd.LI_drewN | apply Kd.LI_drew)); exact Kd.LI_mono HO280.out (fun _ hk => hk.1.2)⟩, ⟨by (with_reducible repeat (first | apply Kd.LB_alloc | apply Kd.LB_drewN | apply Kd.LB_drew)); exact Kd.LB_mono HO283.out (fun _ hk => hk.1.2)⟩, ⟨by (with_reducible repeat (first | apply Kd.R_alloc | apply Kd.R_drewN | apply Kd.R_drew)); exact Kd.R_mono HO286.out (fun _ hk => hk.1.2)⟩, ⟨by (with_reducible repeat (first | apply Kd.R_alloc | apply Kd.R_drewN | apply Kd.R_drew)); exact Kd.R_mono HO289.out (fun _ hk => hk.1.2)⟩, ⟨by (with_reducible repeat (first | refine blk_drewN ?_ _ | refine blk_drew ?_ | refine blk_alloc ?_ _)); exact BK300.out⟩, ⟨by (with_reducible repeat (first | refine blk_drewN ?_ _ | refine blk_drew ?_ | refine blk_alloc ?_ _)); exact BK311.out⟩, ⟨by repeat (first | (with_reducible first | exact HB.out | apply below_alloc | apply pw_below_drewN | apply below_drew1 | refine below_set ?_ GE300.out | refine below_set ?_ GE311.out) | exact HB.out)⟩⟩
                    · rw [if_neg c48] at H
                      have c48b0 : (t290 == t301) = false := beq_eq_false_iff_ne.mpr c48
                      have c48b1 : (t290 != t301) = true := bne_iff_ne.mpr c48
                      as_aux_lemma =>
                        have H' := Aside0.mk H
                        clear H
                        have hnb92 := NB300_311.out
                        have hnc92 := NB311_300.out
                        have hcz93_0 : w43.cell? ⟨gb300, 0, none⟩ = some (.int .i64 t290) := (blk_cell BK300.out 0).trans rfl
                        have hcz93_1 : w43.cell? ⟨gb300, 1, none⟩ = some (.int .i64 t291) := (blk_cell BK300.out 1).trans rfl
                        have hcz93_2 : w43.cell? ⟨gb300, 2, none⟩ = some (.int .i64 t292) := (blk_cell BK300.out 2).trans rfl
                        have hcz93_3 : w43.cell? ⟨gb300, 3, none⟩ = some (.int .i64 t293) := (blk_cell BK300.out 3).trans rfl
                        have hcz93_4 : w43.cell? ⟨gb300, 4, none⟩ = some (.int .i64 t294) := (blk_cell BK300.out 4).trans rfl
                        have hcz93_5 : w43.cell? ⟨gb300, 5, none⟩ = some (.int .i64 t295) := (blk_cell BK300.out 5).trans rfl
                        have hcz93_6 : w43.cell? ⟨gb300, 6, none⟩ = some (.int .i64 t296) := (blk_cell BK300.out 6).trans rfl
                        have hcz93_7 : w43.cell? ⟨gb300, 7, none⟩ = some (.int .i64 t297) := (blk_cell BK300.out 7).trans rfl
                        have hcz93_8 : w43.cell? ⟨gb300, 8, none⟩ = some (.int .i64 t298) := (blk_cell BK300.out 8).trans rfl
                        have hfz93_0 := blk_frozen BK300.out 0
                        have hfz93_1 := blk_frozen BK300.out 1
                        have hfz93_2 := blk_frozen BK300.out 2
                        have hfz93_3 := blk_frozen BK300.out 3
                        have hfz93_4 := blk_frozen BK300.out 4
                        have hfz93_5 := blk_frozen BK300.out 5
                        have hfz93_6 := blk_frozen BK300.out 6
                        have hfz93_7 := blk_frozen BK300.out 7
                        have hfz93_8 := blk_frozen BK300.out 8
                        have hcz94_0 : w43.cell? ⟨gb311, 0, none⟩ = some (.int .i64 t301) := (blk_cell BK311.out 0).trans rfl
                        have hcz94_1 : w43.cell? ⟨gb311, 1, none⟩ = some (.int .i64 t302) := (blk_cell BK311.out 1).trans rfl
                        have hcz94_2 : w43.cell? ⟨gb311, 2, none⟩ = some (.int .i64 t303) := (blk_cell BK311.out 2).trans rfl
                        have hcz94_3 : w43.cell? ⟨gb311, 3, none⟩ = some (.int .i64 t304) := (blk_cell BK311.out 3).trans rfl
                        have hcz94_4 : w43.cell? ⟨gb311, 4, none⟩ = some (.int .i64 t305) := (blk_cell BK311.out 4).trans rfl
                        have hcz94_5 : w43.cell? ⟨gb311, 5, none⟩ = some (.int .i64 t306) := (blk_cell BK311.out 5).trans rfl
                        have hcz94_6 : w43.cell? ⟨gb311, 6, none⟩ = some (.int .i64 t307) := (blk_cell BK311.out 6).trans rfl
                        have hcz94_7 : w43.cell? ⟨gb311, 7, none⟩ = some (.int .i64 t308) := (blk_cell BK311.out 7).trans rfl
                        have hcz94_8 : w43.cell? ⟨gb311, 8, none⟩ = some (.int .i64 t309) := (blk_cell BK311.out 8).trans rfl
                        have hfz94_0 := blk_frozen BK311.out 0
                        have hfz94_1 := blk_frozen BK311.out 1
                        have hfz94_2 := blk_frozen BK311.out 2
                        have hfz94_3 := blk_frozen BK311.out 3
                        have hfz94_4 := blk_frozen BK311.out 4
                        have hfz94_5 := blk_frozen BK311.out 5
                        have hfz94_6 := blk_frozen BK311.out 6
                        have hfz94_7 := blk_frozen BK311.out 7
                        have hfz94_8 := blk_frozen BK311.out 8
                        go_wp2
                        go_meet
                        case rel => exact ⟨_, (false), (by first | rfl | (simp; done) | (simp [*]; done)), H', ⟨by have := HJ5.out; first | omega | exact Nat.le_refl _⟩, ⟨by (with_reducible repeat (first | apply Kd.LI_alloc | apply Kd.LI_drewN | apply Kd.LI_drew)); exact Kd.LI_mono HO280.out (fun _ hk => hk.1.2)⟩, ⟨by (with_reducible repeat (first | apply Kd.LB_alloc | apply Kd.LB_drewN | apply Kd.LB_drew)); exact Kd.LB_mono HO283.out (fun _ hk => hk.1.2)⟩, ⟨by (with_reducible repeat (first | apply Kd.R_alloc | apply Kd.R_drewN | apply Kd.R_drew)); exact Kd.R_mono HO286.out (fun _ hk => hk.1.2)⟩, ⟨by (with_reducible repeat (first | apply Kd.R_alloc | apply Kd.R_drewN | apply Kd.R_drew)); exact Kd.R_mono HO289.out (fun _ hk => hk.1.2)⟩, ⟨by (with_reducible repeat (first | refine blk_drewN ?_ _ | refine blk_drew ?_ | refine blk_alloc ?_ _)); exact BK300.out⟩, ⟨by (with_reducible repeat (first | refine blk_drewN ?_ _ | refine blk_drew ?_ | refine blk_alloc ?_ _)); exact BK311.out⟩, ⟨by repeat (first | (with_reducible first | exact HB.out | apply below_alloc | apply pw_below_drewN | apply below_drew1 | refine below_set ?_ GE300.out | refine below_set ?_ GE311.out) | exact HB.out)⟩⟩
                  · rw [if_neg c47] at H
                    have c47b0 : (t299 == t310) = false := by simpa using c47
                    (try (have c47b1 : decide (t299 = t310) = false := by simpa using c47))
                    (try (have c47b2 : (t299 == t310) = false := by simpa using c47))
                    (try (have c47b3 : ¬ (t299 = t310) := by simpa using c47))
                    clear c47
                    as_aux_lemma =>
                      have H' := Aside0.mk H
                      clear H
                      go_wp2
                      go_meet
                      case rel => exact ⟨_, (false), (by first | rfl | (simp; done) | (simp [*]; done)), H', ⟨by have := HJ5.out; first | omega | exact Nat.le_refl _⟩, ⟨by (with_reducible repeat (first | apply Kd.LI_alloc | apply Kd.LI_drewN | apply Kd.LI_drew)); exact Kd.LI_mono HO280.out (fun _ hk => hk.1.2)⟩, ⟨by (with_reducible repeat (first | apply Kd.LB_alloc | apply Kd.LB_drewN | apply Kd.LB_drew)); exact Kd.LB_mono HO283.out (fun _ hk => hk.1.2)⟩, ⟨by (with_reducible repeat (first | apply Kd.R_alloc | apply Kd.R_drewN | apply Kd.R_drew)); exact Kd.R_mono HO286.out (fun _ hk => hk.1.2)⟩, ⟨by (with_reducible repeat (first | apply Kd.R_alloc | apply Kd.R_drewN | apply Kd.R_drew)); exact Kd.R_mono HO289.out (fun _ hk => hk.1.2)⟩, ⟨by (with_reducible repeat (first | refine blk_drewN ?_ _ | refine blk_drew ?_ | refine blk_alloc ?_ _)); exact BK300.out⟩, ⟨by (with_reducible repeat (first | refine blk_drewN ?_ _ | refine blk_drew ?_ | refine blk_alloc ?_ _)); exact BK311.out⟩, ⟨by repeat (first | (with_reducible first | exact HB.out | apply below_alloc | apply pw_below_drewN | apply below_drew1 | refine below_set ?_ GE300.out | refine below_set ?_ GE311.out) | exact HB.out)⟩⟩
                · replace c46 := Bool.eq_false_iff.mpr c46
                  subst c46
                  have H1 : (chatelainelaw11_LayNear.j1 kj5 l3 l4 t278 t281 t284 t287 false) = some r := by rw [if_neg (show ¬ (false = true) by decide)] at H; exact H
                  clear H
                  have H := H1
                  clear H1
                  as_aux_lemma =>
                    have H' := Aside0.mk H
                    clear H
                    go_wp2
                    go_meet
                    case rel => exact ⟨_, (false), (by first | rfl | (simp; done) | (simp [*]; done)), H', ⟨by have := HJ5.out; first | omega | exact Nat.le_refl _⟩, ⟨by (with_reducible repeat (first | apply Kd.LI_alloc | apply Kd.LI_drewN | apply Kd.LI_drew)); exact Kd.LI_mono HO280.out (fun _ hk => hk.1.2)⟩, ⟨by (with_reducible repeat (first | apply Kd.LB_alloc | apply Kd.LB_drewN | apply Kd.LB_drew)); exact Kd.LB_mono HO283.out (fun _ hk => hk.1.2)⟩, ⟨by (with_reducible repeat (first | apply Kd.R_alloc | apply Kd.R_drewN | apply Kd.R_drew)); exact Kd.R_mono HO286.out (fun _ hk => hk.1.2)⟩, ⟨by (with_reducible repeat (first | apply Kd.R_alloc | apply Kd.R_drewN | apply Kd.R_drew)); exact Kd.R_mono HO289.out (fun _ hk => hk.1.2)⟩, ⟨by (with_reducible repeat (first | refine blk_drewN ?_ _ | refine blk_drew ?_ | refine blk_alloc ?_ _)); exact BK300.out⟩, ⟨by (with_reducible repeat (first | refine blk_drewN ?_ _ | refine blk_drew ?_ | refine blk_alloc ?_ _)); exact BK311.out⟩, ⟨by repeat (first | (with_reducible first | exact HB.out | apply below_alloc | apply pw_below_drewN | apply below_drew1 | refine below_set ?_ GE300.out | refine below_set ?_ GE311.out) | exact HB.out)⟩⟩
            · replace c40 := Bool.eq_false_iff.mpr c40
              subst c40
              have H1 : (chatelainelaw11_LayNear.j1 kj5 l3 l4 t278 t281 t284 t287 false) = some r := by rw [if_neg (show ¬ (false = true) by decide)] at H; exact H
              clear H
              have H := H1
              clear H1
              as_aux_lemma =>
                have H' := Aside0.mk H
                clear H
                go_wp2
                go_meet
                case rel => exact ⟨_, (false), (by first | rfl | (simp; done) | (simp [*]; done)), H', ⟨by have := HJ5.out; first | omega | exact Nat.le_refl _⟩, ⟨by (with_reducible repeat (first | apply Kd.LI_alloc | apply Kd.LI_drewN | apply Kd.LI_drew)); exact Kd.LI_mono HO280.out (fun _ hk => hk.2)⟩, ⟨by (with_reducible repeat (first | apply Kd.LB_alloc | apply Kd.LB_drewN | apply Kd.LB_drew)); exact Kd.LB_mono HO283.out (fun _ hk => hk.1.2)⟩, ⟨by (with_reducible repeat (first | apply Kd.R_alloc | apply Kd.R_drewN | apply Kd.R_drew)); exact Kd.R_mono HO286.out (fun _ hk => hk.1.2)⟩, ⟨by (with_reducible repeat (first | apply Kd.R_alloc | apply Kd.R_drewN | apply Kd.R_drew)); exact Kd.R_mono HO289.out (fun _ hk => hk.2)⟩, ⟨by (with_reducible repeat (first | refine blk_drewN ?_ _ | refine blk_drew ?_ | refine blk_alloc ?_ _)); exact BK300.out⟩, ⟨by (with_reducible repeat (first | refine blk_drewN ?_ _ | refine blk_drew ?_ | refine blk_alloc ?_ _)); exact BK311.out⟩, ⟨by repeat (first | (with_reducible first | exact HB.out | apply below_alloc | apply pw_below_drewN | apply below_drew1 | refine below_set ?_ GE300.out | refine below_set ?_ GE311.out) | exact HB.out)⟩⟩
        case rest =>
          clear HC19
          try clear p2
          try clear c4
          try clear c5
          try clear c6
          try clear c7
          try clear c8
          try clear c9
          try clear c40
          try clear c46
          try clear c47
          try clear c47b0
          try clear c47b1
          try clear c47b2
          try clear c48
          try clear c48b0
          try clear c48b1
          try clear c49
          try clear c49b0
          try clear c49b1
          try clear c50
          try clear c50b0
          try clear c50b1
          try clear c51
          try clear c51b0
          try clear c51b1
          try clear c52
          try clear c52b0
          try clear c52b1
          try clear c53
          try clear c53b0
          try clear c53b1
          try clear c54
          try clear c54b0
          try clear c54b1
          try clear c55
          try clear c55b0
          try clear c55b1
          try clear c56
          try clear c56b0
          try clear c56b1
          try clear c57
          try clear c57b0
          try clear c57b1
          try clear c58
          try clear c58b0
          try clear c58b1
          try clear c59
          try clear c62
          try clear c65
          try clear c68
          try clear c71
          try clear c74
          try clear c77
          try clear c80
          try clear c83
          try clear c86
          try clear c89
          try clear c92
          try clear hcz60_0
          try clear hcz60_1
          try clear hcz60_2
          try clear hcz60_3
          try clear hcz60_4
          try clear hcz60_5
          try clear hcz60_6
          try clear hcz60_7
          try clear hcz60_8
          try clear hcz61_0
          try clear hcz61_1
          try clear hcz61_2
          try clear hcz61_3
          try clear hcz61_4
          try clear hcz61_5
          try clear hcz61_6
          try clear hcz61_7
          try clear hcz61_8
          try clear hcz63_0
          try clear hcz63_1
          try clear hcz63_2
          try clear hcz63_3
          try clear hcz63_4
          try clear hcz63_5
          try clear hcz63_6
          try clear hcz63_7
          try clear hcz63_8
          try clear hcz64_0
          try clear hcz64_1
          try clear hcz64_2
          try clear hcz64_3
          try clear hcz64_4
          try clear hcz64_5
          try clear hcz64_6
          try clear hcz64_7
          try clear hcz64_8
          try clear hcz66_0
          try clear hcz66_1
          try clear hcz66_2
          try clear hcz66_3
          try clear hcz66_4
          try clear hcz66_5
          try clear hcz66_6
          try clear hcz66_7
          try clear hcz66_8
          try clear hcz67_0
          try clear hcz67_1
          try clear hcz67_2
          try clear hcz67_3
          try clear hcz67_4
          try clear hcz67_5
          try clear hcz67_6
          try clear hcz67_7
          try clear hcz67_8
          try clear hcz69_0
          try clear hcz69_1
          try clear hcz69_2
          try clear hcz69_3
          try clear hcz69_4
          try clear hcz69_5
          try clear hcz69_6
          try clear hcz69_7
          try clear hcz69_8
          try clear hcz70_0
          try clear hcz70_1
          try clear hcz70_2
          try clear hcz70_3
          try clear hcz70_4
          try clear hcz70_5
          try clear hcz70_6
          try clear hcz70_7
          try clear hcz70_8
          try clear hcz72_0
          try clear hcz72_1
          try clear hcz72_2
          try clear hcz72_3
          try clear hcz72_4
          try clear hcz72_5
          try clear hcz72_6
          try clear hcz72_7
          try clear hcz72_8
          try clear hcz73_0
          try clear hcz73_1
          try clear hcz73_2
          try clear hcz73_3
          try clear hcz73_4
          try clear hcz73_5
          try clear hcz73_6
          try clear hcz73_7
          try clear hcz73_8
          try clear hcz75_0
          try clear hcz75_1
          try clear hcz75_2
          try clear hcz75_3
          try clear hcz75_4
          try clear hcz75_5
          try clear hcz75_6
          try clear hcz75_7
          try clear hcz75_8
          try clear hcz76_0
          try clear hcz76_1
          try clear hcz76_2
          try clear hcz76_3
          try clear hcz76_4
          try clear hcz76_5
          try clear hcz76_6
          try clear hcz76_7
          try clear hcz76_8
          try clear hcz78_0
          try clear hcz78_1
          try clear hcz78_2
          try clear hcz78_3
          try clear hcz78_4
          try clear hcz78_5
          try clear hcz78_6
          try clear hcz78_7
          try clear hcz78_8
          try clear hcz79_0
          try clear hcz79_1
          try clear hcz79_2
          try clear hcz79_3
          try clear hcz79_4
          try clear hcz79_5
          try clear hcz79_6
          try clear hcz79_7
          try clear hcz79_8
          try clear hcz81_0
          try clear hcz81_1
          try clear hcz81_2
          try clear hcz81_3
          try clear hcz81_4
          try clear hcz81_5
          try clear hcz81_6
          try clear hcz81_7
          try clear hcz81_8
          try clear hcz82_0
          try clear hcz82_1
          try clear hcz82_2
          try clear hcz82_3
          try clear hcz82_4
          try clear hcz82_5
          try clear hcz82_6
          try clear hcz82_7
          try clear hcz82_8
          try clear hcz84_0
          try clear hcz84_1
          try clear hcz84_2
          try clear hcz84_3
          try clear hcz84_4
          try clear hcz84_5
          try clear hcz84_6
          try clear hcz84_7
          try clear hcz84_8
          try clear hcz85_0
          try clear hcz85_1
          try clear hcz85_2
          try clear hcz85_3
          try clear hcz85_4
          try clear hcz85_5
          try clear hcz85_6
          try clear hcz85_7
          try clear hcz85_8
          try clear hcz87_0
          try clear hcz87_1
          try clear hcz87_2
          try clear hcz87_3
          try clear hcz87_4
          try clear hcz87_5
          try clear hcz87_6
          try clear hcz87_7
          try clear hcz87_8
          try clear hcz88_0
          try clear hcz88_1
          try clear hcz88_2
          try clear hcz88_3
          try clear hcz88_4
          try clear hcz88_5
          try clear hcz88_6
          try clear hcz88_7
          try clear hcz88_8
          try clear hcz90_0
          try clear hcz90_1
          try clear hcz90_2
          try clear hcz90_3
          try clear hcz90_4
          try clear hcz90_5
          try clear hcz90_6
          try clear hcz90_7
          try clear hcz90_8
          try clear hcz91_0
          try clear hcz91_1
          try clear hcz91_2
          try clear hcz91_3
          try clear hcz91_4
          try clear hcz91_5
          try clear hcz91_6
          try clear hcz91_7
          try clear hcz91_8
          try clear hcz93_0
          try clear hcz93_1
          try clear hcz93_2
          try clear hcz93_3
          try clear hcz93_4
          try clear hcz93_5
          try clear hcz93_6
          try clear hcz93_7
          try clear hcz93_8
          try clear hcz94_0
          try clear hcz94_1
          try clear hcz94_2
          try clear hcz94_3
          try clear hcz94_4
          try clear hcz94_5
          try clear hcz94_6
          try clear hcz94_7
          try clear hcz94_8
          try clear hfz60_0
          try clear hfz60_1
          try clear hfz60_2
          try clear hfz60_3
          try clear hfz60_4
          try clear hfz60_5
          try clear hfz60_6
          try clear hfz60_7
          try clear hfz60_8
          try clear hfz61_0
          try clear hfz61_1
          try clear hfz61_2
          try clear hfz61_3
          try clear hfz61_4
          try clear hfz61_5
          try clear hfz61_6
          try clear hfz61_7
          try clear hfz61_8
          try clear hfz63_0
          try clear hfz63_1
          try clear hfz63_2
          try clear hfz63_3
          try clear hfz63_4
          try clear hfz63_5
          try clear hfz63_6
          try clear hfz63_7
          try clear hfz63_8
          try clear hfz64_0
          try clear hfz64_1
          try clear hfz64_2
          try clear hfz64_3
          try clear hfz64_4
          try clear hfz64_5
          try clear hfz64_6
          try clear hfz64_7
          try clear hfz64_8
          try clear hfz66_0
          try clear hfz66_1
          try clear hfz66_2
          try clear hfz66_3
          try clear hfz66_4
          try clear hfz66_5
          try clear hfz66_6
          try clear hfz66_7
          try clear hfz66_8
          try clear hfz67_0
          try clear hfz67_1
          try clear hfz67_2
          try clear hfz67_3
          try clear hfz67_4
          try clear hfz67_5
          try clear hfz67_6
          try clear hfz67_7
          try clear hfz67_8
          try clear hfz69_0
          try clear hfz69_1
          try clear hfz69_2
          try clear hfz69_3
          try clear hfz69_4
          try clear hfz69_5
          try clear hfz69_6
          try clear hfz69_7
          try clear hfz69_8
          try clear hfz70_0
          try clear hfz70_1
          try clear hfz70_2
          try clear hfz70_3
          try clear hfz70_4
          try clear hfz70_5
          try clear hfz70_6
          try clear hfz70_7
          try clear hfz70_8
          try clear hfz72_0
          try clear hfz72_1
          try clear hfz72_2
          try clear hfz72_3
          try clear hfz72_4
          try clear hfz72_5
          try clear hfz72_6
          try clear hfz72_7
          try clear hfz72_8
          try clear hfz73_0
          try clear hfz73_1
          try clear hfz73_2
          try clear hfz73_3
          try clear hfz73_4
          try clear hfz73_5
          try clear hfz73_6
          try clear hfz73_7
          try clear hfz73_8
          try clear hfz75_0
          try clear hfz75_1
          try clear hfz75_2
          try clear hfz75_3
          try clear hfz75_4
          try clear hfz75_5
          try clear hfz75_6
          try clear hfz75_7
          try clear hfz75_8
          try clear hfz76_0
          try clear hfz76_1
          try clear hfz76_2
          try clear hfz76_3
          try clear hfz76_4
          try clear hfz76_5
          try clear hfz76_6
          try clear hfz76_7
          try clear hfz76_8
          try clear hfz78_0
          try clear hfz78_1
          try clear hfz78_2
          try clear hfz78_3
          try clear hfz78_4
          try clear hfz78_5
          try clear hfz78_6
          try clear hfz78_7
          try clear hfz78_8
          try clear hfz79_0
          try clear hfz79_1
          try clear hfz79_2
          try clear hfz79_3
          try clear hfz79_4
          try clear hfz79_5
          try clear hfz79_6
          try clear hfz79_7
          try clear hfz79_8
          try clear hfz81_0
          try clear hfz81_1
          try clear hfz81_2
          try clear hfz81_3
          try clear hfz81_4
          try clear hfz81_5
          try clear hfz81_6
          try clear hfz81_7
          try clear hfz81_8
          try clear hfz82_0
          try clear hfz82_1
          try clear hfz82_2
          try clear hfz82_3
          try clear hfz82_4
          try clear hfz82_5
          try clear hfz82_6
          try clear hfz82_7
          try clear hfz82_8
          try clear hfz84_0
          try clear hfz84_1
          try clear hfz84_2
          try clear hfz84_3
          try clear hfz84_4
          try clear hfz84_5
          try clear hfz84_6
          try clear hfz84_7
          try clear hfz84_8
          try clear hfz85_0
          try clear hfz85_1
          try clear hfz85_2
          try clear hfz85_3
          try clear hfz85_4
          try clear hfz85_5
          try clear hfz85_6
          try clear hfz85_7
          try clear hfz85_8
          try clear hfz87_0
          try clear hfz87_1
          try clear hfz87_2
          try clear hfz87_3
          try clear hfz87_4
          try clear hfz87_5
          try clear hfz87_6
          try clear hfz87_7
          try clear hfz87_8
          try clear hfz88_0
          try clear hfz88_1
          try clear hfz88_2
          try clear hfz88_3
          try clear hfz88_4
          try clear hfz88_5
          try clear hfz88_6
          try clear hfz88_7
          try clear hfz88_8
          try clear hfz90_0
          try clear hfz90_1
          try clear hfz90_2
          try clear hfz90_3
          try clear hfz90_4
          try clear hfz90_5
          try clear hfz90_6
          try clear hfz90_7
          try clear hfz90_8
          try clear hfz91_0
          try clear hfz91_1
          try clear hfz91_2
          try clear hfz91_3
          try clear hfz91_4
          try clear hfz91_5
          try clear hfz91_6
          try clear hfz91_7
          try clear hfz91_8
          try clear hfz93_0
          try clear hfz93_1
          try clear hfz93_2
          try clear hfz93_3
          try clear hfz93_4
          try clear hfz93_5
          try clear hfz93_6
          try clear hfz93_7
          try clear hfz93_8
          try clear hfz94_0
          try clear hfz94_1
          try clear hfz94_2
          try clear hfz94_3
          try clear hfz94_4
          try clear hfz94_5
          try clear hfz94_6
          try clear hfz94_7
          try clear hfz94_8
          obtain ⟨kq, x25_18, rfl, HA, HJ18, HO_11, HO_12, HO_13, HO_14, BK300, BK311, HB⟩ := hcut
          cases kq with
          | zero => exact absurd HA.out (by simp [chatelainelaw11_LayNear.j1])
          | succ kj18 =>
            have H := HA.out
            clear HA
            simp only [chatelainelaw11_LayNear.j1] at H
            replace H := Option.bind_eq_some_iff.mp H
            obtain ⟨_, A950, H⟩ := H
            replace H : ((chatelainelaw0_OverInts.f kj18 t287).bind fun _ => (if x25_18 = true then ((chatelainelaw0_KeptInts.f kj18 t278 l3).bind fun t326 => (if t326 = true then ((chatelainelaw0_KeptBytes.f kj18 t281 l4).bind fun t327 => (if t327 = true then ((chatelainelaw11_awake.f kj18).bind fun t328 => (some t328)) else (some false))) else (some false))) else (some false))) = some r := H
            have A95 := Aside0.mk A950
            clear A950
            replace H := Option.bind_eq_some_iff.mp H
            obtain ⟨_, A960, H⟩ := H
            replace H : (if x25_18 = true then ((chatelainelaw0_KeptInts.f kj18 t278 l3).bind fun t326 => (if t326 = true then ((chatelainelaw0_KeptBytes.f kj18 t281 l4).bind fun t327 => (if t327 = true then ((chatelainelaw11_awake.f kj18).bind fun t328 => (some t328)) else (some false))) else (some false))) else (some false)) = some r := H
            have A96 := Aside0.mk A960
            clear A960
            obtain ⟨Ao97, co97, eo97⟩ := Kd.R_slice HO_13.out
            subst eo97
            repeat (first | (go_big_may; go_says (first | ((with_reducible refine gate_callee (f := 21) rfl ?_); refine goesL_ (some 167) rfl rfl Tryd.func21 (by kernel_rfl) rfl #[.slice Ao97 t284.length co97] rfl (by (try simp only [List.map_toArray, List.map_cons, List.map_nil]); first | done | rfl | (simp only [List.length_drop, List.length_take]; rfl)) ?_; (with_reducible refine (chatelainelaw0_OverBytes.calls kj18 (fun k_ => some k_ = (.slice Ao97 t284.length co97 : Value).ownBlock) (.slice Ao97 t284.length co97) t284  w _ ?side1 ?side2 A95.out).mono ?_); (case side1 => repeat (first | (with_reducible first | exact HB.out | apply below_alloc | apply pw_below_drewN | apply below_drew1 | refine below_set ?_ GE300.out | refine below_set ?_ GE311.out) | exact HB.out)); (case side2 => exact Kd.R_tight rfl HO_13.out); rintro e w98 ⟨rfl, hb, hkp⟩; refine ⟨_, rfl, ?_⟩; have n0_ := Aside0.mk (Kd.LI_mono (ok' := fun k_ => some k_ ≠ (v288 : Value).ownBlock) (Kd.LI_keptB ((Kd.LI_apart' HO_11.out (Kd.R_typed HO_13.out) (by decide))) hkp (fun k_ hk_ hs_ => (hk_.2) hs_)) (fun k_ hk_ => hk_.1.1)); have n1_ := Aside0.mk (Kd.LB_mono (ok' := fun k_ => True) (Kd.LB_keptB (HO_12.out) hkp (fun k_ hk_ hs_ => (hk_) hs_)) (fun k_ hk_ => trivial)); have n2_ := Aside0.mk (Kd.R_mono (ok' := fun k_ => some k_ ≠ (.slice Ao22 t278.length co22 : Value).ownBlock) (Kd.R_keptB ((Kd.R_apart' HO_14.out (Kd.R_typed HO_13.out) (by decide))) hkp (fun k_ hk_ hs_ => (hk_.2) hs_)) (fun k_ hk_ => hk_.1.1)); have n3_ := Aside0.mk (blk_kept (by (with_reducible repeat (first | refine blk_drewN ?_ _ | refine blk_drew ?_ | refine blk_alloc ?_ _)); exact BK300.out) hkp (fun hs_ => (fun e_ => (Kd.R_ne HO_13.out BK300.out (by decide)) e_) hs_)); have n4_ := Aside0.mk (blk_kept (by (with_reducible repeat (first | refine blk_drewN ?_ _ | refine blk_drew ?_ | refine blk_alloc ?_ _)); exact BK311.out) hkp (fun hs_ => (fun e_ => (Kd.R_ne HO_13.out BK311.out (by decide)) e_) hs_)); have n5_ := Aside0.mk (hb); clear HO_11; clear HO_12; clear HO_14; clear BK300; clear BK311; clear HB; clear HO_13; have HO_11 := n0_; have HO_12 := n1_; have HO_14 := n2_; have BK300 := n3_; have BK311 := n4_; have HB := n5_; clear n0_ n1_ n2_ n3_ n4_ n5_; (try clear hb); (try clear hkp); (try clear A95); obtain ⟨Ao99, co99, eo99⟩ := Kd.R_slice HO_14.out; subst eo99) | ((with_reducible refine gate_callee (f := 22) rfl ?_); refine goesL_ (some 169) rfl rfl Tryd.func22 (by kernel_rfl) rfl #[.slice Ao99 t287.length co99] rfl (by (try simp only [List.map_toArray, List.map_cons, List.map_nil]); first | done | rfl | (simp only [List.length_drop, List.length_take]; rfl)) ?_; (with_reducible refine (chatelainelaw0_OverInts.calls kj18 (fun k_ => some k_ = (.slice Ao99 t287.length co99 : Value).ownBlock) (.slice Ao99 t287.length co99) t287  w _ ?side1 ?side2 A96.out).mono ?_); (case side1 => repeat (first | (with_reducible first | exact HB.out | apply below_alloc | apply pw_below_drewN | apply below_drew1 | refine below_set ?_ GE300.out | refine below_set ?_ GE311.out) | exact HB.out)); (case side2 => exact Kd.R_tight rfl HO_14.out); rintro e w100 ⟨rfl, hb, hkp⟩; refine ⟨_, rfl, ?_⟩; have n0_ := Aside0.mk (Kd.LI_mono (ok' := fun k_ => True) (Kd.LI_keptB (HO_11.out) hkp (fun k_ hk_ hs_ => (hk_) hs_)) (fun k_ hk_ => trivial)); have n1_ := Aside0.mk (Kd.LB_mono (ok' := fun k_ => True) (Kd.LB_keptB ((Kd.LB_apart' HO_12.out (Kd.R_typed HO_14.out) (by decide))) hkp (fun k_ hk_ hs_ => (hk_.2) hs_)) (fun k_ hk_ => trivial)); have n2_ := Aside0.mk (blk_kept (by (with_reducible repeat (first | refine blk_drewN ?_ _ | refine blk_drew ?_ | refine blk_alloc ?_ _)); exact BK300.out) hkp (fun hs_ => (fun e_ => (Kd.R_ne HO_14.out BK300.out (by decide)) e_) hs_)); have n3_ := Aside0.mk (blk_kept (by (with_reducible repeat (first | refine blk_drewN ?_ _ | refine blk_drew ?_ | refine blk_alloc ?_ _)); exact BK311.out) hkp (fun hs_ => (fun e_ => (Kd.R_ne HO_14.out BK311.out (by decide)) e_) hs_)); have n4_ := Aside0.mk (hb); clear HO_11; clear HO_12; clear BK300; clear BK311; clear HB; clear HO_14; have HO_11 := n0_; have HO_12 := n1_; have BK300 := n2_; have BK311 := n3_; have HB := n4_; clear n0_ n1_ n2_ n3_ n4_; (try clear hb); (try clear hkp); (try clear A96)))) | go_values | go_skip | go_guarded | ((with_reducible refine own_cond ?_); (first | refine own_condT rfl ?_ | refine own_condF rfl ?_)) | ((with_reducible refine own_ite ?_); (first | rw [own_iteT] | rw [own_iteF])) | ((fail_if_success (with_reducible refine own_ite ?_)); (fail_if_success (with_reducible refine own_cond ?_)); (first | (go_step; (first | (fail_if_success (with_reducible refine own_upon ?_)) | go_step | go_upon); (fail_if_success ((case' isTrue => skip); (case' isFalse => skip)))) | go_upon | ((with_reducible refine own_upon ?_); go_simp) | dsimp only)))
            as_aux_lemma =>
              by_cases c101 : x25_18 = true
              · subst c101
                have H1 : ((chatelainelaw0_KeptInts.f kj18 t278 l3).bind fun t326 => (if t326 = true then ((chatelainelaw0_KeptBytes.f kj18 t281 l4).bind fun t327 => (if t327 = true then ((chatelainelaw11_awake.f kj18).bind fun t328 => (some t328)) else (some false))) else (some false))) = some r := by rw [if_pos rfl] at H; exact H
                clear H
                have H := H1
                clear H1
                replace H := Option.bind_eq_some_iff.mp H
                obtain ⟨t326, A1020, H⟩ := H
                replace H : (if t326 = true then ((chatelainelaw0_KeptBytes.f kj18 t281 l4).bind fun t327 => (if t327 = true then ((chatelainelaw11_awake.f kj18).bind fun t328 => (some t328)) else (some false))) else (some false)) = some r := H
                have A102 := Aside0.mk A1020
                clear A1020
                repeat (first | (go_big_may; go_says (first | (go_at_call 23; (with_reducible refine (chatelainelaw0_KeptInts.calls kj18 _ _ t278 _ _ l3 t326 _ ?side1 ?side2 ?side3 ?side4 ?side5 A102.out).mono ?_); (case side1 => repeat (first | exact (Kd.LI_reads' HO_11.out).2.2 | (with_reducible refine Kd.C_alloc ?_ _) | (with_reducible refine Kd.C_drewN ?_ _) | (with_reducible refine Kd.C_drew ?_))); (case side2 => exact (Kd.LI_reads' HO_11.out).2.1); (case side3 => repeat (first | exact (Kd.C_below HR3.out HB.out) | (with_reducible refine Kd.C_alloc ?_ _) | (with_reducible refine Kd.C_drewN ?_ _) | (with_reducible refine Kd.C_drew ?_))); (case side4 => exact HC3.out); (case side5 => exact Kd.LI_spare (by (with_reducible repeat (first | apply Kd.LI_alloc | apply Kd.LI_drewN | apply Kd.LI_drew)); exact HO_11.out)); rintro e w' ⟨rfl, ⟨nd, rfl⟩⟩))) | go_values | go_skip | go_guarded | ((with_reducible refine own_cond ?_); (first | refine own_condT rfl ?_ | refine own_condF rfl ?_)) | ((with_reducible refine own_ite ?_); (first | rw [own_iteT] | rw [own_iteF])) | ((fail_if_success (with_reducible refine own_ite ?_)); (fail_if_success (with_reducible refine own_cond ?_)); (first | (go_step; (first | (fail_if_success (with_reducible refine own_upon ?_)) | go_step | go_upon); (fail_if_success ((case' isTrue => skip); (case' isFalse => skip)))) | go_upon | ((with_reducible refine own_upon ?_); go_simp) | dsimp only)))
                as_aux_lemma =>
                  by_cases c103 : t326 = true
                  · subst c103
                    have H1 : ((chatelainelaw0_KeptBytes.f kj18 t281 l4).bind fun t327 => (if t327 = true then ((chatelainelaw11_awake.f kj18).bind fun t328 => (some t328)) else (some false))) = some r := by rw [if_pos rfl] at H; exact H
                    clear H
                    have H := H1
                    clear H1
                    replace H := Option.bind_eq_some_iff.mp H
                    obtain ⟨t327, A1040, H⟩ := H
                    replace H : (if t327 = true then ((chatelainelaw11_awake.f kj18).bind fun t328 => (some t328)) else (some false)) = some r := H
                    have A104 := Aside0.mk A1040
                    clear A1040
                    repeat (first | (go_big_may; go_says (first | (go_at_call 24; (with_reducible refine (chatelainelaw0_KeptBytes.calls kj18 _ _ t281 _ _ l4 t327 _ ?side1 ?side2 ?side3 ?side4 ?side5 A104.out).mono ?_); (case side1 => repeat (first | exact (Kd.LB_reads' HO_12.out).2.2 | (with_reducible refine Kd.C_alloc ?_ _) | (with_reducible refine Kd.C_drewN ?_ _) | (with_reducible refine Kd.C_drew ?_))); (case side2 => exact (Kd.LB_reads' HO_12.out).2.1); (case side3 => repeat (first | exact (Kd.C_below HR4.out HB.out) | (with_reducible refine Kd.C_alloc ?_ _) | (with_reducible refine Kd.C_drewN ?_ _) | (with_reducible refine Kd.C_drew ?_))); (case side4 => exact HC4.out); (case side5 => exact Kd.LB_spare (by (with_reducible repeat (first | apply Kd.LB_alloc | apply Kd.LB_drewN | apply Kd.LB_drew)); exact HO_12.out)); rintro e w' ⟨rfl, ⟨nd, rfl⟩⟩))) | go_values | go_skip | go_guarded | ((with_reducible refine own_cond ?_); (first | refine own_condT rfl ?_ | refine own_condF rfl ?_)) | ((with_reducible refine own_ite ?_); (first | rw [own_iteT] | rw [own_iteF])) | ((fail_if_success (with_reducible refine own_ite ?_)); (fail_if_success (with_reducible refine own_cond ?_)); (first | (go_step; (first | (fail_if_success (with_reducible refine own_upon ?_)) | go_step | go_upon); (fail_if_success ((case' isTrue => skip); (case' isFalse => skip)))) | go_upon | ((with_reducible refine own_upon ?_); go_simp) | dsimp only)))
                    as_aux_lemma =>
                      by_cases c105 : t327 = true
                      · subst c105
                        have H1 : ((chatelainelaw11_awake.f kj18).bind fun t328 => (some t328)) = some r := by rw [if_pos rfl] at H; exact H
                        clear H
                        have H := H1
                        clear H1
                        replace H := Option.bind_eq_some_iff.mp H
                        obtain ⟨t328, A1060, H⟩ := H
                        replace H : (some t328) = some r := H
                        have A106 := Aside0.mk A1060
                        clear A1060
                        as_aux_lemma =>
                          obtain rfl := Option.some.inj H
                          go_wp2_with (first | (go_at_call 8; (with_reducible refine (chatelainelaw11_awake.calls kj18  t328 _ ?side1 A106.out).mono ?_); (case side1 => exact pw_cell_below (by repeat (first | (with_reducible first | exact HB.out | apply below_alloc | apply pw_below_drewN | apply below_drew1 | refine below_set ?_ GE300.out | refine below_set ?_ GE311.out) | exact HB.out)) HG.out); rintro e w107 ⟨rfl, hb⟩; have n0_ := Aside0.mk (Kd.LI_below (by (with_reducible repeat (first | apply Kd.LI_alloc | apply Kd.LI_drewN | apply Kd.LI_drew)); exact HO_11.out) hb); have n1_ := Aside0.mk (Kd.LB_below (by (with_reducible repeat (first | apply Kd.LB_alloc | apply Kd.LB_drewN | apply Kd.LB_drew)); exact HO_12.out) hb); have n2_ := Aside0.mk (blk_below (g := gb300) (o := .cells #[.int .i64 t290, .int .i64 t291, .int .i64 t292, .int .i64 t293, .int .i64 t294, .int .i64 t295, .int .i64 t296, .int .i64 t297, .int .i64 t298] 30 (0, 0)) (by (with_reducible repeat (first | refine blk_drewN ?_ _ | refine blk_drew ?_ | refine blk_alloc ?_ _)); exact BK300.out) hb); have n3_ := Aside0.mk (blk_below (g := gb311) (o := .cells #[.int .i64 t301, .int .i64 t302, .int .i64 t303, .int .i64 t304, .int .i64 t305, .int .i64 t306, .int .i64 t307, .int .i64 t308, .int .i64 t309] 33 (0, 0)) (by (with_reducible repeat (first | refine blk_drewN ?_ _ | refine blk_drew ?_ | refine blk_alloc ?_ _)); exact BK311.out) hb); have n4_ := Aside0.mk (below_step (by repeat (first | (with_reducible first | exact HB.out | apply below_alloc | apply pw_below_drewN | apply below_drew1 | refine below_set ?_ GE300.out | refine below_set ?_ GE311.out) | exact HB.out)) hb); clear HO_11; clear HO_12; clear BK300; clear BK311; clear HB; have HO_11 := n0_; have HO_12 := n1_; have BK300 := n2_; have BK311 := n3_; have HB := n4_; clear n0_ n1_ n2_ n3_ n4_; (try clear hb); (try clear hb2); (try clear hk); (try clear hi); (try clear A106)))
                          go_ret
                          exact ⟨by first | rfl | (simp [errW_none, errW_some] <;> rfl) | (simp [*, errW_none, errW_some] <;> rfl), by repeat (first | (with_reducible first | exact HB.out | apply below_alloc | apply pw_below_drewN | apply below_drew1 | refine below_set ?_ GE300.out | refine below_set ?_ GE311.out) | exact HB.out)⟩
                      · replace c105 := Bool.eq_false_iff.mpr c105
                        subst c105
                        have H1 : (some false) = some r := by rw [if_neg (show ¬ (false = true) by decide)] at H; exact H
                        clear H
                        have H := H1
                        clear H1
                        as_aux_lemma =>
                          obtain rfl := Option.some.inj H
                          go_wp2
                          go_ret
                          exact ⟨by first | rfl | (simp [errW_none, errW_some] <;> rfl) | (simp [*, errW_none, errW_some] <;> rfl), by repeat (first | (with_reducible first | exact HB.out | apply below_alloc | apply pw_below_drewN | apply below_drew1 | refine below_set ?_ GE300.out | refine below_set ?_ GE311.out) | exact HB.out)⟩
                  · replace c103 := Bool.eq_false_iff.mpr c103
                    subst c103
                    have H1 : (some false) = some r := by rw [if_neg (show ¬ (false = true) by decide)] at H; exact H
                    clear H
                    have H := H1
                    clear H1
                    as_aux_lemma =>
                      obtain rfl := Option.some.inj H
                      go_wp2
                      go_ret
                      exact ⟨by first | rfl | (simp [errW_none, errW_some] <;> rfl) | (simp [*, errW_none, errW_some] <;> rfl), by repeat (first | (with_reducible first | exact HB.out | apply below_alloc | apply pw_below_drewN | apply below_drew1 | refine below_set ?_ GE300.out | refine below_set ?_ GE311.out) | exact HB.out)⟩
              · replace c101 := Bool.eq_false_iff.mpr c101
                subst c101
                have H1 : (some false) = some r := by rw [if_neg (show ¬ (false = true) by decide)] at H; exact H
                clear H
                have H := H1
                clear H1
                as_aux_lemma =>
                  obtain rfl := Option.some.inj H
                  go_wp2
                  go_ret
                  exact ⟨by first | rfl | (simp [errW_none, errW_some] <;> rfl) | (simp [*, errW_none, errW_some] <;> rfl), by repeat (first | (with_reducible first | exact HB.out | apply below_alloc | apply pw_below_drewN | apply below_drew1 | refine below_set ?_ GE300.out | refine below_set ?_ GE311.out) | exact HB.out)⟩

/-- THE ONE PURE STATEMENT of chatelainelaw11_LayNear: yours. -/
def chatelainelaw11_LayNear.Pure : Prop := ∀ (a0 : Int) (a1 : Int) (a2 : Int) (l3 : List Int) (l4 : List Int), (Lit.int .i64 a0).wf = true → (Lit.int .i64 a1).wf = true → (Lit.int .i64 a2).wf = true → l3.length ≤ maxLen → l3.length * 8 ≤ 140737488351232 → (∀ x ∈ l3, (Lit.int .i64 x).wf = true) → l4.length ≤ maxLen → l4.length * 1 ≤ 140737488351232 → (∀ x ∈ l4, (Lit.int .u8 x).wf = true) → ∃ k, chatelainelaw11_LayNear.f k a0 a1 a2 l3 l4 = some true
theorem chatelainelaw11_LayNear.walk (P : chatelainelaw11_LayNear.Pure) (a0 : Int) (a1 : Int) (a2 : Int) (a3 : Option Addr) (len3 cap3 : Nat) (z3 : List Int) (a4 : Option Addr) (len4 cap4 : Nat) (z4 : List Int) (w : World) (w0 : (Lit.int .i64 a0).wf = true) (w1 : (Lit.int .i64 a1).wf = true) (w2 : (Lit.int .i64 a2).wf = true) (w3 : (a3 = none ∧ len3 = 0 ∧ cap3 = 0 ∧ z3 = []) ∨ ∃ x, a3 = some x ∧ len3 ≤ cap3 ∧ cap3 ≤ maxLen ∧ z3.length = cap3 ∧ (∀ i, i < z3.length → w.cell? (x.add i) = some (.int .i64 (z3.getD i 0))) ∧ ∀ n ∈ z3, (Lit.int .i64 n).wf = true) (y3 : len3 * 8 ≤ 140737488351232) (w4 : (a4 = none ∧ len4 = 0 ∧ cap4 = 0 ∧ z4 = []) ∨ ∃ x, a4 = some x ∧ len4 ≤ cap4 ∧ cap4 ≤ maxLen ∧ z4.length = cap4 ∧ (∀ i, i < z4.length → w.cell? (x.add i) = some (.int .u8 (z4.getD i 0))) ∧ ∀ n ∈ z4, (Lit.int .u8 n).wf = true) (y4 : len4 * 1 ≤ 140737488351232) (hg_ : w.cell? ⟨0, 0, none⟩ = some (.iface 115 (.agg #[.pointer (some ⟨1, 48, none⟩)]))) :
    Calls Tryd.prog 3 #[.int .i64 a0, .int .i64 a1, .int .i64 a2, .slice a3 len3 cap3, .slice a4 len4 cap4] w fun e w' => e = .returned (.bool true) ∧ Below w.heap.size w w' := by
  obtain ⟨l3, rfl, hr3, hm3, hw3, hc3⟩ := ReadsInt.ofRowC w3
  obtain ⟨l4, rfl, hr4, hm4, hw4, hc4⟩ := ReadsInt.ofRowC w4
  obtain ⟨k, h⟩ := P a0 a1 a2 l3 l4 w0 w1 w2 hm3 y3 hw3 hm4 y4 hw4
  refine (chatelainelaw11_LayNear.calls k a0 a1 a2 _ _ l3 _ _ l4 true w (Kd.C_of_reads (d := (0 : Int)) (h1 := fun _ => rfl) hr3) hc3 (Kd.C_of_reads (d := (0 : Int)) (h1 := fun _ => rfl) hr4) hc4 hg_ h).mono ?_
  rintro e w' ⟨rfl, hd⟩
  exact ⟨rfl, hd⟩

end Go.Proofs.YtaegmnimkemjgaaDoor.PLN
