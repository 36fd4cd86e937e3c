-- By a program of this session (wip/myprint.sh) out of the translation; Lean checks it.
import Derived.Test.YtiphpcehmjcejaaPPDotx0
import Derived.Test.YtiphpcehmjcejaaPPDotx12
import Derived.Test.YtiphpcehmjcejaaPPDotx14
namespace Go.Proofs.Ytiphpcehmjcejaa.PPDot
open Go.RowKit Go.Proofs.YtiphpcehmjcejaaW.PrintWords Go.Proofs.YtiphpcehmjcejaaW.PrintLast Go.Proofs.YtiphpcehmjcejaaW.PrintMore
attribute [local go_sem] max2_int min2_int max_two min_two max_three min_three max_four min_four   -- for this text's walks alone
set_option linter.unusedVariables false
set_option linter.unusedSimpArgs false

/-! ### chatelaineref4_Times: function 50 -/
mutual
def chatelaineref4_Times.j0 : Nat → List Int → List Int → Bool → Option (List Int)
  | 0, _, _, _ => none
  | k + 1, x0, x1, x19 => if x19 = true then (some ([] : List Int)) else (chatelaineref4_Times.l0 k x0 x1 ([] : List Int) 0)
def chatelaineref4_Times.l0 : Nat → List Int → List Int → List Int → Int → Option (List Int)
  | 0, _, _, _, _ => none
  | k + 1, x0, x1, x5, x6 => if x6 < 128 then ((chatelaineref3_Turned.f k 7 x6).bind fun t221 => ((chatelaineref3_Pow.f k 17 (wrap64 ((wrap64 (2 * t221)) + 1))).bind fun t222 => (if 0 ≤ (wrap64 (2 * x6)) then (if (wrap64 (2 * x6)) < (x0.length : Int) then (if 0 ≤ (wrap64 ((wrap64 (2 * x6)) + 1)) then (if (wrap64 ((wrap64 (2 * x6)) + 1)) < (x0.length : Int) then (if (wrap64 (2 * x6)) < (x1.length : Int) then (if (wrap64 ((wrap64 (2 * x6)) + 1)) < (x1.length : Int) then ((some (([Int.tmod (wrap64 ((wrap64 ((rd x0 (wrap64 (2 * x6))) * (rd x1 (wrap64 (2 * x6))))) + (wrap64 (t222 * (Int.tmod (wrap64 ((rd x0 (wrap64 ((wrap64 (2 * x6)) + 1))) * (rd x1 (wrap64 ((wrap64 (2 * x6)) + 1))))) 3329))))) 3329, Int.tmod (wrap64 ((wrap64 ((rd x0 (wrap64 (2 * x6))) * (rd x1 (wrap64 ((wrap64 (2 * x6)) + 1))))) + (wrap64 ((rd x0 (wrap64 ((wrap64 (2 * x6)) + 1))) * (rd x1 (wrap64 (2 * x6))))))) 3329] : List Int) : List Int)).bind fun y227 => (if x5.length + y227.length < 17592186044416 then (chatelaineref4_Times.l0 k x0 x1 (x5 ++ y227) (wrap64 (x6 + 1))) else (none))) else (none)) else (none)) else (none)) else (none)) else (none)) else (none)))) else (some x5)
end
def chatelaineref4_Times.f (k : Nat) (l0 : List Int) (l1 : List Int) : Option (List Int) := (chatelaineref4_May.f k l0).bind fun t219 => (if t219 = true then ((chatelaineref4_May.f k l1).bind fun t220 => (chatelaineref4_Times.j0 k l0 l1 (!t220))) else (chatelaineref4_Times.j0 k l0 l1 true))
theorem chatelaineref4_Times.mono_l : ∀ k, (∀ y0 y1 y2, LeO (chatelaineref4_Times.j0 k y0 y1 y2) (chatelaineref4_Times.j0 (k + 1) y0 y1 y2)) ∧ (∀ y0 y1 y2 y3, LeO (chatelaineref4_Times.l0 k y0 y1 y2 y3) (chatelaineref4_Times.l0 (k + 1) y0 y1 y2 y3))
  | 0 => ⟨fun _ _ _ r h => by simp [chatelaineref4_Times.j0] at h, fun _ _ _ _ r h => by simp [chatelaineref4_Times.l0] at h⟩
  | k + 1 => by
    obtain ⟨ih0, ih1⟩ := chatelaineref4_Times.mono_l k
    refine ⟨?_, ?_⟩
    · intro y0 y1 y2
      unfold chatelaineref4_Times.j0
      repeat' first
      | (with_reducible exact ih0 _ _ _)
      | (with_reducible exact ih1 _ _ _ _)
      | (with_reducible exact chatelaineref3_Pow.mono _ _ _)
      | (with_reducible exact chatelaineref3_Turned.mono _ _ _)
      | (with_reducible exact chatelaineref4_May.mono _ _)
      | (with_reducible exact LeO.refl _)
      | (with_reducible exact LeO.none _)
      | (with_reducible refine LeO.ite ?_ ?_)
      | (with_reducible refine LeO.bind ?_ (fun _ => ?_))
      | exact ih0 _ _ _
      | exact ih1 _ _ _ _
      | exact chatelaineref3_Pow.mono _ _ _
      | exact chatelaineref3_Turned.mono _ _ _
      | exact chatelaineref4_May.mono _ _
      | exact LeO.none _
      | refine LeO.ite ?_ ?_
      | refine LeO.bind ?_ (fun _ => ?_)
    · intro y0 y1 y2 y3
      unfold chatelaineref4_Times.l0
      repeat' first
      | (with_reducible exact ih0 _ _ _)
      | (with_reducible exact ih1 _ _ _ _)
      | (with_reducible exact chatelaineref3_Pow.mono _ _ _)
      | (with_reducible exact chatelaineref3_Turned.mono _ _ _)
      | (with_reducible exact chatelaineref4_May.mono _ _)
      | (with_reducible exact LeO.refl _)
      | (with_reducible exact LeO.none _)
      | (with_reducible refine LeO.ite ?_ ?_)
      | (with_reducible refine LeO.bind ?_ (fun _ => ?_))
      | exact ih0 _ _ _
      | exact ih1 _ _ _ _
      | exact chatelaineref3_Pow.mono _ _ _
      | exact chatelaineref3_Turned.mono _ _ _
      | exact chatelaineref4_May.mono _ _
      | exact LeO.none _
      | refine LeO.ite ?_ ?_
      | refine LeO.bind ?_ (fun _ => ?_)
theorem chatelaineref4_Times.mono : ∀ a0 a1 k, LeO (chatelaineref4_Times.f k a0 a1) (chatelaineref4_Times.f (k + 1) a0 a1) := by
  intro a0 a1 k
  obtain ⟨ih0, ih1⟩ := chatelaineref4_Times.mono_l k
  unfold chatelaineref4_Times.f
  repeat' first
      | (with_reducible exact ih0 _ _ _)
      | (with_reducible exact ih1 _ _ _ _)
      | (with_reducible exact chatelaineref3_Pow.mono _ _ _)
      | (with_reducible exact chatelaineref3_Turned.mono _ _ _)
      | (with_reducible exact chatelaineref4_May.mono _ _)
      | (with_reducible exact LeO.refl _)
      | (with_reducible exact LeO.none _)
      | (with_reducible refine LeO.ite ?_ ?_)
      | (with_reducible refine LeO.bind ?_ (fun _ => ?_))
      | exact ih0 _ _ _
      | exact ih1 _ _ _ _
      | exact chatelaineref3_Pow.mono _ _ _
      | exact chatelaineref3_Turned.mono _ _ _
      | exact chatelaineref4_May.mono _ _
      | exact LeO.none _
      | refine LeO.ite ?_ ?_
      | refine LeO.bind ?_ (fun _ => ?_)
set_option maxHeartbeats 8000000 in
set_option maxRecDepth 100000 in
theorem chatelaineref4_Times.calls (k : Nat) (A0 : Option Addr) (c0 : Nat) (l0 : List Int) (A1 : Option Addr) (c1 : Nat) (l1 : List Int) (r : List Int) (w : World) (hr0 : Kd.C (Kd.int .i64) w A0 l0.length l0) (hc0 : l0.length ≤ c0) (hr1 : Kd.C (Kd.int .i64) w A1 l1.length l1) (hc1 : l1.length ≤ c1) (h : chatelaineref4_Times.f k l0 l1 = some r) :
    Calls Try.prog 50 #[.slice A0 l0.length c0, .slice A1 l1.length c1] w fun e w' => ∃ v0_ : Value, e = .returned (v0_) ∧ Kd.R (Kd.int .i64) 3 w' w.heap.size (fun _ => True) v0_ r ∧ Below w.heap.size w w' := by
  have HR0 := Aside0.mk hr0
  have HC0 := Aside0.mk hc0
  clear hr0 hc0
  have HR1 := Aside0.mk hr1
  have HC1 := Aside0.mk hc1
  clear hr1 hc1
  have HB := Aside0.mk (Below.refl w.heap.size w)
  have H : ((chatelaineref4_May.f k l0).bind fun t219 => (if t219 = true then ((chatelaineref4_May.f k l1).bind fun t220 => (chatelaineref4_Times.j0 k l0 l1 (!t220))) else (chatelaineref4_Times.j0 k l0 l1 true))) = some r := h
  clear h
  have HC3 := Aside0.mk H
  clear H
  go_enter Try.func50, Try.ntmps50
  go_upto_region 1 with (fail)
  repeat (go_quiet (fail); go_upto_region 1 with (fail))
  go_cut [19] (fun v19 wc => ∃ (kq : Nat) (x19_2 : Bool), v19 = .bool x19_2 ∧ Aside0 (chatelaineref4_Times.j0 kq l0 l1 x19_2 = some r) ∧ Aside0 (kq ≤ k) ∧ Aside0 (Below w.heap.size w wc))
  case first =>
    have H := HC3.out
    clear HC3
    replace H := Option.bind_eq_some_iff.mp H
    obtain ⟨t219, A40, H⟩ := H
    replace H : (if t219 = true then ((chatelaineref4_May.f k l1).bind fun t220 => (chatelaineref4_Times.j0 k l0 l1 (!t220))) else (chatelaineref4_Times.j0 k l0 l1 true)) = some r := H
    have A4 := Aside0.mk A40
    clear A40
    by_cases c5 : t219 = true
    · subst c5
      have H1 : ((chatelaineref4_May.f k l1).bind fun t220 => (chatelaineref4_Times.j0 k l0 l1 (!t220))) = some r := by rw [if_pos rfl] at H; exact H
      clear H
      have H := H1
      clear H1
      replace H := Option.bind_eq_some_iff.mp H
      obtain ⟨t220, A60, H⟩ := H
      replace H : (chatelaineref4_Times.j0 k l0 l1 (!t220)) = some r := H
      have A6 := Aside0.mk A60
      clear A60
      have H' := Aside0.mk H
      clear H
      go_wp2_with (first | (go_at_call 51; (with_reducible refine (chatelaineref4_May.calls k _ _ l0 true _ ?side1 ?side2 A4.out).mono ?_); (case side1 => repeat (first | exact (Kd.C_below HR0.out HB.out) | (with_reducible refine Kd.C_alloc ?_ _) | (with_reducible refine Kd.C_drewN ?_ _) | (with_reducible refine Kd.C_drew ?_))); (case side2 => exact HC0.out); rintro e w' ⟨rfl, ⟨nd, rfl⟩⟩; (try first | exact ⟨rfl, _, World.drewN_drewN _ _ _⟩ | exact ⟨rfl, _, Eq.trans (World.drewN_drewN _ _ _) (congrArg (World.drewN _) (Nat.add_assoc _ _ _))⟩)) | (go_at_call 51; (with_reducible refine (chatelaineref4_May.calls k _ _ l1 t220 _ ?side1 ?side2 A6.out).mono ?_); (case side1 => repeat (first | exact (Kd.C_below HR1.out (by repeat (first | (with_reducible first | exact HB.out | apply below_alloc | apply pw_below_drewN | apply below_drew1) | exact HB.out))) | (with_reducible refine Kd.C_alloc ?_ _) | (with_reducible refine Kd.C_drewN ?_ _) | (with_reducible refine Kd.C_drew ?_))); (case side2 => exact HC1.out); rintro e w' ⟨rfl, ⟨nd, rfl⟩⟩; (try first | exact ⟨rfl, _, World.drewN_drewN _ _ _⟩ | exact ⟨rfl, _, Eq.trans (World.drewN_drewN _ _ _) (congrArg (World.drewN _) (Nat.add_assoc _ _ _))⟩)))
      repeat (go_quiet (first | (go_at_call 51; (with_reducible refine (chatelaineref4_May.calls k _ _ l0 true _ ?side1 ?side2 A4.out).mono ?_); (case side1 => repeat (first | exact (Kd.C_below HR0.out HB.out) | (with_reducible refine Kd.C_alloc ?_ _) | (with_reducible refine Kd.C_drewN ?_ _) | (with_reducible refine Kd.C_drew ?_))); (case side2 => exact HC0.out); rintro e w' ⟨rfl, ⟨nd, rfl⟩⟩; (try first | exact ⟨rfl, _, World.drewN_drewN _ _ _⟩ | exact ⟨rfl, _, Eq.trans (World.drewN_drewN _ _ _) (congrArg (World.drewN _) (Nat.add_assoc _ _ _))⟩)) | (go_at_call 51; (with_reducible refine (chatelaineref4_May.calls k _ _ l1 t220 _ ?side1 ?side2 A6.out).mono ?_); (case side1 => repeat (first | exact (Kd.C_below HR1.out (by repeat (first | (with_reducible first | exact HB.out | apply below_alloc | apply pw_below_drewN | apply below_drew1) | exact HB.out))) | (with_reducible refine Kd.C_alloc ?_ _) | (with_reducible refine Kd.C_drewN ?_ _) | (with_reducible refine Kd.C_drew ?_))); (case side2 => exact HC1.out); rintro e w' ⟨rfl, ⟨nd, rfl⟩⟩; (try first | exact ⟨rfl, _, World.drewN_drewN _ _ _⟩ | exact ⟨rfl, _, Eq.trans (World.drewN_drewN _ _ _) (congrArg (World.drewN _) (Nat.add_assoc _ _ _))⟩))); try go_wp2_with (first | (go_at_call 51; (with_reducible refine (chatelaineref4_May.calls k _ _ l0 true _ ?side1 ?side2 A4.out).mono ?_); (case side1 => repeat (first | exact (Kd.C_below HR0.out HB.out) | (with_reducible refine Kd.C_alloc ?_ _) | (with_reducible refine Kd.C_drewN ?_ _) | (with_reducible refine Kd.C_drew ?_))); (case side2 => exact HC0.out); rintro e w' ⟨rfl, ⟨nd, rfl⟩⟩; (try first | exact ⟨rfl, _, World.drewN_drewN _ _ _⟩ | exact ⟨rfl, _, Eq.trans (World.drewN_drewN _ _ _) (congrArg (World.drewN _) (Nat.add_assoc _ _ _))⟩)) | (go_at_call 51; (with_reducible refine (chatelaineref4_May.calls k _ _ l1 t220 _ ?side1 ?side2 A6.out).mono ?_); (case side1 => repeat (first | exact (Kd.C_below HR1.out (by repeat (first | (with_reducible first | exact HB.out | apply below_alloc | apply pw_below_drewN | apply below_drew1) | exact HB.out))) | (with_reducible refine Kd.C_alloc ?_ _) | (with_reducible refine Kd.C_drewN ?_ _) | (with_reducible refine Kd.C_drew ?_))); (case side2 => exact HC1.out); rintro e w' ⟨rfl, ⟨nd, rfl⟩⟩; (try first | exact ⟨rfl, _, World.drewN_drewN _ _ _⟩ | exact ⟨rfl, _, Eq.trans (World.drewN_drewN _ _ _) (congrArg (World.drewN _) (Nat.add_assoc _ _ _))⟩))))
      go_meet
      case rel => exact ⟨_, (!t220), (by first | rfl | (simp; done) | (simp [*]; done)), H', ⟨by first | omega | exact Nat.le_refl _⟩, ⟨by repeat (first | (with_reducible first | exact HB.out | apply below_alloc | apply pw_below_drewN | apply below_drew1) | exact HB.out)⟩⟩
    · replace c5 := Bool.eq_false_iff.mpr c5
      subst c5
      have H1 : (chatelaineref4_Times.j0 k l0 l1 true) = some r := by rw [if_neg (show ¬ (false = true) by decide)] at H; exact H
      clear H
      have H := H1
      clear H1
      have H' := Aside0.mk H
      clear H
      go_wp2_with (first | (go_at_call 51; (with_reducible refine (chatelaineref4_May.calls k _ _ l0 false _ ?side1 ?side2 A4.out).mono ?_); (case side1 => repeat (first | exact (Kd.C_below HR0.out HB.out) | (with_reducible refine Kd.C_alloc ?_ _) | (with_reducible refine Kd.C_drewN ?_ _) | (with_reducible refine Kd.C_drew ?_))); (case side2 => exact HC0.out); rintro e w' ⟨rfl, ⟨nd, rfl⟩⟩; (try first | exact ⟨rfl, _, World.drewN_drewN _ _ _⟩ | exact ⟨rfl, _, Eq.trans (World.drewN_drewN _ _ _) (congrArg (World.drewN _) (Nat.add_assoc _ _ _))⟩)))
      repeat (go_quiet (first | (go_at_call 51; (with_reducible refine (chatelaineref4_May.calls k _ _ l0 false _ ?side1 ?side2 A4.out).mono ?_); (case side1 => repeat (first | exact (Kd.C_below HR0.out HB.out) | (with_reducible refine Kd.C_alloc ?_ _) | (with_reducible refine Kd.C_drewN ?_ _) | (with_reducible refine Kd.C_drew ?_))); (case side2 => exact HC0.out); rintro e w' ⟨rfl, ⟨nd, rfl⟩⟩; (try first | exact ⟨rfl, _, World.drewN_drewN _ _ _⟩ | exact ⟨rfl, _, Eq.trans (World.drewN_drewN _ _ _) (congrArg (World.drewN _) (Nat.add_assoc _ _ _))⟩))); try go_wp2_with (first | (go_at_call 51; (with_reducible refine (chatelaineref4_May.calls k _ _ l0 false _ ?side1 ?side2 A4.out).mono ?_); (case side1 => repeat (first | exact (Kd.C_below HR0.out HB.out) | (with_reducible refine Kd.C_alloc ?_ _) | (with_reducible refine Kd.C_drewN ?_ _) | (with_reducible refine Kd.C_drew ?_))); (case side2 => exact HC0.out); rintro e w' ⟨rfl, ⟨nd, rfl⟩⟩; (try first | exact ⟨rfl, _, World.drewN_drewN _ _ _⟩ | exact ⟨rfl, _, Eq.trans (World.drewN_drewN _ _ _) (congrArg (World.drewN _) (Nat.add_assoc _ _ _))⟩))))
      go_meet
      case rel => exact ⟨_, (true), (by first | rfl | (simp; done) | (simp [*]; done)), H', ⟨by first | omega | exact Nat.le_refl _⟩, ⟨by repeat (first | (with_reducible first | exact HB.out | apply below_alloc | apply pw_below_drewN | apply below_drew1) | exact HB.out)⟩⟩
  case rest =>
    clear HC3
    try clear c1
    try clear p2
    try clear c5
    obtain ⟨kq, x19_2, rfl, HA, HJ2, HB⟩ := hcut
    cases kq with
    | zero => exact absurd HA.out (by simp [chatelaineref4_Times.j0])
    | succ kj2 =>
      have H := HA.out
      clear HA
      simp only [chatelaineref4_Times.j0] at H
      by_cases c7 : x19_2 = true
      · subst c7
        have H1 : (some ([] : List Int)) = some r := by rw [if_pos rfl] at H; exact H
        clear H
        have H := H1
        clear H1
        obtain rfl := Option.some.inj H
        go_wp2
        repeat (go_quiet (fail); try go_wp2)
        go_ret
        exact ⟨_, by first | rfl | (simp [errW_none, errW_some] <;> rfl) | (simp [*, errW_none, errW_some] <;> rfl), by first | exact Kd.R_nil _ _ _ _ _ | exact Kd.N_nil _ _ _ _ _ | exact Kd.V_nil _ _ _ _ _ | exact Kd.Q_nil _ _ _ _ _ | exact Kd.S_nil _ _ _ _ _, by repeat (first | (with_reducible first | exact HB.out | apply below_alloc | apply pw_below_drewN | apply below_drew1) | exact HB.out)⟩
      · replace c7 := Bool.eq_false_iff.mpr c7
        subst c7
        have H1 : (chatelaineref4_Times.l0 kj2 l0 l1 ([] : List Int) 0) = some r := by rw [if_neg (show ¬ (false = true) by decide)] at H; exact H
        clear H
        have H := H1
        clear H1
        have H' := Aside0.mk H
        clear H
        go_wp2
        repeat (go_quiet (fail); try go_wp2)
        go_loopg [5, 6] kj2 (fun kq v5 v6 w' => ∃ (x5_2 : List Int) (x6_2 : Int), v6 = .int .i64 x6_2 ∧ Aside0 (chatelaineref4_Times.l0 kq l0 l1 x5_2 x6_2 = some r) ∧ Aside0 (kq ≤ kj2) ∧ Aside0 (Kd.R (Kd.int .i64) 3 w' w.heap.size (fun _ => True) v5 x5_2) ∧ Aside0 (Below w.heap.size w w'))
        case atStart => exact ⟨(([] : List Int)), (0), (by first | rfl | (simp; done) | (simp [*]; done)), H', ⟨Nat.le_refl _⟩, ⟨by first | exact Kd.R_nil _ _ _ _ _ | exact Kd.N_nil _ _ _ _ _ | exact Kd.V_nil _ _ _ _ _ | exact Kd.Q_nil _ _ _ _ _ | exact Kd.S_nil _ _ _ _ _⟩, ⟨by repeat (first | (with_reducible first | exact HB.out | apply below_alloc | apply pw_below_drewN | apply below_drew1) | exact HB.out)⟩⟩
        case round =>
          clear H'
          try clear c1
          try clear p2
          try clear c5
          try clear c7
          try clear p2
          obtain ⟨x5_2, x6_2, rfl, HA, HK2, HO_5, HB⟩ := hrel
          cases gk with
          | zero => exact absurd HA.out (by simp [chatelaineref4_Times.l0])
          | succ k2 =>
            have H := HA.out
            clear HA
            simp only [chatelaineref4_Times.l0] at H
            by_cases c8 : x6_2 < 128
            · rw [if_pos c8] at H
              have c8b0 : decide (x6_2 < 128) = true := decide_eq_true c8
              clear c8
              replace H := Option.bind_eq_some_iff.mp H
              obtain ⟨t221, A90, H⟩ := H
              replace H : ((chatelaineref3_Pow.f k2 17 (wrap64 ((wrap64 (2 * t221)) + 1))).bind fun t222 => (if 0 ≤ (wrap64 (2 * x6_2)) then (if (wrap64 (2 * x6_2)) < (l0.length : Int) then (if 0 ≤ (wrap64 ((wrap64 (2 * x6_2)) + 1)) then (if (wrap64 ((wrap64 (2 * x6_2)) + 1)) < (l0.length : Int) then (if (wrap64 (2 * x6_2)) < (l1.length : Int) then (if (wrap64 ((wrap64 (2 * x6_2)) + 1)) < (l1.length : Int) then ((some (([Int.tmod (wrap64 ((wrap64 ((rd l0 (wrap64 (2 * x6_2))) * (rd l1 (wrap64 (2 * x6_2))))) + (wrap64 (t222 * (Int.tmod (wrap64 ((rd l0 (wrap64 ((wrap64 (2 * x6_2)) + 1))) * (rd l1 (wrap64 ((wrap64 (2 * x6_2)) + 1))))) 3329))))) 3329, Int.tmod (wrap64 ((wrap64 ((rd l0 (wrap64 (2 * x6_2))) * (rd l1 (wrap64 ((wrap64 (2 * x6_2)) + 1))))) + (wrap64 ((rd l0 (wrap64 ((wrap64 (2 * x6_2)) + 1))) * (rd l1 (wrap64 (2 * x6_2))))))) 3329] : List Int) : List Int)).bind fun y227 => (if x5_2.length + y227.length < 17592186044416 then (chatelaineref4_Times.l0 k2 l0 l1 (x5_2 ++ y227) (wrap64 (x6_2 + 1))) else (none))) else (none)) else (none)) else (none)) else (none)) else (none)) else (none))) = some r := H
              have A9 := Aside0.mk A90
              clear A90
              replace H := Option.bind_eq_some_iff.mp H
              obtain ⟨t222, A100, H⟩ := H
              replace H : (if 0 ≤ (wrap64 (2 * x6_2)) then (if (wrap64 (2 * x6_2)) < (l0.length : Int) then (if 0 ≤ (wrap64 ((wrap64 (2 * x6_2)) + 1)) then (if (wrap64 ((wrap64 (2 * x6_2)) + 1)) < (l0.length : Int) then (if (wrap64 (2 * x6_2)) < (l1.length : Int) then (if (wrap64 ((wrap64 (2 * x6_2)) + 1)) < (l1.length : Int) then ((some (([Int.tmod (wrap64 ((wrap64 ((rd l0 (wrap64 (2 * x6_2))) * (rd l1 (wrap64 (2 * x6_2))))) + (wrap64 (t222 * (Int.tmod (wrap64 ((rd l0 (wrap64 ((wrap64 (2 * x6_2)) + 1))) * (rd l1 (wrap64 ((wrap64 (2 * x6_2)) + 1))))) 3329))))) 3329, Int.tmod (wrap64 ((wrap64 ((rd l0 (wrap64 (2 * x6_2))) * (rd l1 (wrap64 ((wrap64 (2 * x6_2)) + 1))))) + (wrap64 ((rd l0 (wrap64 ((wrap64 (2 * x6_2)) + 1))) * (rd l1 (wrap64 (2 * x6_2))))))) 3329] : List Int) : List Int)).bind fun y227 => (if x5_2.length + y227.length < 17592186044416 then (chatelaineref4_Times.l0 k2 l0 l1 (x5_2 ++ y227) (wrap64 (x6_2 + 1))) else (none))) else (none)) else (none)) else (none)) else (none)) else (none)) else (none)) = some r := H
              have A10 := Aside0.mk A100
              clear A100
              obtain ⟨ji11, hji11⟩ : ∃ j_ : Int, (wrap64 (2 * x6_2)) = j_ := ⟨_, rfl⟩
              replace H : (if 0 ≤ (ji11) then (if (ji11) < (l0.length : Int) then (if 0 ≤ (wrap64 ((ji11) + 1)) then (if (wrap64 ((ji11) + 1)) < (l0.length : Int) then (if (ji11) < (l1.length : Int) then (if (wrap64 ((ji11) + 1)) < (l1.length : Int) then ((some (([Int.tmod (wrap64 ((wrap64 ((rd l0 (ji11)) * (rd l1 (ji11)))) + (wrap64 (t222 * (Int.tmod (wrap64 ((rd l0 (wrap64 ((ji11) + 1))) * (rd l1 (wrap64 ((ji11) + 1))))) 3329))))) 3329, Int.tmod (wrap64 ((wrap64 ((rd l0 (ji11)) * (rd l1 (wrap64 ((ji11) + 1))))) + (wrap64 ((rd l0 (wrap64 ((ji11) + 1))) * (rd l1 (ji11)))))) 3329] : List Int) : List Int)).bind fun y227 => (if x5_2.length + y227.length < 17592186044416 then (chatelaineref4_Times.l0 k2 l0 l1 (x5_2 ++ y227) (wrap64 (x6_2 + 1))) else (none))) else (none)) else (none)) else (none)) else (none)) else (none)) else (none)) = some r := by first | (rw [hji11] at H; exact H) | (simp only [hji11] at H ⊢; exact H)
              (try rw [hji11] at A9)
              (try rw [hji11] at A10)
              have hji11w : (IntKind.i64.wrap (2 * x6_2)) = ji11 := (i64_w _).trans hji11
              by_cases c12 : 0 ≤ (ji11)
              · rw [if_pos c12] at H
                have c12b0 : decide (0 ≤ (ji11)) = true := decide_eq_true c12
                clear c12
                by_cases c13 : (ji11) < (l0.length : Int)
                · rw [if_pos c13] at H
                  have c13b0 : decide ((ji11) < (l0.length : Int)) = true := decide_eq_true c13
                  clear c13
                  obtain ⟨ji14, hji14⟩ : ∃ j_ : Int, (wrap64 ((ji11) + 1)) = j_ := ⟨_, rfl⟩
                  replace H : (if 0 ≤ (ji14) then (if (ji14) < (l0.length : Int) then (if (ji11) < (l1.length : Int) then (if (ji14) < (l1.length : Int) then ((some (([Int.tmod (wrap64 ((wrap64 ((rd l0 (ji11)) * (rd l1 (ji11)))) + (wrap64 (t222 * (Int.tmod (wrap64 ((rd l0 (ji14)) * (rd l1 (ji14)))) 3329))))) 3329, Int.tmod (wrap64 ((wrap64 ((rd l0 (ji11)) * (rd l1 (ji14)))) + (wrap64 ((rd l0 (ji14)) * (rd l1 (ji11)))))) 3329] : List Int) : List Int)).bind fun y227 => (if x5_2.length + y227.length < 17592186044416 then (chatelaineref4_Times.l0 k2 l0 l1 (x5_2 ++ y227) (wrap64 (x6_2 + 1))) else (none))) else (none)) else (none)) else (none)) else (none)) = some r := by first | (rw [hji14] at H; exact H) | (simp only [hji14] at H ⊢; exact H)
                  (try rw [hji14] at A9)
                  (try rw [hji14] at A10)
                  have hji14w : (IntKind.i64.wrap ((ji11) + 1)) = ji14 := (i64_w _).trans hji14
                  by_cases c15 : 0 ≤ (ji14)
                  · rw [if_pos c15] at H
                    have c15b0 : decide (0 ≤ (ji14)) = true := decide_eq_true c15
                    clear c15
                    by_cases c16 : (ji14) < (l0.length : Int)
                    · rw [if_pos c16] at H
                      have c16b0 : decide ((ji14) < (l0.length : Int)) = true := decide_eq_true c16
                      clear c16
                      by_cases c17 : (ji11) < (l1.length : Int)
                      · rw [if_pos c17] at H
                        have c17b0 : decide ((ji11) < (l1.length : Int)) = true := decide_eq_true c17
                        clear c17
                        by_cases c18 : (ji14) < (l1.length : Int)
                        · rw [if_pos c18] at H
                          have c18b0 : decide ((ji14) < (l1.length : Int)) = true := decide_eq_true c18
                          clear c18
                          obtain ⟨y227, hy227⟩ : ∃ y_ : List Int, y_ = (([Int.tmod (wrap64 ((wrap64 ((rd l0 (ji11)) * (rd l1 (ji11)))) + (wrap64 (t222 * (Int.tmod (wrap64 ((rd l0 (ji14)) * (rd l1 (ji14)))) 3329))))) 3329, Int.tmod (wrap64 ((wrap64 ((rd l0 (ji11)) * (rd l1 (ji14)))) + (wrap64 ((rd l0 (ji14)) * (rd l1 (ji11)))))) 3329] : List Int)) := ⟨_, rfl⟩
                          replace H : (if x5_2.length + y227.length < 17592186044416 then (chatelaineref4_Times.l0 k2 l0 l1 (x5_2 ++ y227) (wrap64 (x6_2 + 1))) else (none)) = some r := by first | (rw [hy227]; with_reducible exact H) | (have H2_ := (Option.bind_some _ _).symm.trans H; rw [hy227]; with_reducible exact H2_) | (have H2_ := (Option.bind_some _ _).symm.trans H; with_reducible exact H2_) | with_reducible exact H | (rw [hy227]; exact H) | exact H
                          have Ny227 := Aside0.mk hy227
                          clear hy227
                          by_cases c19 : x5_2.length + y227.length < 17592186044416
                          · rw [if_pos c19] at H
                            have LMc19 := Aside0.mk c19
                            clear c19
                            obtain ⟨y230, hy230⟩ : ∃ y_ : List Int, y_ = (x5_2 ++ y227) := ⟨_, rfl⟩
                            replace H : (chatelaineref4_Times.l0 k2 l0 l1 y230 (wrap64 (x6_2 + 1))) = some r := by first | (rw [hy230]; with_reducible exact H) | (have H2_ := (Option.bind_some _ _).symm.trans H; rw [hy230]; with_reducible exact H2_) | (have H2_ := (Option.bind_some _ _).symm.trans H; with_reducible exact H2_) | with_reducible exact H | (rw [hy230]; exact H) | exact H
                            have Ny230 := Aside0.mk hy230
                            clear hy230
                            have H' := Aside0.mk H
                            clear H
                            go_wp2_with (first | (go_at_call 56; (with_reducible refine (chatelaineref3_Turned.calls k2 7 x6_2 t221 _ A9.out).mono ?_); rintro e w' ⟨rfl, ⟨nd, rfl⟩⟩; (try first | exact ⟨rfl, _, World.drewN_drewN _ _ _⟩ | exact ⟨rfl, _, Eq.trans (World.drewN_drewN _ _ _) (congrArg (World.drewN _) (Nat.add_assoc _ _ _))⟩)) | (go_at_call 31; (with_reducible refine (chatelaineref3_Pow.calls k2 17 (wrap64 ((wrap64 (2 * t221)) + 1)) t222 _ A10.out).mono ?_); rintro e w' ⟨rfl, ⟨nd, rfl⟩⟩; (try first | exact ⟨rfl, _, World.drewN_drewN _ _ _⟩ | exact ⟨rfl, _, Eq.trans (World.drewN_drewN _ _ _) (congrArg (World.drewN _) (Nat.add_assoc _ _ _))⟩); have p223 : 0 ≤ ((ji11) : Int) := of_decide_eq_true (by first | (with_reducible assumption) | assumption); have q223 : (ji11) < (l0.length : Int) := of_decide_eq_true (by first | (with_reducible assumption) | assumption); obtain ⟨ad223, e223, hx223_0⟩ := Kd.at_int HR0.out (ji11) p223 q223; cases e223; replace hx223_0 := (HB.out.cell (World.block_lt_of_cell? w _ hx223_0)).trans hx223_0; replace p223 := eq_true p223; replace q223 := eq_true q223; have p224 : 0 ≤ ((ji14) : Int) := of_decide_eq_true (by first | (with_reducible assumption) | assumption); have q224 : (ji14) < (l0.length : Int) := of_decide_eq_true (by first | (with_reducible assumption) | assumption); obtain ⟨ad224, e224, hx224_0⟩ := Kd.at_int HR0.out (ji14) p224 q224; obtain rfl : ad223 = ad224 := (by injection e224); replace hx224_0 := (HB.out.cell (World.block_lt_of_cell? w _ hx224_0)).trans hx224_0; replace p224 := eq_true p224; replace q224 := eq_true q224; have p225 : 0 ≤ ((ji11) : Int) := of_decide_eq_true (by first | (with_reducible assumption) | assumption); have q225 : (ji11) < (l1.length : Int) := of_decide_eq_true (by first | (with_reducible assumption) | assumption); obtain ⟨ad225, e225, hx225_0⟩ := Kd.at_int HR1.out (ji11) p225 q225; cases e225; replace hx225_0 := (HB.out.cell (World.block_lt_of_cell? w _ hx225_0)).trans hx225_0; replace p225 := eq_true p225; replace q225 := eq_true q225; have p226 : 0 ≤ ((ji14) : Int) := of_decide_eq_true (by first | (with_reducible assumption) | assumption); have q226 : (ji14) < (l1.length : Int) := of_decide_eq_true (by first | (with_reducible assumption) | assumption); obtain ⟨ad226, e226, hx226_0⟩ := Kd.at_int HR1.out (ji14) p226 q226; obtain rfl : ad225 = ad226 := (by injection e226); replace hx226_0 := (HB.out.cell (World.block_lt_of_cell? w _ hx226_0)).trans hx226_0; replace p226 := eq_true p226; replace q226 := eq_true q226) | ((with_reducible refine gate_dst (N := 71) rfl ?_); refine Kd.R_lit (Kd.int .i64) _ 3 ?hg (N := 71) ?hd (xs := ([Int.tmod (wrap64 ((wrap64 ((rd l0 (ji11)) * (rd l1 (ji11)))) + (wrap64 (t222 * (Int.tmod (wrap64 ((rd l0 (ji14)) * (rd l1 (ji14)))) 3329))))) 3329, Int.tmod (wrap64 ((wrap64 ((rd l0 (ji11)) * (rd l1 (ji14)))) + (wrap64 ((rd l0 (ji14)) * (rd l1 (ji11)))))) 3329] : List Int)) (inner := [.int .i64 (Int.tmod (wrap64 ((wrap64 ((rd l0 (ji11)) * (rd l1 (ji11)))) + (wrap64 (t222 * (Int.tmod (wrap64 ((rd l0 (ji14)) * (rd l1 (ji14)))) 3329))))) 3329), .int .i64 (Int.tmod (wrap64 ((wrap64 ((rd l0 (ji11)) * (rd l1 (ji14)))) + (wrap64 ((rd l0 (ji14)) * (rd l1 (ji11)))))) 3329)]) (ok := fun _ => True) (okp := fun _ => True) ?hr ?hp (fun _ hk => hk) trivial (Below.refl _ _) (Nat.le_refl _) (by simp) ?_; (case hd => rfl); (case hg => rfl); (case hr => first | (go_simp; done) | (go_simp; rfl)); (case hp => exact (Reps.one (show Kd.M (Kd.int .i64) _ _ _ (Int.tmod (wrap64 ((wrap64 ((rd l0 (ji11)) * (rd l1 (ji11)))) + (wrap64 (t222 * (Int.tmod (wrap64 ((rd l0 (ji14)) * (rd l1 (ji14)))) 3329))))) 3329) [.int .i64 (Int.tmod (wrap64 ((wrap64 ((rd l0 (ji11)) * (rd l1 (ji11)))) + (wrap64 (t222 * (Int.tmod (wrap64 ((rd l0 (ji14)) * (rd l1 (ji14)))) 3329))))) 3329)] from rfl) (Reps.one (show Kd.M (Kd.int .i64) _ _ _ (Int.tmod (wrap64 ((wrap64 ((rd l0 (ji11)) * (rd l1 (ji14)))) + (wrap64 ((rd l0 (ji14)) * (rd l1 (ji11)))))) 3329) [.int .i64 (Int.tmod (wrap64 ((wrap64 ((rd l0 (ji11)) * (rd l1 (ji14)))) + (wrap64 ((rd l0 (ji14)) * (rd l1 (ji11)))))) 3329)] from rfl) (Reps.none _ _)))); intro v228 w20 ho21 hb hg_ hnew_; clear hg_ hnew_; (first | rw [← Ny227.out] at ho21 | (simp only [Int.reduceToNat] at ho21; rw [← Ny227.out] at ho21)); have n0_ := Aside0.mk (Kd.R_elder' (by (with_reducible repeat (first | apply Kd.R_alloc | apply Kd.R_drewN | apply Kd.R_drew)); exact HO_5.out) (Kd.R_base ho21) hb); have n1_ := Aside0.mk (Kd.R_lower (Kd.R_new' ho21 (Kd.R_lt (by (with_reducible repeat (first | apply Kd.R_alloc | apply Kd.R_drewN | apply Kd.R_drew)); exact HO_5.out))) (below_size (by repeat (first | (with_reducible first | exact HB.out | apply below_alloc | apply pw_below_drewN | apply below_drew1) | exact HB.out)))); have n2_ := Aside0.mk (below_step (by repeat (first | (with_reducible first | exact HB.out | apply below_alloc | apply pw_below_drewN | apply below_drew1) | exact HB.out)) hb); clear HO_5; clear HB; have HO_5 := n0_; have HO229 := n1_; have HB := n2_; clear n0_ n1_ n2_; clear hb ho21; obtain ⟨Ao23, co23, eo23⟩ := Kd.R_slice HO229.out; subst eo23) | ((with_reducible refine gate_builtin (b := .append) (xs := #[.tmp 51, .tmp 71]) rfl ?_); at_builtin; refine Kd.R_append_rows (Kd.int .i64) (w0 := w) w.heap.size rfl (.tmp 51) (.tmp 71) 27 3 (.int .i64 0) 8 rfl Try.underlying27 info3 rfl (by decide) (by omega) u5 x5_2 y227 _ _ _ (fun k_ => some k_ ≠ (.slice Ao23 y227.length co23 : Value).ownBlock) (fun _ => False) rfl rfl ?aO ?aR (fun _ _ h => h) (fun _ h => h.elim) ?aF ?aB ?aS ?aL ?_; (case aR => repeat (first | exact (Kd.R_reads' HO229.out).2.2 | (with_reducible refine Kd.C_alloc ?_ _) | (with_reducible refine Kd.C_drewN ?_ _) | (with_reducible refine Kd.C_drew ?_))); (case aB => exact (by repeat (first | (with_reducible first | exact HB.out | apply below_alloc | apply pw_below_drewN | apply below_drew1) | exact HB.out))); (case aF => exact (fun k_ hk => Kd.fresh' (Kd.R_lt (by (with_reducible repeat (first | apply Kd.R_alloc | apply Kd.R_drewN | apply Kd.R_drew)); exact HO229.out)) k_ hk)); (case aO => exact (by (with_reducible repeat (first | apply Kd.R_alloc | apply Kd.R_drewN | apply Kd.R_drew)); exact Kd.R_mono HO_5.out (fun _ hk => hk.2))); (case aS => exact (below_size (by repeat (first | (with_reducible first | exact HB.out | apply below_alloc | apply pw_below_drewN | apply below_drew1) | exact HB.out)))); (case aL => have := LMc19.out; omega); intro v231 w22 ho hb hg hat; rw [← Ny230.out] at ho; have n0_ := Aside0.mk (Kd.R_after (ok := (fun _ => True)) (by (with_reducible repeat (first | apply Kd.R_alloc | apply Kd.R_drewN | apply Kd.R_drew)); exact HO229.out) hg hat); have n1_ := Aside0.mk (hb); have n2_ := Aside0.mk (ho); clear HO229; clear HB; clear HO_5; have HO229 := n0_; have HB := n1_; have HO232 := n2_; clear n0_ n1_ n2_; clear ho hb hg hat))
                            repeat (go_quiet (first | (go_at_call 56; (with_reducible refine (chatelaineref3_Turned.calls k2 7 x6_2 t221 _ A9.out).mono ?_); rintro e w' ⟨rfl, ⟨nd, rfl⟩⟩; (try first | exact ⟨rfl, _, World.drewN_drewN _ _ _⟩ | exact ⟨rfl, _, Eq.trans (World.drewN_drewN _ _ _) (congrArg (World.drewN _) (Nat.add_assoc _ _ _))⟩)) | (go_at_call 31; (with_reducible refine (chatelaineref3_Pow.calls k2 17 (wrap64 ((wrap64 (2 * t221)) + 1)) t222 _ A10.out).mono ?_); rintro e w' ⟨rfl, ⟨nd, rfl⟩⟩; (try first | exact ⟨rfl, _, World.drewN_drewN _ _ _⟩ | exact ⟨rfl, _, Eq.trans (World.drewN_drewN _ _ _) (congrArg (World.drewN _) (Nat.add_assoc _ _ _))⟩); have p223 : 0 ≤ ((ji11) : Int) := of_decide_eq_true (by first | (with_reducible assumption) | assumption); have q223 : (ji11) < (l0.length : Int) := of_decide_eq_true (by first | (with_reducible assumption) | assumption); obtain ⟨ad223, e223, hx223_0⟩ := Kd.at_int HR0.out (ji11) p223 q223; cases e223; replace hx223_0 := (HB.out.cell (World.block_lt_of_cell? w _ hx223_0)).trans hx223_0; replace p223 := eq_true p223; replace q223 := eq_true q223; have p224 : 0 ≤ ((ji14) : Int) := of_decide_eq_true (by first | (with_reducible assumption) | assumption); have q224 : (ji14) < (l0.length : Int) := of_decide_eq_true (by first | (with_reducible assumption) | assumption); obtain ⟨ad224, e224, hx224_0⟩ := Kd.at_int HR0.out (ji14) p224 q224; obtain rfl : ad223 = ad224 := (by injection e224); replace hx224_0 := (HB.out.cell (World.block_lt_of_cell? w _ hx224_0)).trans hx224_0; replace p224 := eq_true p224; replace q224 := eq_true q224; have p225 : 0 ≤ ((ji11) : Int) := of_decide_eq_true (by first | (with_reducible assumption) | assumption); have q225 : (ji11) < (l1.length : Int) := of_decide_eq_true (by first | (with_reducible assumption) | assumption); obtain ⟨ad225, e225, hx225_0⟩ := Kd.at_int HR1.out (ji11) p225 q225; cases e225; replace hx225_0 := (HB.out.cell (World.block_lt_of_cell? w _ hx225_0)).trans hx225_0; replace p225 := eq_true p225; replace q225 := eq_true q225; have p226 : 0 ≤ ((ji14) : Int) := of_decide_eq_true (by first | (with_reducible assumption) | assumption); have q226 : (ji14) < (l1.length : Int) := of_decide_eq_true (by first | (with_reducible assumption) | assumption); obtain ⟨ad226, e226, hx226_0⟩ := Kd.at_int HR1.out (ji14) p226 q226; obtain rfl : ad225 = ad226 := (by injection e226); replace hx226_0 := (HB.out.cell (World.block_lt_of_cell? w _ hx226_0)).trans hx226_0; replace p226 := eq_true p226; replace q226 := eq_true q226) | ((with_reducible refine gate_dst (N := 71) rfl ?_); refine Kd.R_lit (Kd.int .i64) _ 3 ?hg (N := 71) ?hd (xs := ([Int.tmod (wrap64 ((wrap64 ((rd l0 (ji11)) * (rd l1 (ji11)))) + (wrap64 (t222 * (Int.tmod (wrap64 ((rd l0 (ji14)) * (rd l1 (ji14)))) 3329))))) 3329, Int.tmod (wrap64 ((wrap64 ((rd l0 (ji11)) * (rd l1 (ji14)))) + (wrap64 ((rd l0 (ji14)) * (rd l1 (ji11)))))) 3329] : List Int)) (inner := [.int .i64 (Int.tmod (wrap64 ((wrap64 ((rd l0 (ji11)) * (rd l1 (ji11)))) + (wrap64 (t222 * (Int.tmod (wrap64 ((rd l0 (ji14)) * (rd l1 (ji14)))) 3329))))) 3329), .int .i64 (Int.tmod (wrap64 ((wrap64 ((rd l0 (ji11)) * (rd l1 (ji14)))) + (wrap64 ((rd l0 (ji14)) * (rd l1 (ji11)))))) 3329)]) (ok := fun _ => True) (okp := fun _ => True) ?hr ?hp (fun _ hk => hk) trivial (Below.refl _ _) (Nat.le_refl _) (by simp) ?_; (case hd => rfl); (case hg => rfl); (case hr => first | (go_simp; done) | (go_simp; rfl)); (case hp => exact (Reps.one (show Kd.M (Kd.int .i64) _ _ _ (Int.tmod (wrap64 ((wrap64 ((rd l0 (ji11)) * (rd l1 (ji11)))) + (wrap64 (t222 * (Int.tmod (wrap64 ((rd l0 (ji14)) * (rd l1 (ji14)))) 3329))))) 3329) [.int .i64 (Int.tmod (wrap64 ((wrap64 ((rd l0 (ji11)) * (rd l1 (ji11)))) + (wrap64 (t222 * (Int.tmod (wrap64 ((rd l0 (ji14)) * (rd l1 (ji14)))) 3329))))) 3329)] from rfl) (Reps.one (show Kd.M (Kd.int .i64) _ _ _ (Int.tmod (wrap64 ((wrap64 ((rd l0 (ji11)) * (rd l1 (ji14)))) + (wrap64 ((rd l0 (ji14)) * (rd l1 (ji11)))))) 3329) [.int .i64 (Int.tmod (wrap64 ((wrap64 ((rd l0 (ji11)) * (rd l1 (ji14)))) + (wrap64 ((rd l0 (ji14)) * (rd l1 (ji11)))))) 3329)] from rfl) (Reps.none _ _)))); intro v228 w20 ho21 hb hg_ hnew_; clear hg_ hnew_; (first | rw [← Ny227.out] at ho21 | (simp only [Int.reduceToNat] at ho21; rw [← Ny227.out] at ho21)); have n0_ := Aside0.mk (Kd.R_elder' (by (with_reducible repeat (first | apply Kd.R_alloc | apply Kd.R_drewN | apply Kd.R_drew)); exact HO_5.out) (Kd.R_base ho21) hb); have n1_ := Aside0.mk (Kd.R_lower (Kd.R_new' ho21 (Kd.R_lt (by (with_reducible repeat (first | apply Kd.R_alloc | apply Kd.R_drewN | apply Kd.R_drew)); exact HO_5.out))) (below_size (by repeat (first | (with_reducible first | exact HB.out | apply below_alloc | apply pw_below_drewN | apply below_drew1) | exact HB.out)))); have n2_ := Aside0.mk (below_step (by repeat (first | (with_reducible first | exact HB.out | apply below_alloc | apply pw_below_drewN | apply below_drew1) | exact HB.out)) hb); clear HO_5; clear HB; have HO_5 := n0_; have HO229 := n1_; have HB := n2_; clear n0_ n1_ n2_; clear hb ho21; obtain ⟨Ao23, co23, eo23⟩ := Kd.R_slice HO229.out; subst eo23) | ((with_reducible refine gate_builtin (b := .append) (xs := #[.tmp 51, .tmp 71]) rfl ?_); at_builtin; refine Kd.R_append_rows (Kd.int .i64) (w0 := w) w.heap.size rfl (.tmp 51) (.tmp 71) 27 3 (.int .i64 0) 8 rfl Try.underlying27 info3 rfl (by decide) (by omega) u5 x5_2 y227 _ _ _ (fun k_ => some k_ ≠ (.slice Ao23 y227.length co23 : Value).ownBlock) (fun _ => False) rfl rfl ?aO ?aR (fun _ _ h => h) (fun _ h => h.elim) ?aF ?aB ?aS ?aL ?_; (case aR => repeat (first | exact (Kd.R_reads' HO229.out).2.2 | (with_reducible refine Kd.C_alloc ?_ _) | (with_reducible refine Kd.C_drewN ?_ _) | (with_reducible refine Kd.C_drew ?_))); (case aB => exact (by repeat (first | (with_reducible first | exact HB.out | apply below_alloc | apply pw_below_drewN | apply below_drew1) | exact HB.out))); (case aF => exact (fun k_ hk => Kd.fresh' (Kd.R_lt (by (with_reducible repeat (first | apply Kd.R_alloc | apply Kd.R_drewN | apply Kd.R_drew)); exact HO229.out)) k_ hk)); (case aO => exact (by (with_reducible repeat (first | apply Kd.R_alloc | apply Kd.R_drewN | apply Kd.R_drew)); exact Kd.R_mono HO_5.out (fun _ hk => hk.2))); (case aS => exact (below_size (by repeat (first | (with_reducible first | exact HB.out | apply below_alloc | apply pw_below_drewN | apply below_drew1) | exact HB.out)))); (case aL => have := LMc19.out; omega); intro v231 w22 ho hb hg hat; rw [← Ny230.out] at ho; have n0_ := Aside0.mk (Kd.R_after (ok := (fun _ => True)) (by (with_reducible repeat (first | apply Kd.R_alloc | apply Kd.R_drewN | apply Kd.R_drew)); exact HO229.out) hg hat); have n1_ := Aside0.mk (hb); have n2_ := Aside0.mk (ho); clear HO229; clear HB; clear HO_5; have HO229 := n0_; have HB := n1_; have HO232 := n2_; clear n0_ n1_ n2_; clear ho hb hg hat)); try go_wp2_with (first | (go_at_call 56; (with_reducible refine (chatelaineref3_Turned.calls k2 7 x6_2 t221 _ A9.out).mono ?_); rintro e w' ⟨rfl, ⟨nd, rfl⟩⟩; (try first | exact ⟨rfl, _, World.drewN_drewN _ _ _⟩ | exact ⟨rfl, _, Eq.trans (World.drewN_drewN _ _ _) (congrArg (World.drewN _) (Nat.add_assoc _ _ _))⟩)) | (go_at_call 31; (with_reducible refine (chatelaineref3_Pow.calls k2 17 (wrap64 ((wrap64 (2 * t221)) + 1)) t222 _ A10.out).mono ?_); rintro e w' ⟨rfl, ⟨nd, rfl⟩⟩; (try first | exact ⟨rfl, _, World.drewN_drewN _ _ _⟩ | exact ⟨rfl, _, Eq.trans (World.drewN_drewN _ _ _) (congrArg (World.drewN _) (Nat.add_assoc _ _ _))⟩); have p223 : 0 ≤ ((ji11) : Int) := of_decide_eq_true (by first | (with_reducible assumption) | assumption); have q223 : (ji11) < (l0.length : Int) := of_decide_eq_true (by first | (with_reducible assumption) | assumption); obtain ⟨ad223, e223, hx223_0⟩ := Kd.at_int HR0.out (ji11) p223 q223; cases e223; replace hx223_0 := (HB.out.cell (World.block_lt_of_cell? w _ hx223_0)).trans hx223_0; replace p223 := eq_true p223; replace q223 := eq_true q223; have p224 : 0 ≤ ((ji14) : Int) := of_decide_eq_true (by first | (with_reducible assumption) | assumption); have q224 : (ji14) < (l0.length : Int) := of_decide_eq_true (by first | (with_reducible assumption) | assumption); obtain ⟨ad224, e224, hx224_0⟩ := Kd.at_int HR0.out (ji14) p224 q224; obtain rfl : ad223 = ad224 := (by injection e224); replace hx224_0 := (HB.out.cell (World.block_lt_of_cell? w _ hx224_0)).trans hx224_0; replace p224 := eq_true p224; replace q224 := eq_true q224; have p225 : 0 ≤ ((ji11) : Int) := of_decide_eq_true (by first | (with_reducible assumption) | assumption); have q225 : (ji11) < (l1.length : Int) := of_decide_eq_true (by first | (with_reducible assumption) | assumption); obtain ⟨ad225, e225, hx225_0⟩ := Kd.at_int HR1.out (ji11) p225 q225; cases e225; replace hx225_0 := (HB.out.cell (World.block_lt_of_cell? w _ hx225_0)).trans hx225_0; replace p225 := eq_true p225; replace q225 := eq_true q225; have p226 : 0 ≤ ((ji14) : Int) := of_decide_eq_true (by first | (with_reducible assumption) | assumption); have q226 : (ji14) < (l1.length : Int) := of_decide_eq_true (by first | (with_reducible assumption) | assumption); obtain ⟨ad226, e226, hx226_0⟩ := Kd.at_int HR1.out (ji14) p226 q226; obtain rfl : ad225 = ad226 := (by injection e226); replace hx226_0 := (HB.out.cell (World.block_lt_of_cell? w _ hx226_0)).trans hx226_0; replace p226 := eq_true p226; replace q226 := eq_true q226) | ((with_reducible refine gate_dst (N := 71) rfl ?_); refine Kd.R_lit (Kd.int .i64) _ 3 ?hg (N := 71) ?hd (xs := ([Int.tmod (wrap64 ((wrap64 ((rd l0 (ji11)) * (rd l1 (ji11)))) + (wrap64 (t222 * (Int.tmod (wrap64 ((rd l0 (ji14)) * (rd l1 (ji14)))) 3329))))) 3329, Int.tmod (wrap64 ((wrap64 ((rd l0 (ji11)) * (rd l1 (ji14)))) + (wrap64 ((rd l0 (ji14)) * (rd l1 (ji11)))))) 3329] : List Int)) (inner := [.int .i64 (Int.tmod (wrap64 ((wrap64 ((rd l0 (ji11)) * (rd l1 (ji11)))) + (wrap64 (t222 * (Int.tmod (wrap64 ((rd l0 (ji14)) * (rd l1 (ji14)))) 3329))))) 3329), .int .i64 (Int.tmod (wrap64 ((wrap64 ((rd l0 (ji11)) * (rd l1 (ji14)))) + (wrap64 ((rd l0 (ji14)) * (rd l1 (ji11)))))) 3329)]) (ok := fun _ => True) (okp := fun _ => True) ?hr ?hp (fun _ hk => hk) trivial (Below.refl _ _) (Nat.le_refl _) (by simp) ?_; (case hd => rfl); (case hg => rfl); (case hr => first | (go_simp; done) | (go_simp; rfl)); (case hp => exact (Reps.one (show Kd.M (Kd.int .i64) _ _ _ (Int.tmod (wrap64 ((wrap64 ((rd l0 (ji11)) * (rd l1 (ji11)))) + (wrap64 (t222 * (Int.tmod (wrap64 ((rd l0 (ji14)) * (rd l1 (ji14)))) 3329))))) 3329) [.int .i64 (Int.tmod (wrap64 ((wrap64 ((rd l0 (ji11)) * (rd l1 (ji11)))) + (wrap64 (t222 * (Int.tmod (wrap64 ((rd l0 (ji14)) * (rd l1 (ji14)))) 3329))))) 3329)] from rfl) (Reps.one (show Kd.M (Kd.int .i64) _ _ _ (Int.tmod (wrap64 ((wrap64 ((rd l0 (ji11)) * (rd l1 (ji14)))) + (wrap64 ((rd l0 (ji14)) * (rd l1 (ji11)))))) 3329) [.int .i64 (Int.tmod (wrap64 ((wrap64 ((rd l0 (ji11)) * (rd l1 (ji14)))) + (wrap64 ((rd l0 (ji14)) * (rd l1 (ji11)))))) 3329)] from rfl) (Reps.none _ _)))); intro v228 w20 ho21 hb hg_ hnew_; clear hg_ hnew_; (first | rw [← Ny227.out] at ho21 | (simp only [Int.reduceToNat] at ho21; rw [← Ny227.out] at ho21)); have n0_ := Aside0.mk (Kd.R_elder' (by (with_reducible repeat (first | apply Kd.R_alloc | apply Kd.R_drewN | apply Kd.R_drew)); exact HO_5.out) (Kd.R_base ho21) hb); have n1_ := Aside0.mk (Kd.R_lower (Kd.R_new' ho21 (Kd.R_lt (by (with_reducible repeat (first | apply Kd.R_alloc | apply Kd.R_drewN | apply Kd.R_drew)); exact HO_5.out))) (below_size (by repeat (first | (with_reducible first | exact HB.out | apply below_alloc | apply pw_below_drewN | apply below_drew1) | exact HB.out)))); have n2_ := Aside0.mk (below_step (by repeat (first | (with_reducible first | exact HB.out | apply below_alloc | apply pw_below_drewN | apply below_drew1) | exact HB.out)) hb); clear HO_5; clear HB; have HO_5 := n0_; have HO229 := n1_; have HB := n2_; clear n0_ n1_ n2_; clear hb ho21; obtain ⟨Ao23, co23, eo23⟩ := Kd.R_slice HO229.out; subst eo23) | ((with_reducible refine gate_builtin (b := .append) (xs := #[.tmp 51, .tmp 71]) rfl ?_); at_builtin; refine Kd.R_append_rows (Kd.int .i64) (w0 := w) w.heap.size rfl (.tmp 51) (.tmp 71) 27 3 (.int .i64 0) 8 rfl Try.underlying27 info3 rfl (by decide) (by omega) u5 x5_2 y227 _ _ _ (fun k_ => some k_ ≠ (.slice Ao23 y227.length co23 : Value).ownBlock) (fun _ => False) rfl rfl ?aO ?aR (fun _ _ h => h) (fun _ h => h.elim) ?aF ?aB ?aS ?aL ?_; (case aR => repeat (first | exact (Kd.R_reads' HO229.out).2.2 | (with_reducible refine Kd.C_alloc ?_ _) | (with_reducible refine Kd.C_drewN ?_ _) | (with_reducible refine Kd.C_drew ?_))); (case aB => exact (by repeat (first | (with_reducible first | exact HB.out | apply below_alloc | apply pw_below_drewN | apply below_drew1) | exact HB.out))); (case aF => exact (fun k_ hk => Kd.fresh' (Kd.R_lt (by (with_reducible repeat (first | apply Kd.R_alloc | apply Kd.R_drewN | apply Kd.R_drew)); exact HO229.out)) k_ hk)); (case aO => exact (by (with_reducible repeat (first | apply Kd.R_alloc | apply Kd.R_drewN | apply Kd.R_drew)); exact Kd.R_mono HO_5.out (fun _ hk => hk.2))); (case aS => exact (below_size (by repeat (first | (with_reducible first | exact HB.out | apply below_alloc | apply pw_below_drewN | apply below_drew1) | exact HB.out)))); (case aL => have := LMc19.out; omega); intro v231 w22 ho hb hg hat; rw [← Ny230.out] at ho; have n0_ := Aside0.mk (Kd.R_after (ok := (fun _ => True)) (by (with_reducible repeat (first | apply Kd.R_alloc | apply Kd.R_drewN | apply Kd.R_drew)); exact HO229.out) hg hat); have n1_ := Aside0.mk (hb); have n2_ := Aside0.mk (ho); clear HO229; clear HB; clear HO_5; have HO229 := n0_; have HB := n1_; have HO232 := n2_; clear n0_ n1_ n2_; clear ho hb hg hat)))
                            go_roundg k2
                            case measure => have := HJ2.out; have := HK2.out; omega
                            case rel => exact ⟨(y230), (wrap64 (x6_2 + 1)), (by first | rfl | (simp; done) | (simp [*]; done)), H', ⟨by have := HJ2.out; have := HK2.out; omega⟩, ⟨by (with_reducible repeat (first | apply Kd.R_alloc | apply Kd.R_drewN | apply Kd.R_drew)); exact Kd.R_mono HO232.out (fun _ hk => trivial)⟩, ⟨by repeat (first | (with_reducible first | exact HB.out | apply below_alloc | apply pw_below_drewN | apply below_drew1) | exact HB.out)⟩⟩
                          · rw [if_neg c19] at H
                            exact absurd H (by simp)
                        · rw [if_neg c18] at H
                          exact absurd H (by simp)
                      · rw [if_neg c17] at H
                        exact absurd H (by simp)
                    · rw [if_neg c16] at H
                      exact absurd H (by simp)
                  · rw [if_neg c15] at H
                    exact absurd H (by simp)
                · rw [if_neg c13] at H
                  exact absurd H (by simp)
              · rw [if_neg c12] at H
                exact absurd H (by simp)
            · rw [if_neg c8] at H
              have c8b0 : decide (x6_2 < 128) = false := decide_eq_false c8
              clear c8
              obtain rfl := Option.some.inj H
              go_wp2
              repeat (go_quiet (fail); try go_wp2)
              go_ret
              exact ⟨_, by first | rfl | (simp [errW_none, errW_some] <;> rfl) | (simp [*, errW_none, errW_some] <;> rfl), by (with_reducible repeat (first | apply Kd.R_alloc | apply Kd.R_drewN | apply Kd.R_drew)); exact HO_5.out, by repeat (first | (with_reducible first | exact HB.out | apply below_alloc | apply pw_below_drewN | apply below_drew1) | exact HB.out)⟩
theorem chatelaineref4_Times_Z.grows : ∀ (k : Nat) (x y out : List Int) (j : Int) (r : List Int), chatelaineref4_Times.l0 k x y out j = some r → out.length ≤ r.length
  | 0, _, _, _, _, _, h => by simp [chatelaineref4_Times.l0] at h
  | k + 1, x, y, out, j, r, h => by
    rw [chatelaineref4_Times.l0] at h
    by_cases c : j < 128
    · rw [if_pos c] at h
      obtain ⟨_, _, h⟩ := Option.bind_eq_some_iff.mp h
      obtain ⟨_, _, h⟩ := Option.bind_eq_some_iff.mp h
      repeat' (split at h; case isFalse => cases h)
      obtain ⟨q, _, h⟩ := Option.bind_eq_some_iff.mp h
      split at h
      · have := chatelaineref4_Times_Z.grows k x y _ _ r h
        rw [List.length_append] at this
        omega
      · cases h
    · rw [if_neg c] at h
      injection h with h
      rw [h]
      exact Nat.le_refl _
theorem chatelaineref4_Times_Z.first (k : Nat) (x y r : List Int) (h : chatelaineref4_Times.l0 k x y [] 0 = some r) : r ≠ [] := by
  cases k with
  | zero => simp [chatelaineref4_Times.l0] at h
  | succ k =>
    rw [chatelaineref4_Times.l0, if_pos (by decide)] at h
    obtain ⟨_, _, h⟩ := Option.bind_eq_some_iff.mp h
    obtain ⟨_, _, h⟩ := Option.bind_eq_some_iff.mp h
    repeat' (split at h; case isFalse => cases h)
    obtain ⟨q, hq, h⟩ := Option.bind_eq_some_iff.mp h
    split at h
    · have := chatelaineref4_Times_Z.grows k x y _ _ r h
      injection hq with hq
      rw [← hq] at this
      rintro rfl
      simp at this
    · cases h
theorem chatelaineref4_Times_Z.no (k : Nat) (x y : List Int) (h : chatelaineref4_Times.f k x y = some []) : chatelaineref4_May.f k x = some false ∨ (chatelaineref4_May.f k x = some true ∧ chatelaineref4_May.f k y = some false) := by
  unfold chatelaineref4_Times.f at h
  obtain ⟨t, ht, h⟩ := Option.bind_eq_some_iff.mp h
  cases t with
  | false => exact .inl ht
  | true =>
    rw [if_pos rfl] at h
    obtain ⟨u, hu, h⟩ := Option.bind_eq_some_iff.mp h
    cases u with
    | false => exact .inr ⟨ht, hu⟩
    | true =>
      cases k with
      | zero => simp [chatelaineref4_Times.j0] at h
      | succ k =>
        rw [chatelaineref4_Times.j0, if_neg (by decide)] at h
        exact absurd rfl (chatelaineref4_Times_Z.first k x y [] h)
def chatelaineref4_Times_Z.f (k : Nat) (x y : List Int) : Option (List Int) := chatelaineref4_Times.f k x y
theorem chatelaineref4_Times_Z.mono : ∀ a0 a1 k, LeO (chatelaineref4_Times_Z.f k a0 a1) (chatelaineref4_Times_Z.f (k + 1) a0 a1) := fun a0 a1 k => chatelaineref4_Times.mono a0 a1 k
set_option maxHeartbeats 8000000 in
set_option maxRecDepth 100000 in
theorem chatelaineref4_Times_Z.calls (k : Nat) (A0 : Option Addr) (c0 : Nat) (l0 : List Int) (A1 : Option Addr) (c1 : Nat) (l1 : List Int) (r : List Int) (w : World) (hr0 : Kd.C (Kd.int .i64) w A0 l0.length l0) (hc0 : l0.length ≤ c0) (hr1 : Kd.C (Kd.int .i64) w A1 l1.length l1) (hc1 : l1.length ≤ c1) (h : chatelaineref4_Times_Z.f k l0 l1 = some r) :
    Calls Try.prog 50 #[.slice A0 l0.length c0, .slice A1 l1.length c1] w fun e w' => ∃ v0_ : Value, e = .returned (v0_) ∧ Kd.Z (Kd.int .i64) 3 w' w.heap.size (fun _ => True) v0_ r ∧ Below w.heap.size w w' := by
  by_cases hr : r = []
  · subst hr
    have HR0 := Aside0.mk hr0
    have HR1 := Aside0.mk hr1
    have HC0 := Aside0.mk hc0
    have HC1 := Aside0.mk hc1
    clear hr0 hr1 hc0 hc1
    have hn := chatelaineref4_Times_Z.no k l0 l1 h
    clear h
    rcases hn with ht | ⟨ht, hu⟩
    · have A0_ := Aside0.mk ht
      clear ht
      go_enter Try.func50, Try.ntmps50
      go_wp2_with (first | (go_at_call 51; (with_reducible refine (chatelaineref4_May.calls k _ _ l0 false _ HR0.out HC0.out A0_.out).mono ?_); rintro e w' ⟨rfl, ⟨nd, rfl⟩⟩))
      go_ret
      exact ⟨_, rfl, ⟨Kd.R_nil _ _ _ _ _, fun _ => rfl⟩, pw_below_drewN (Below.refl _ _) _⟩
    · have A0_ := Aside0.mk ht
      have A1_ := Aside0.mk hu
      clear ht hu
      go_enter Try.func50, Try.ntmps50
      go_wp2_with (first | (go_at_call 51; (with_reducible refine (chatelaineref4_May.calls k _ _ l0 true _ HR0.out HC0.out A0_.out).mono ?_); rintro e w' ⟨rfl, ⟨nd, rfl⟩⟩; clear A0_) | (go_at_call 51; (with_reducible refine (chatelaineref4_May.calls k _ _ l1 false _ (Kd.C_below HR1.out (pw_below_drewN (Below.refl _ _) _)) HC1.out A1_.out).mono ?_); rintro e w' ⟨rfl, ⟨nd2, rfl⟩⟩))
      go_ret
      exact ⟨_, rfl, ⟨Kd.R_nil _ _ _ _ _, fun _ => rfl⟩, pw_below_drewN (Below.refl _ _) _⟩
  · refine (chatelaineref4_Times.calls k A0 c0 l0 A1 c1 l1 r w hr0 hc0 hr1 hc1 h).mono ?_
    rintro e w' ⟨v, rfl, ho, hb⟩
    exact ⟨v, rfl, ⟨ho, fun e_ => absurd e_ hr⟩, hb⟩

end Go.Proofs.Ytiphpcehmjcejaa.PPDot
