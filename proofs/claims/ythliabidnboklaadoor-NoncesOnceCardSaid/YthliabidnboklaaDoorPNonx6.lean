-- By a program of this session (wip/myprint.sh) out of the translation; Lean checks it.
import Derived.Test.YthliabidnboklaaDoorPNonx0
import Derived.Test.YthliabidnboklaaDoorPNonx1
import Derived.Test.YthliabidnboklaaDoorPNonx2
import Derived.Test.YthliabidnboklaaDoorPNonx4
import Derived.Test.YthliabidnboklaaDoorPNonx5
namespace Go.Proofs.YthliabidnboklaaDoor.PNon
open Go.RowKit Go.Proofs.YthliabidnboklaaDoorW.PrintWords Go.Proofs.YthliabidnboklaaDoorW.PrintLast Go.Proofs.YthliabidnboklaaDoorW.PrintMore
attribute [local go_sem] max2_int min2_int max_two min_two max_three min_three max_four min_four   -- for this text's walks alone
set_option linter.unusedVariables false
set_option linter.unusedSimpArgs false

/-! ### chatelainelaw18_NoncesOnce: function 4 -/
mutual
def chatelainelaw18_NoncesOnce.l0 : Nat → List Int → Int → Int → List Int → Int → Option (Bool)
  | 0, _, _, _, _, _ => none
  | k + 1, x0, x3, x4, x5, x6 => if x6 < (x0.length : Int) then (if 0 ≤ x6 then (chatelainelaw18_NoncesOnce.l1 k x0 x3 x4 x5 x6 (rd x0 x6) false 0) else (none)) else ((chatelainelaw18_awake.f k).bind fun t139 => (some t139))
def chatelainelaw18_NoncesOnce.l1 : Nat → List Int → Int → Int → List Int → Int → Int → Bool → Int → Option (Bool)
  | 0, _, _, _, _, _, _, _, _ => none
  | k + 1, x0, x3, x4, x5, x6, x7, x8, x9 => if x9 < (x5.length : Int) then (if x8 = true then (chatelainelaw18_NoncesOnce.l1 k x0 x3 x4 x5 x6 x7 true (wrap64 (x9 + 1))) else (if 0 ≤ x9 then (chatelainelaw18_NoncesOnce.l1 k x0 x3 x4 x5 x6 x7 ((rd x5 x9) == x7) (wrap64 (x9 + 1))) else (none))) else (if x7 ≥ 1 then (if x7 ≤ 1099511627776 then (if x8 = true then (chatelainelaw18_NoncesOnce.j2 k x0 x3 x4 x5 x6 x7 false) else (chatelainelaw18_NoncesOnce.j2 k x0 x3 x4 x5 x6 x7 (decide (x7 > (wrap64 (x3 - 64)))))) else (chatelainelaw18_NoncesOnce.j2 k x0 x3 x4 x5 x6 x7 false)) else (chatelainelaw18_NoncesOnce.j2 k x0 x3 x4 x5 x6 x7 false))
def chatelainelaw18_NoncesOnce.j2 : Nat → List Int → Int → Int → List Int → Int → Int → Bool → Option (Bool)
  | 0, _, _, _, _, _, _, _ => none
  | k + 1, x0, x3, x4, x5, x6, x7, x10 => (nonces_Use.f k x3 x4 x7).bind fun bt142 => (if bt142.2.2.isEmpty = true then (if (true != x10) = true then (chatelainelaw18_NoncesOnce.j3 k x0 x3 x4 x5 x6 x7 bt142.1 bt142.2.1 bt142.2.2 true) else ((nonces_Fresh.f k x3 x4 x7).bind fun t147 => (if (t147 != x10) = true then (chatelainelaw18_NoncesOnce.j3 k x0 x3 x4 x5 x6 x7 bt142.1 bt142.2.1 bt142.2.2 true) else (chatelainelaw18_NoncesOnce.j3 k x0 x3 x4 x5 x6 x7 bt142.1 bt142.2.1 bt142.2.2 false)))) else (if (false != x10) = true then (chatelainelaw18_NoncesOnce.j3 k x0 x3 x4 x5 x6 x7 bt142.1 bt142.2.1 bt142.2.2 true) else ((nonces_Fresh.f k x3 x4 x7).bind fun t148 => (if (t148 != x10) = true then (chatelainelaw18_NoncesOnce.j3 k x0 x3 x4 x5 x6 x7 bt142.1 bt142.2.1 bt142.2.2 true) else ((chatelainelaw0_Num.f bt142.2.2).bind fun t149 => (chatelainelaw18_NoncesOnce.j3 k x0 x3 x4 x5 x6 x7 bt142.1 bt142.2.1 bt142.2.2 (t149 != 8)))))))
def chatelainelaw18_NoncesOnce.j3 : Nat → List Int → Int → Int → List Int → Int → Int → Int → Int → List (S72) → Bool → Option (Bool)
  | 0, _, _, _, _, _, _, _, _, _, _ => none
  | k + 1, x0, x3, x4, x5, x6, x7, x11, x12, x13, x87 => if x87 = true then (some false) else (if x13.isEmpty = true then (if x11 = (mx x3 x7) then ((nonces_May.f k x11 x12).bind fun t150 => (if t150 = true then (if x5.length < 17592186044416 then (chatelainelaw18_NoncesOnce.l0 k x0 x11 x12 (x5 ++ [x7]) (wrap64 (x6 + 1))) else (none)) else (some false))) else (some false)) else (chatelainelaw18_NoncesOnce.l0 k x0 x3 x4 x5 (wrap64 (x6 + 1))))
end
def chatelainelaw18_NoncesOnce.f (k : Nat) (l0 : List Int) : Option (Bool) := if (l0.length : Int) > 80 then ((chatelainelaw18_awake.f k).bind fun t138 => (some t138)) else (chatelainelaw18_NoncesOnce.l0 k l0 0 0 ([] : List Int) 0)
theorem chatelainelaw18_NoncesOnce.mono_l : ∀ k, (∀ y0 y1 y2 y3 y4, LeO (chatelainelaw18_NoncesOnce.l0 k y0 y1 y2 y3 y4) (chatelainelaw18_NoncesOnce.l0 (k + 1) y0 y1 y2 y3 y4)) ∧ (∀ y0 y1 y2 y3 y4 y5 y6 y7, LeO (chatelainelaw18_NoncesOnce.l1 k y0 y1 y2 y3 y4 y5 y6 y7) (chatelainelaw18_NoncesOnce.l1 (k + 1) y0 y1 y2 y3 y4 y5 y6 y7)) ∧ (∀ y0 y1 y2 y3 y4 y5 y6, LeO (chatelainelaw18_NoncesOnce.j2 k y0 y1 y2 y3 y4 y5 y6) (chatelainelaw18_NoncesOnce.j2 (k + 1) y0 y1 y2 y3 y4 y5 y6)) ∧ (∀ y0 y1 y2 y3 y4 y5 y6 y7 y8 y9, LeO (chatelainelaw18_NoncesOnce.j3 k y0 y1 y2 y3 y4 y5 y6 y7 y8 y9) (chatelainelaw18_NoncesOnce.j3 (k + 1) y0 y1 y2 y3 y4 y5 y6 y7 y8 y9))
  | 0 => ⟨fun _ _ _ _ _ r h => by simp [chatelainelaw18_NoncesOnce.l0] at h, fun _ _ _ _ _ _ _ _ r h => by simp [chatelainelaw18_NoncesOnce.l1] at h, fun _ _ _ _ _ _ _ r h => by simp [chatelainelaw18_NoncesOnce.j2] at h, fun _ _ _ _ _ _ _ _ _ _ r h => by simp [chatelainelaw18_NoncesOnce.j3] at h⟩
  | k + 1 => by
    obtain ⟨ih0, ih1, ih2, ih3⟩ := chatelainelaw18_NoncesOnce.mono_l k
    refine ⟨?_, ?_, ?_, ?_⟩
    · intro y0 y1 y2 y3 y4
      unfold chatelainelaw18_NoncesOnce.l0
      repeat' first
      | (with_reducible exact ih0 _ _ _ _ _)
      | (with_reducible exact ih1 _ _ _ _ _ _ _ _)
      | (with_reducible exact ih2 _ _ _ _ _ _ _)
      | (with_reducible exact ih3 _ _ _ _ _ _ _ _ _ _)
      | (with_reducible exact chatelainelaw18_awake.mono _)
      | (with_reducible exact nonces_Fresh.mono _ _ _ _)
      | (with_reducible exact nonces_May.mono _ _ _)
      | (with_reducible exact nonces_Use.mono _ _ _ _)
      | (with_reducible exact LeO.refl _)
      | (with_reducible exact LeO.none _)
      | (with_reducible refine LeO.ite ?_ ?_)
      | (with_reducible refine LeO.bind ?_ (fun _ => ?_))
      | exact ih0 _ _ _ _ _
      | exact ih1 _ _ _ _ _ _ _ _
      | exact ih2 _ _ _ _ _ _ _
      | exact ih3 _ _ _ _ _ _ _ _ _ _
      | exact chatelainelaw18_awake.mono _
      | exact nonces_Fresh.mono _ _ _ _
      | exact nonces_May.mono _ _ _
      | exact nonces_Use.mono _ _ _ _
      | exact LeO.none _
      | refine LeO.ite ?_ ?_
      | refine LeO.bind ?_ (fun _ => ?_)
    · intro y0 y1 y2 y3 y4 y5 y6 y7
      unfold chatelainelaw18_NoncesOnce.l1
      repeat' first
      | (with_reducible exact ih0 _ _ _ _ _)
      | (with_reducible exact ih1 _ _ _ _ _ _ _ _)
      | (with_reducible exact ih2 _ _ _ _ _ _ _)
      | (with_reducible exact ih3 _ _ _ _ _ _ _ _ _ _)
      | (with_reducible exact chatelainelaw18_awake.mono _)
      | (with_reducible exact nonces_Fresh.mono _ _ _ _)
      | (with_reducible exact nonces_May.mono _ _ _)
      | (with_reducible exact nonces_Use.mono _ _ _ _)
      | (with_reducible exact LeO.refl _)
      | (with_reducible exact LeO.none _)
      | (with_reducible refine LeO.ite ?_ ?_)
      | (with_reducible refine LeO.bind ?_ (fun _ => ?_))
      | exact ih0 _ _ _ _ _
      | exact ih1 _ _ _ _ _ _ _ _
      | exact ih2 _ _ _ _ _ _ _
      | exact ih3 _ _ _ _ _ _ _ _ _ _
      | exact chatelainelaw18_awake.mono _
      | exact nonces_Fresh.mono _ _ _ _
      | exact nonces_May.mono _ _ _
      | exact nonces_Use.mono _ _ _ _
      | exact LeO.none _
      | refine LeO.ite ?_ ?_
      | refine LeO.bind ?_ (fun _ => ?_)
    · intro y0 y1 y2 y3 y4 y5 y6
      unfold chatelainelaw18_NoncesOnce.j2
      repeat' first
      | (with_reducible exact ih0 _ _ _ _ _)
      | (with_reducible exact ih1 _ _ _ _ _ _ _ _)
      | (with_reducible exact ih2 _ _ _ _ _ _ _)
      | (with_reducible exact ih3 _ _ _ _ _ _ _ _ _ _)
      | (with_reducible exact chatelainelaw18_awake.mono _)
      | (with_reducible exact nonces_Fresh.mono _ _ _ _)
      | (with_reducible exact nonces_May.mono _ _ _)
      | (with_reducible exact nonces_Use.mono _ _ _ _)
      | (with_reducible exact LeO.refl _)
      | (with_reducible exact LeO.none _)
      | (with_reducible refine LeO.ite ?_ ?_)
      | (with_reducible refine LeO.bind ?_ (fun _ => ?_))
      | exact ih0 _ _ _ _ _
      | exact ih1 _ _ _ _ _ _ _ _
      | exact ih2 _ _ _ _ _ _ _
      | exact ih3 _ _ _ _ _ _ _ _ _ _
      | exact chatelainelaw18_awake.mono _
      | exact nonces_Fresh.mono _ _ _ _
      | exact nonces_May.mono _ _ _
      | exact nonces_Use.mono _ _ _ _
      | exact LeO.none _
      | refine LeO.ite ?_ ?_
      | refine LeO.bind ?_ (fun _ => ?_)
    · intro y0 y1 y2 y3 y4 y5 y6 y7 y8 y9
      unfold chatelainelaw18_NoncesOnce.j3
      repeat' first
      | (with_reducible exact ih0 _ _ _ _ _)
      | (with_reducible exact ih1 _ _ _ _ _ _ _ _)
      | (with_reducible exact ih2 _ _ _ _ _ _ _)
      | (with_reducible exact ih3 _ _ _ _ _ _ _ _ _ _)
      | (with_reducible exact chatelainelaw18_awake.mono _)
      | (with_reducible exact nonces_Fresh.mono _ _ _ _)
      | (with_reducible exact nonces_May.mono _ _ _)
      | (with_reducible exact nonces_Use.mono _ _ _ _)
      | (with_reducible exact LeO.refl _)
      | (with_reducible exact LeO.none _)
      | (with_reducible refine LeO.ite ?_ ?_)
      | (with_reducible refine LeO.bind ?_ (fun _ => ?_))
      | exact ih0 _ _ _ _ _
      | exact ih1 _ _ _ _ _ _ _ _
      | exact ih2 _ _ _ _ _ _ _
      | exact ih3 _ _ _ _ _ _ _ _ _ _
      | exact chatelainelaw18_awake.mono _
      | exact nonces_Fresh.mono _ _ _ _
      | exact nonces_May.mono _ _ _
      | exact nonces_Use.mono _ _ _ _
      | exact LeO.none _
      | refine LeO.ite ?_ ?_
      | refine LeO.bind ?_ (fun _ => ?_)
theorem chatelainelaw18_NoncesOnce.mono : ∀ a0 k, LeO (chatelainelaw18_NoncesOnce.f k a0) (chatelainelaw18_NoncesOnce.f (k + 1) a0) := by
  intro a0 k
  obtain ⟨ih0, ih1, ih2, ih3⟩ := chatelainelaw18_NoncesOnce.mono_l k
  unfold chatelainelaw18_NoncesOnce.f
  repeat' first
      | (with_reducible exact ih0 _ _ _ _ _)
      | (with_reducible exact ih1 _ _ _ _ _ _ _ _)
      | (with_reducible exact ih2 _ _ _ _ _ _ _)
      | (with_reducible exact ih3 _ _ _ _ _ _ _ _ _ _)
      | (with_reducible exact chatelainelaw18_awake.mono _)
      | (with_reducible exact nonces_Fresh.mono _ _ _ _)
      | (with_reducible exact nonces_May.mono _ _ _)
      | (with_reducible exact nonces_Use.mono _ _ _ _)
      | (with_reducible exact LeO.refl _)
      | (with_reducible exact LeO.none _)
      | (with_reducible refine LeO.ite ?_ ?_)
      | (with_reducible refine LeO.bind ?_ (fun _ => ?_))
      | exact ih0 _ _ _ _ _
      | exact ih1 _ _ _ _ _ _ _ _
      | exact ih2 _ _ _ _ _ _ _
      | exact ih3 _ _ _ _ _ _ _ _ _ _
      | exact chatelainelaw18_awake.mono _
      | exact nonces_Fresh.mono _ _ _ _
      | exact nonces_May.mono _ _ _
      | exact nonces_Use.mono _ _ _ _
      | exact LeO.none _
      | refine LeO.ite ?_ ?_
      | refine LeO.bind ?_ (fun _ => ?_)
set_option maxHeartbeats 8000000 in
set_option maxRecDepth 100000 in
theorem chatelainelaw18_NoncesOnce.calls (k : Nat) (A0 : Option Addr) (c0 : Nat) (l0 : List Int) (r : Bool) (w : World) (hr0 : Kd.C (Kd.int .i64) w A0 l0.length l0) (hc0 : l0.length ≤ c0) (hg_ : w.cell? ⟨0, 0, none⟩ = some (.iface 117 (.agg #[.pointer (some ⟨1, 24, none⟩)]))) (h : chatelainelaw18_NoncesOnce.f k l0 = some r) :
    Calls Tryd.prog 4 #[.slice A0 l0.length c0] w fun e w' => e = .returned (.bool r) ∧ Below w.heap.size w w' := by
  have HR0 := Aside0.mk hr0
  have HC0 := Aside0.mk hc0
  clear hr0 hc0
  have HG := Aside0.mk hg_
  clear hg_
  have HB := Aside0.mk (Below.refl w.heap.size w)
  have H : (if (l0.length : Int) > 80 then ((chatelainelaw18_awake.f k).bind fun t138 => (some t138)) else (chatelainelaw18_NoncesOnce.l0 k l0 0 0 ([] : List Int) 0)) = some r := h
  clear h
  by_cases c2 : (l0.length : Int) > 80
  · rw [if_pos c2] at H
    have c2b0 : decide (80 < (l0.length : Int)) = true := decide_eq_true c2
    have c2b1 : decide (80 < l0.length) = true := decide_eq_true (by omega)
    clear c2
    replace H := Option.bind_eq_some_iff.mp H
    obtain ⟨t138, A30, H⟩ := H
    replace H : (some t138) = some r := H
    have A3 := Aside0.mk A30
    clear A30
    obtain rfl := Option.some.inj H
    go_enter Tryd.func4, Tryd.ntmps4
    go_wp2_with (first | ((with_reducible refine gate_callee (f := 19) rfl ?_); refine goesL_ (some 17) rfl rfl Tryd.func19 (by kernel_rfl) rfl #[] rfl (by (try simp only [List.map_toArray, List.map_cons, List.map_nil]); first | done | rfl | (simp only [List.length_drop, List.length_take]; rfl)) ?_; (with_reducible refine (chatelainelaw18_awake.calls k  t138 _ ?side1 A3.out).mono ?_); (case side1 => exact pw_cell_below (by repeat (first | (with_reducible first | exact HB.out | apply below_alloc | apply pw_below_drewN | apply below_drew1) | exact HB.out)) HG.out); rintro e w4 ⟨rfl, hb⟩; refine ⟨_, rfl, ?_⟩; have n0_ := Aside0.mk (below_step (by repeat (first | (with_reducible first | exact HB.out | apply below_alloc | apply pw_below_drewN | apply below_drew1) | exact HB.out)) hb); clear HB; have HB := n0_; clear n0_; (try clear hb); (try clear hb2); (try clear hk); (try clear hi); (try clear A3)))
    go_ret
    exact ⟨by first | rfl | (simp [errW_none, errW_some] <;> rfl) | (simp [*, errW_none, errW_some] <;> rfl), by repeat (first | (with_reducible first | exact HB.out | apply below_alloc | apply pw_below_drewN | apply below_drew1) | exact HB.out)⟩
  · rw [if_neg c2] at H
    have c2b0 : decide (80 < (l0.length : Int)) = false := decide_eq_false c2
    have c2b1 : decide (80 < l0.length) = false := decide_eq_false (by omega)
    clear c2
    have H' := Aside0.mk H
    clear H
    go_enter Tryd.func4, Tryd.ntmps4
    go_wp2
    go_loopg [3, 4, 5, 6] k (fun kq v3 v4 v5 v6 w' => ∃ (x3_1 : Int) (x4_1 : Int) (x5_1 : List Int) (x6_1 : Int), v3 = .int .i64 x3_1 ∧ v4 = .int .u64 x4_1 ∧ v6 = .int .i64 x6_1 ∧ Aside0 (chatelainelaw18_NoncesOnce.l0 kq l0 x3_1 x4_1 x5_1 x6_1 = some r) ∧ Aside0 (kq ≤ k) ∧ Aside0 (Kd.R (Kd.int .i64) 3 w' w.heap.size (fun _ => True) v5 x5_1) ∧ Aside0 (Below w.heap.size w w'))
    case atStart => exact ⟨(0), (0), (([] : List Int)), (0), (by first | rfl | (simp; done) | (simp [*]; done)), (by first | rfl | (simp; done) | (simp [*]; done)), (by first | rfl | (simp; done) | (simp [*]; done)), H', ⟨Nat.le_refl _⟩, ⟨by first | exact Kd.R_nil _ _ _ _ _ | exact Kd.N_nil _ _ _ _ _ | exact Kd.V_nil _ _ _ _ _ | exact Kd.Q_nil _ _ _ _ _ | exact Kd.S_nil _ _ _ _ _⟩, ⟨by repeat (first | (with_reducible first | exact HB.out | apply below_alloc | apply pw_below_drewN | apply below_drew1) | exact HB.out)⟩⟩
    case round =>
      clear H'
      try clear c1
      try clear c2
      try clear c2b0
      try clear c2b1
      try clear p2
      try clear c4
      obtain ⟨x3_1, x4_1, x5_1, x6_1, rfl, rfl, rfl, HA, HK1, HO_5, HB⟩ := hrel
      cases gk with
      | zero => exact absurd HA.out (by simp [chatelainelaw18_NoncesOnce.l0])
      | succ k1 =>
        have H := HA.out
        clear HA
        simp only [chatelainelaw18_NoncesOnce.l0] at H
        by_cases c5 : x6_1 < (l0.length : Int)
        · rw [if_pos c5] at H
          have c5b0 : decide (x6_1 < (l0.length : Int)) = true := decide_eq_true c5
          clear c5
          by_cases c6 : 0 ≤ x6_1
          · rw [if_pos c6] at H
            have c6b0 : decide (0 ≤ x6_1) = true := decide_eq_true c6
            clear c6
            have H' := Aside0.mk H
            clear H
            have p140 : 0 ≤ (x6_1 : Int) := of_decide_eq_true (by first | (with_reducible assumption) | assumption)
            have q140 : x6_1 < (l0.length : Int) := of_decide_eq_true (by first | (with_reducible assumption) | assumption)
            obtain ⟨ad140, e140, hx140_0⟩ := Kd.at_int HR0.out x6_1 p140 q140
            cases e140
            replace hx140_0 := (HB.out.cell (World.block_lt_of_cell? w _ hx140_0)).trans hx140_0
            replace p140 := eq_true p140
            replace q140 := eq_true q140
            go_wp2
            go_loopg [8, 9] k1 (fun kq v8 v9 w' => ∃ (x8_2 : Bool) (x9_2 : Int), v8 = .bool x8_2 ∧ v9 = .int .i64 x9_2 ∧ Aside0 (chatelainelaw18_NoncesOnce.l1 kq l0 x3_1 x4_1 x5_1 x6_1 (rd l0 x6_1) x8_2 x9_2 = some r) ∧ Aside0 (kq ≤ k1) ∧ Aside0 (Kd.R (Kd.int .i64) 3 w' w.heap.size (fun _ => True) u5 x5_1) ∧ Aside0 (Below w.heap.size w w'))
            case atStart => exact ⟨(false), (0), (by first | rfl | (simp; done) | (simp [*]; done)), (by first | rfl | (simp; done) | (simp [*]; done)), H', ⟨Nat.le_refl _⟩, ⟨by (with_reducible repeat (first | apply Kd.R_alloc | apply Kd.R_drewN | apply Kd.R_drew)); exact HO_5.out⟩, ⟨by repeat (first | (with_reducible first | exact HB.out | apply below_alloc | apply pw_below_drewN | apply below_drew1) | exact HB.out)⟩⟩
            case round =>
              clear H'
              try clear c1
              try clear p1
              try clear q1
              try clear hx1
              try clear c2
              try clear c2b0
              try clear c2b1
              try clear p2
              try clear c4
              try clear c5
              try clear c5b0
              try clear c6
              try clear c6b0
              try clear hx140_0
              try clear p140
              try clear p2
              try clear q140
              obtain ⟨x8_2, x9_2, rfl, rfl, HA, HK2, HO_5, HB⟩ := hrel
              cases gk with
              | zero => exact absurd HA.out (by simp [chatelainelaw18_NoncesOnce.l1])
              | succ k2 =>
                have H := HA.out
                clear HA
                simp only [chatelainelaw18_NoncesOnce.l1] at H
                by_cases c7 : x9_2 < (x5_1.length : Int)
                · rw [if_pos c7] at H
                  have c7b0 : decide (x9_2 < (x5_1.length : Int)) = true := decide_eq_true c7
                  clear c7
                  by_cases c8 : x8_2 = true
                  · subst c8
                    have H1 : (chatelainelaw18_NoncesOnce.l1 k2 l0 x3_1 x4_1 x5_1 x6_1 (rd l0 x6_1) true (wrap64 (x9_2 + 1))) = some r := by rw [if_pos rfl] at H; exact H
                    clear H
                    have H := H1
                    clear H1
                    have H' := Aside0.mk H
                    clear H
                    obtain ⟨Ao9, co9, eo9⟩ := Kd.R_slice HO_5.out
                    subst eo9
                    go_wp2
                    go_roundg k2
                    case measure => have := HK1.out; have := HK2.out; omega
                    case rel => exact ⟨(true), (wrap64 (x9_2 + 1)), (by first | rfl | (simp; done) | (simp [*]; done)), (by first | rfl | (simp; done) | (simp [*]; done)), H', ⟨by have := HK1.out; have := HK2.out; omega⟩, ⟨by (with_reducible repeat (first | apply Kd.R_alloc | apply Kd.R_drewN | apply Kd.R_drew)); exact HO_5.out⟩, ⟨by repeat (first | (with_reducible first | exact HB.out | apply below_alloc | apply pw_below_drewN | apply below_drew1) | exact HB.out)⟩⟩
                  · replace c8 := Bool.eq_false_iff.mpr c8
                    subst c8
                    have H1 : (if 0 ≤ x9_2 then (chatelainelaw18_NoncesOnce.l1 k2 l0 x3_1 x4_1 x5_1 x6_1 (rd l0 x6_1) ((rd x5_1 x9_2) == (rd l0 x6_1)) (wrap64 (x9_2 + 1))) else (none)) = some r := by rw [if_neg (show ¬ (false = true) by decide)] at H; exact H
                    clear H
                    have H := H1
                    clear H1
                    by_cases c10 : 0 ≤ x9_2
                    · rw [if_pos c10] at H
                      have c10b0 : decide (0 ≤ x9_2) = true := decide_eq_true c10
                      clear c10
                      have H' := Aside0.mk H
                      clear H
                      obtain ⟨Ao11, co11, eo11⟩ := Kd.R_slice HO_5.out
                      subst eo11
                      have p141 : 0 ≤ (x9_2 : Int) := of_decide_eq_true (by first | (with_reducible assumption) | assumption)
                      have q141 : x9_2 < (x5_1.length : Int) := of_decide_eq_true (by first | (with_reducible assumption) | assumption)
                      obtain ⟨ad141, e141, hx141_0⟩ := Kd.at_int (Kd.R_reads' HO_5.out).2.2 x9_2 p141 q141
                      cases e141
                      replace p141 := eq_true p141
                      replace q141 := eq_true q141
                      go_wp2
                      go_roundg k2
                      case measure => have := HK1.out; have := HK2.out; omega
                      case rel => exact ⟨(((rd x5_1 x9_2) == (rd l0 x6_1))), (wrap64 (x9_2 + 1)), (by first | rfl | (simp; done) | (simp [*]; done)), (by first | rfl | (simp; done) | (simp [*]; done)), H', ⟨by have := HK1.out; have := HK2.out; omega⟩, ⟨by (with_reducible repeat (first | apply Kd.R_alloc | apply Kd.R_drewN | apply Kd.R_drew)); exact HO_5.out⟩, ⟨by repeat (first | (with_reducible first | exact HB.out | apply below_alloc | apply pw_below_drewN | apply below_drew1) | exact HB.out)⟩⟩
                    · rw [if_neg c10] at H
                      exact absurd H (by simp)
                · rw [if_neg c7] at H
                  have c7b0 : decide (x9_2 < (x5_1.length : Int)) = false := decide_eq_false c7
                  clear c7
                  have HC12 := Aside0.mk H
                  clear H
                  obtain ⟨Ao13, co13, eo13⟩ := Kd.R_slice HO_5.out
                  subst eo13
                  go_upto_region 14 with (fail)
                  go_cut [10] (fun v10 wc => ∃ (kq : Nat) (x10_11 : Bool), v10 = .bool x10_11 ∧ Aside0 (chatelainelaw18_NoncesOnce.j2 kq l0 x3_1 x4_1 x5_1 x6_1 (rd l0 x6_1) x10_11 = some r) ∧ Aside0 (kq ≤ k2) ∧ Aside0 (Kd.R (Kd.int .i64) 3 wc w.heap.size (fun _ => True) (.slice Ao13 x5_1.length co13) x5_1) ∧ Aside0 (Below w.heap.size w wc))
                  case first =>
                    have H := HC12.out
                    clear HC12
                    by_cases c14 : (rd l0 x6_1) ≥ 1
                    · rw [if_pos c14] at H
                      have c14b0 : decide (1 ≤ (rd l0 x6_1)) = true := decide_eq_true c14
                      clear c14
                      (first | rw [c14b0] | (simp only [i64_w, i32_w]; rw [c14b0]) | skip)
                      by_cases c15 : (rd l0 x6_1) ≤ 1099511627776
                      · rw [if_pos c15] at H
                        have c15b0 : decide ((rd l0 x6_1) ≤ 1099511627776) = true := decide_eq_true c15
                        clear c15
                        by_cases c16 : x8_2 = true
                        · subst c16
                          have H1 : (chatelainelaw18_NoncesOnce.j2 k2 l0 x3_1 x4_1 x5_1 x6_1 (rd l0 x6_1) false) = some r := by rw [if_pos rfl] at H; exact H
                          clear H
                          have H := H1
                          clear H1
                          have H' := Aside0.mk H
                          clear H
                          go_wp2
                          go_meet
                          case rel => exact ⟨_, (false), (by first | rfl | (simp; done) | (simp [*]; done)), H', ⟨by have := HK1.out; have := HK2.out; first | omega | exact Nat.le_refl _⟩, ⟨by (with_reducible repeat (first | apply Kd.R_alloc | apply Kd.R_drewN | apply Kd.R_drew)); exact HO_5.out⟩, ⟨by repeat (first | (with_reducible first | exact HB.out | apply below_alloc | apply pw_below_drewN | apply below_drew1) | exact HB.out)⟩⟩
                        · replace c16 := Bool.eq_false_iff.mpr c16
                          subst c16
                          have H1 : (chatelainelaw18_NoncesOnce.j2 k2 l0 x3_1 x4_1 x5_1 x6_1 (rd l0 x6_1) (decide ((rd l0 x6_1) > (wrap64 (x3_1 - 64))))) = some r := by rw [if_neg (show ¬ (false = true) by decide)] at H; exact H
                          clear H
                          have H := H1
                          clear H1
                          have H' := Aside0.mk H
                          clear H
                          go_wp2
                          go_meet
                          case rel => exact ⟨_, (decide ((rd l0 x6_1) > (wrap64 (x3_1 - 64)))), (by first | rfl | (simp; done) | (simp [*]; done)), H', ⟨by have := HK1.out; have := HK2.out; first | omega | exact Nat.le_refl _⟩, ⟨by (with_reducible repeat (first | apply Kd.R_alloc | apply Kd.R_drewN | apply Kd.R_drew)); exact HO_5.out⟩, ⟨by repeat (first | (with_reducible first | exact HB.out | apply below_alloc | apply pw_below_drewN | apply below_drew1) | exact HB.out)⟩⟩
                      · rw [if_neg c15] at H
                        have c15b0 : decide ((rd l0 x6_1) ≤ 1099511627776) = false := decide_eq_false c15
                        clear c15
                        have H' := Aside0.mk H
                        clear H
                        go_wp2
                        go_meet
                        case rel => exact ⟨_, (false), (by first | rfl | (simp; done) | (simp [*]; done)), H', ⟨by have := HK1.out; have := HK2.out; first | omega | exact Nat.le_refl _⟩, ⟨by (with_reducible repeat (first | apply Kd.R_alloc | apply Kd.R_drewN | apply Kd.R_drew)); exact HO_5.out⟩, ⟨by repeat (first | (with_reducible first | exact HB.out | apply below_alloc | apply pw_below_drewN | apply below_drew1) | exact HB.out)⟩⟩
                    · rw [if_neg c14] at H
                      have c14b0 : decide (1 ≤ (rd l0 x6_1)) = false := decide_eq_false c14
                      clear c14
                      (first | rw [c14b0] | (simp only [i64_w, i32_w]; rw [c14b0]) | skip)
                      have H' := Aside0.mk H
                      clear H
                      go_wp2
                      go_meet
                      case rel => exact ⟨_, (false), (by first | rfl | (simp; done) | (simp [*]; done)), H', ⟨by have := HK1.out; have := HK2.out; first | omega | exact Nat.le_refl _⟩, ⟨by (with_reducible repeat (first | apply Kd.R_alloc | apply Kd.R_drewN | apply Kd.R_drew)); exact HO_5.out⟩, ⟨by repeat (first | (with_reducible first | exact HB.out | apply below_alloc | apply pw_below_drewN | apply below_drew1) | exact HB.out)⟩⟩
                  case rest =>
                    clear HC12
                    try clear c1
                    try clear p1
                    try clear q1
                    try clear hx1
                    try clear c2
                    try clear c2b0
                    try clear c2b1
                    try clear p2
                    try clear c4
                    try clear c5
                    try clear c5b0
                    try clear c6
                    try clear c6b0
                    try clear p6
                    try clear c7
                    try clear c7b0
                    try clear c8
                    try clear c10
                    try clear c10b0
                    try clear c14
                    try clear c14b0
                    try clear p14
                    try clear q14
                    try clear hx14
                    try clear c15
                    try clear c15b0
                    try clear c16
                    try clear hx140_0
                    try clear hx141_0
                    try clear p1
                    try clear p140
                    try clear p141
                    try clear p2
                    try clear q1
                    try clear q140
                    try clear q141
                    obtain ⟨kq, x10_11, rfl, HA, HJ11, HO_5, HB⟩ := hcut
                    cases kq with
                    | zero => exact absurd HA.out (by simp [chatelainelaw18_NoncesOnce.j2])
                    | succ kj11 =>
                      have H := HA.out
                      clear HA
                      simp only [chatelainelaw18_NoncesOnce.j2] at H
                      replace H := Option.bind_eq_some_iff.mp H
                      obtain ⟨⟨t142, t143, t144⟩, A170, H⟩ := H
                      replace H : (if t144.isEmpty = true then (if (true != x10_11) = true then (chatelainelaw18_NoncesOnce.j3 kj11 l0 x3_1 x4_1 x5_1 x6_1 (rd l0 x6_1) t142 t143 t144 true) else ((nonces_Fresh.f kj11 x3_1 x4_1 (rd l0 x6_1)).bind fun t147 => (if (t147 != x10_11) = true then (chatelainelaw18_NoncesOnce.j3 kj11 l0 x3_1 x4_1 x5_1 x6_1 (rd l0 x6_1) t142 t143 t144 true) else (chatelainelaw18_NoncesOnce.j3 kj11 l0 x3_1 x4_1 x5_1 x6_1 (rd l0 x6_1) t142 t143 t144 false)))) else (if (false != x10_11) = true then (chatelainelaw18_NoncesOnce.j3 kj11 l0 x3_1 x4_1 x5_1 x6_1 (rd l0 x6_1) t142 t143 t144 true) else ((nonces_Fresh.f kj11 x3_1 x4_1 (rd l0 x6_1)).bind fun t148 => (if (t148 != x10_11) = true then (chatelainelaw18_NoncesOnce.j3 kj11 l0 x3_1 x4_1 x5_1 x6_1 (rd l0 x6_1) t142 t143 t144 true) else ((chatelainelaw0_Num.f t144).bind fun t149 => (chatelainelaw18_NoncesOnce.j3 kj11 l0 x3_1 x4_1 x5_1 x6_1 (rd l0 x6_1) t142 t143 t144 (t149 != 8))))))) = some r := H
                      have A17 := Aside0.mk A170
                      clear A170
                      have HC18 := Aside0.mk H
                      clear H
                      go_upto_region 16 with (first | ((with_reducible refine gate_callee (f := 12) rfl ?_); refine goesL_ (some 63) rfl rfl Tryd.func12 (by kernel_rfl) rfl #[.int .i64 x3_1, .int .u64 x4_1, .int .i64 (rd l0 x6_1)] rfl (by (try simp only [List.map_toArray, List.map_cons, List.map_nil]); first | done | rfl | (simp only [List.length_drop, List.length_take]; rfl)) ?_; (with_reducible refine (nonces_Use.calls kj11 x3_1 x4_1 (rd l0 x6_1) t142 t143 t144 _ A17.out).mono ?_); rintro e w19 ⟨v145, rfl, ho0, hb⟩; refine ⟨_, rfl, ?_⟩; have n0_ := Aside0.mk (Kd.R_below (by (with_reducible repeat (first | apply Kd.R_alloc | apply Kd.R_drewN | apply Kd.R_drew)); exact HO_5.out) hb); have n1_ := Aside0.mk (Kd.R_lower ho0 (below_size (by repeat (first | (with_reducible first | exact HB.out | apply below_alloc | apply pw_below_drewN | apply below_drew1) | exact HB.out)))); have n2_ := Aside0.mk (below_step (by repeat (first | (with_reducible first | exact HB.out | apply below_alloc | apply pw_below_drewN | apply below_drew1) | exact HB.out)) hb); clear HO_5; clear HB; have HO_5 := n0_; have HO146 := n1_; have HB := n2_; clear n0_ n1_ n2_; (try clear hb); (try clear hb2); (try clear hk); (try clear hi); (try clear ho0); (try clear A17)))
                      (try simp only [Act.put, List.setIfInBounds_toArray, List.set_cons_zero, List.set_cons_succ])
                      go_cut [87] (fun v87 wc => ∃ (kq : Nat) (x87_17 : Bool), v87 = .bool x87_17 ∧ Aside0 (chatelainelaw18_NoncesOnce.j3 kq l0 x3_1 x4_1 x5_1 x6_1 (rd l0 x6_1) t142 t143 t144 x87_17 = some r) ∧ Aside0 (kq ≤ kj11) ∧ Aside0 (Kd.R (Kd.int .i64) 3 wc w.heap.size (fun _ => True) (.slice Ao13 x5_1.length co13) x5_1) ∧ Aside0 (Kd.R k72 72 wc w.heap.size (fun _ => True) (eRow v145) t144) ∧ Aside0 (Below w.heap.size w wc))
                      case first =>
                        have H := HC18.out
                        clear HC18
                        by_cases c20 : t144.isEmpty = true
                        · rw [if_pos c20] at H
                          replace c20 := Aside0.mk c20
                          by_cases c21 : (true != x10_11) = true
                          · rw [if_pos c21] at H
                            have c21b0 : (true != x10_11) = true := c21
                            (try (have c21b1 : decide (true = x10_11) = false := by simpa using c21))
                            (try (have c21b2 : (true == x10_11) = false := by simpa using c21))
                            (try (have c21b3 : ¬ (true = x10_11) := by simpa using c21))
                            clear c21
                            (first | rw [c21b0] | (simp only [i64_w, i32_w]; rw [c21b0]) | skip)
                            have H' := Aside0.mk H
                            clear H
                            obtain rfl := eRow_none HO146.out c20.out
                            go_wp2
                            go_meet
                            case rel => exact ⟨_, (true), (by first | rfl | (simp; done) | (simp [*]; done)), H', ⟨by have := HK1.out; have := HK2.out; have := HJ11.out; first | omega | exact Nat.le_refl _⟩, ⟨by (with_reducible repeat (first | apply Kd.R_alloc | apply Kd.R_drewN | apply Kd.R_drew)); exact HO_5.out⟩, ⟨by (with_reducible repeat (first | apply Kd.R_alloc | apply Kd.R_drewN | apply Kd.R_drew)); exact HO146.out⟩, ⟨by repeat (first | (with_reducible first | exact HB.out | apply below_alloc | apply pw_below_drewN | apply below_drew1) | exact HB.out)⟩⟩
                          · rw [if_neg c21] at H
                            have c21b0 : (true != x10_11) = false := by simpa using c21
                            (try (have c21b1 : decide (true = x10_11) = true := by simpa using c21))
                            (try (have c21b2 : (true == x10_11) = true := by simpa using c21))
                            clear c21
                            (first | rw [c21b0] | (simp only [i64_w, i32_w]; rw [c21b0]) | skip)
                            replace H := Option.bind_eq_some_iff.mp H
                            obtain ⟨t147, A220, H⟩ := H
                            replace H : (if (t147 != x10_11) = true then (chatelainelaw18_NoncesOnce.j3 kj11 l0 x3_1 x4_1 x5_1 x6_1 (rd l0 x6_1) t142 t143 t144 true) else (chatelainelaw18_NoncesOnce.j3 kj11 l0 x3_1 x4_1 x5_1 x6_1 (rd l0 x6_1) t142 t143 t144 false)) = some r := H
                            have A22 := Aside0.mk A220
                            clear A220
                            by_cases c23 : (t147 != x10_11) = true
                            · rw [if_pos c23] at H
                              have c23b0 : (t147 != x10_11) = true := c23
                              (try (have c23b1 : decide (t147 = x10_11) = false := by simpa using c23))
                              (try (have c23b2 : (t147 == x10_11) = false := by simpa using c23))
                              (try (have c23b3 : ¬ (t147 = x10_11) := by simpa using c23))
                              clear c23
                              have H' := Aside0.mk H
                              clear H
                              obtain rfl := eRow_none HO146.out c20.out
                              go_wp2_with (first | (go_at_call 17; (with_reducible refine (nonces_Fresh.calls kj11 x3_1 x4_1 (rd l0 x6_1) t147 _ A22.out).mono ?_); rintro e w' ⟨rfl, ⟨nd, rfl⟩⟩))
                              go_meet
                              case rel => exact ⟨_, (true), (by first | rfl | (simp; done) | (simp [*]; done)), H', ⟨by have := HK1.out; have := HK2.out; have := HJ11.out; first | omega | exact Nat.le_refl _⟩, ⟨by (with_reducible repeat (first | apply Kd.R_alloc | apply Kd.R_drewN | apply Kd.R_drew)); exact HO_5.out⟩, ⟨by (with_reducible repeat (first | apply Kd.R_alloc | apply Kd.R_drewN | apply Kd.R_drew)); exact HO146.out⟩, ⟨by repeat (first | (with_reducible first | exact HB.out | apply below_alloc | apply pw_below_drewN | apply below_drew1) | exact HB.out)⟩⟩
                            · rw [if_neg c23] at H
                              have c23b0 : (t147 != x10_11) = false := by simpa using c23
                              (try (have c23b1 : decide (t147 = x10_11) = true := by simpa using c23))
                              (try (have c23b2 : (t147 == x10_11) = true := by simpa using c23))
                              clear c23
                              have H' := Aside0.mk H
                              clear H
                              obtain rfl := eRow_none HO146.out c20.out
                              go_wp2_with (first | (go_at_call 17; (with_reducible refine (nonces_Fresh.calls kj11 x3_1 x4_1 (rd l0 x6_1) t147 _ A22.out).mono ?_); rintro e w' ⟨rfl, ⟨nd, rfl⟩⟩))
                              go_meet
                              case rel => exact ⟨_, (false), (by first | rfl | (simp; done) | (simp [*]; done)), H', ⟨by have := HK1.out; have := HK2.out; have := HJ11.out; first | omega | exact Nat.le_refl _⟩, ⟨by (with_reducible repeat (first | apply Kd.R_alloc | apply Kd.R_drewN | apply Kd.R_drew)); exact HO_5.out⟩, ⟨by (with_reducible repeat (first | apply Kd.R_alloc | apply Kd.R_drewN | apply Kd.R_drew)); exact HO146.out⟩, ⟨by repeat (first | (with_reducible first | exact HB.out | apply below_alloc | apply pw_below_drewN | apply below_drew1) | exact HB.out)⟩⟩
                        · rw [if_neg c20] at H
                          replace c20 := Aside0.mk c20
                          by_cases c24 : (false != x10_11) = true
                          · rw [if_pos c24] at H
                            have c24b0 : (false != x10_11) = true := c24
                            (try (have c24b1 : decide (false = x10_11) = false := by simpa using c24))
                            (try (have c24b2 : (false == x10_11) = false := by simpa using c24))
                            (try (have c24b3 : ¬ (false = x10_11) := by simpa using c24))
                            clear c24
                            have H' := Aside0.mk H
                            clear H
                            obtain ⟨gec20, rfl⟩ := eRow_some HO146.out c20.out
                            go_wp2
                            go_meet
                            case rel => exact ⟨_, (true), (by first | rfl | (simp; done) | (simp [*]; done)), H', ⟨by have := HK1.out; have := HK2.out; have := HJ11.out; first | omega | exact Nat.le_refl _⟩, ⟨by (with_reducible repeat (first | apply Kd.R_alloc | apply Kd.R_drewN | apply Kd.R_drew)); exact HO_5.out⟩, ⟨by (with_reducible repeat (first | apply Kd.R_alloc | apply Kd.R_drewN | apply Kd.R_drew)); exact HO146.out⟩, ⟨by repeat (first | (with_reducible first | exact HB.out | apply below_alloc | apply pw_below_drewN | apply below_drew1) | exact HB.out)⟩⟩
                          · rw [if_neg c24] at H
                            have c24b0 : (false != x10_11) = false := by simpa using c24
                            (try (have c24b1 : decide (false = x10_11) = true := by simpa using c24))
                            (try (have c24b2 : (false == x10_11) = true := by simpa using c24))
                            clear c24
                            replace H := Option.bind_eq_some_iff.mp H
                            obtain ⟨t148, A250, H⟩ := H
                            replace H : (if (t148 != x10_11) = true then (chatelainelaw18_NoncesOnce.j3 kj11 l0 x3_1 x4_1 x5_1 x6_1 (rd l0 x6_1) t142 t143 t144 true) else ((chatelainelaw0_Num.f t144).bind fun t149 => (chatelainelaw18_NoncesOnce.j3 kj11 l0 x3_1 x4_1 x5_1 x6_1 (rd l0 x6_1) t142 t143 t144 (t149 != 8)))) = some r := H
                            have A25 := Aside0.mk A250
                            clear A250
                            by_cases c26 : (t148 != x10_11) = true
                            · rw [if_pos c26] at H
                              have c26b0 : (t148 != x10_11) = true := c26
                              (try (have c26b1 : decide (t148 = x10_11) = false := by simpa using c26))
                              (try (have c26b2 : (t148 == x10_11) = false := by simpa using c26))
                              (try (have c26b3 : ¬ (t148 = x10_11) := by simpa using c26))
                              clear c26
                              have H' := Aside0.mk H
                              clear H
                              obtain ⟨gec20, rfl⟩ := eRow_some HO146.out c20.out
                              go_wp2_with (first | (go_at_call 17; (with_reducible refine (nonces_Fresh.calls kj11 x3_1 x4_1 (rd l0 x6_1) t148 _ A25.out).mono ?_); rintro e w' ⟨rfl, ⟨nd, rfl⟩⟩))
                              go_meet
                              case rel => exact ⟨_, (true), (by first | rfl | (simp; done) | (simp [*]; done)), H', ⟨by have := HK1.out; have := HK2.out; have := HJ11.out; first | omega | exact Nat.le_refl _⟩, ⟨by (with_reducible repeat (first | apply Kd.R_alloc | apply Kd.R_drewN | apply Kd.R_drew)); exact HO_5.out⟩, ⟨by (with_reducible repeat (first | apply Kd.R_alloc | apply Kd.R_drewN | apply Kd.R_drew)); exact HO146.out⟩, ⟨by repeat (first | (with_reducible first | exact HB.out | apply below_alloc | apply pw_below_drewN | apply below_drew1) | exact HB.out)⟩⟩
                            · rw [if_neg c26] at H
                              have c26b0 : (t148 != x10_11) = false := by simpa using c26
                              (try (have c26b1 : decide (t148 = x10_11) = true := by simpa using c26))
                              (try (have c26b2 : (t148 == x10_11) = true := by simpa using c26))
                              clear c26
                              replace H := Option.bind_eq_some_iff.mp H
                              obtain ⟨t149, A270, H⟩ := H
                              replace H : (chatelainelaw18_NoncesOnce.j3 kj11 l0 x3_1 x4_1 x5_1 x6_1 (rd l0 x6_1) t142 t143 t144 (t149 != 8)) = some r := H
                              have A27 := Aside0.mk A270
                              clear A270
                              have H' := Aside0.mk H
                              clear H
                              obtain ⟨gec20, rfl⟩ := eRow_some HO146.out c20.out
                              go_wp2_with (first | (go_at_call 17; (with_reducible refine (nonces_Fresh.calls kj11 x3_1 x4_1 (rd l0 x6_1) t148 _ A25.out).mono ?_); rintro e w' ⟨rfl, ⟨nd, rfl⟩⟩) | (go_at_call 14; (with_reducible refine (chatelainelaw0_Num.calls (.iface 69 (.pointer (some ⟨gec20, 0, none⟩))) t144 t149 _ ?side1 ?side2 A27.out).mono ?_); (case side1 => exact ErrIs.of (by (with_reducible repeat (first | apply Kd.R_alloc | apply Kd.R_drewN | apply Kd.R_drew)); exact HO146.out)); (case side2 => exact pw_cell_below (by repeat (first | (with_reducible first | exact HB.out | apply below_alloc | apply pw_below_drewN | apply below_drew1) | exact HB.out)) HG.out); rintro e w28 ⟨rfl, hb⟩; have n0_ := Aside0.mk (Kd.R_below (by (with_reducible repeat (first | apply Kd.R_alloc | apply Kd.R_drewN | apply Kd.R_drew)); exact HO_5.out) hb); have n1_ := Aside0.mk (Kd.R_below (by (with_reducible repeat (first | apply Kd.R_alloc | apply Kd.R_drewN | apply Kd.R_drew)); exact HO146.out) hb); have n2_ := Aside0.mk (below_step (by repeat (first | (with_reducible first | exact HB.out | apply below_alloc | apply pw_below_drewN | apply below_drew1) | exact HB.out)) hb); clear HO_5; clear HO146; clear HB; have HO_5 := n0_; have HO146 := n1_; have HB := n2_; clear n0_ n1_ n2_; (try clear hb); (try clear hb2); (try clear hk); (try clear hi); (try clear A27)))
                              go_meet
                              case rel => exact ⟨_, ((t149 != 8)), (by first | rfl | (simp; done) | (simp [*]; done)), H', ⟨by have := HK1.out; have := HK2.out; have := HJ11.out; first | omega | exact Nat.le_refl _⟩, ⟨by (with_reducible repeat (first | apply Kd.R_alloc | apply Kd.R_drewN | apply Kd.R_drew)); exact HO_5.out⟩, ⟨by (with_reducible repeat (first | apply Kd.R_alloc | apply Kd.R_drewN | apply Kd.R_drew)); exact HO146.out⟩, ⟨by repeat (first | (with_reducible first | exact HB.out | apply below_alloc | apply pw_below_drewN | apply below_drew1) | exact HB.out)⟩⟩
                      case rest =>
                        clear HC18
                        try clear c1
                        try clear p1
                        try clear q1
                        try clear hx1
                        try clear c2
                        try clear c2b0
                        try clear c2b1
                        try clear p2
                        try clear c4
                        try clear c5
                        try clear c5b0
                        try clear c6
                        try clear c6b0
                        try clear p6
                        try clear c7
                        try clear c7b0
                        try clear c8
                        try clear c10
                        try clear c10b0
                        try clear c12
                        try clear c14
                        try clear c14b0
                        try clear p14
                        try clear q14
                        try clear hx14
                        try clear c15
                        try clear c15b0
                        try clear c16
                        try clear c19
                        try clear c20
                        try clear c21
                        try clear c21b0
                        try clear c21b1
                        try clear c21b2
                        try clear c23
                        try clear c23b0
                        try clear c23b1
                        try clear c23b2
                        try clear c24
                        try clear c24b0
                        try clear c24b1
                        try clear c24b2
                        try clear c26
                        try clear c26b0
                        try clear c26b1
                        try clear c26b2
                        try clear hx140_0
                        try clear hx141_0
                        try clear p1
                        try clear p14
                        try clear p140
                        try clear p141
                        try clear p2
                        try clear p6
                        try clear q1
                        try clear q14
                        try clear q140
                        try clear q141
                        obtain ⟨kq, x87_17, rfl, HA, HJ17, HO_5, HO_13, HB⟩ := hcut
                        cases kq with
                        | zero => exact absurd HA.out (by simp [chatelainelaw18_NoncesOnce.j3])
                        | succ kj17 =>
                          have H := HA.out
                          clear HA
                          simp only [chatelainelaw18_NoncesOnce.j3] at H
                          by_cases c29 : x87_17 = true
                          · subst c29
                            have H1 : (some false) = some r := by rw [if_pos rfl] at H; exact H
                            clear H
                            have H := H1
                            clear H1
                            obtain rfl := Option.some.inj H
                            go_wp2
                            go_ret
                            exact ⟨by first | rfl | (simp [errW_none, errW_some] <;> rfl) | (simp [*, errW_none, errW_some] <;> rfl), by repeat (first | (with_reducible first | exact HB.out | apply below_alloc | apply pw_below_drewN | apply below_drew1) | exact HB.out)⟩
                          · replace c29 := Bool.eq_false_iff.mpr c29
                            subst c29
                            have H1 : (if t144.isEmpty = true then (if t142 = (mx x3_1 (rd l0 x6_1)) then ((nonces_May.f kj17 t142 t143).bind fun t150 => (if t150 = true then (if x5_1.length < 17592186044416 then (chatelainelaw18_NoncesOnce.l0 kj17 l0 t142 t143 (x5_1 ++ [(rd l0 x6_1)]) (wrap64 (x6_1 + 1))) else (none)) else (some false))) else (some false)) else (chatelainelaw18_NoncesOnce.l0 kj17 l0 x3_1 x4_1 x5_1 (wrap64 (x6_1 + 1)))) = some r := by rw [if_neg (show ¬ (false = true) by decide)] at H; exact H
                            clear H
                            have H := H1
                            clear H1
                            by_cases c30 : t144.isEmpty = true
                            · rw [if_pos c30] at H
                              replace c30 := Aside0.mk c30
                              obtain ⟨ji31, hji31⟩ : ∃ j_ : Int, (mx x3_1 (rd l0 x6_1)) = j_ := ⟨_, rfl⟩
                              replace H : (if t142 = (ji31) then ((nonces_May.f kj17 t142 t143).bind fun t150 => (if t150 = true then (if x5_1.length < 17592186044416 then (chatelainelaw18_NoncesOnce.l0 kj17 l0 t142 t143 (x5_1 ++ [(rd l0 x6_1)]) (wrap64 (x6_1 + 1))) else (none)) else (some false))) else (some false)) = some r := by first | (rw [hji31] at H; exact H) | (simp only [hji31] at H ⊢; exact H)
                              have hji31_ : (if x3_1 < (rd l0 x6_1) then (rd l0 x6_1) else x3_1) = ji31 := hji31
                              by_cases c32 : t142 = (ji31)
                              · rw [if_pos c32] at H
                                have c32b0 : (t142 == (ji31)) = true := beq_iff_eq.mpr c32
                                have c32b1 : (t142 != (ji31)) = false := bne_eq_false_iff_eq.mpr c32
                                clear c32
                                replace H := Option.bind_eq_some_iff.mp H
                                obtain ⟨t150, A330, H⟩ := H
                                replace H : (if t150 = true then (if x5_1.length < 17592186044416 then (chatelainelaw18_NoncesOnce.l0 kj17 l0 t142 t143 (x5_1 ++ [(rd l0 x6_1)]) (wrap64 (x6_1 + 1))) else (none)) else (some false)) = some r := H
                                have A33 := Aside0.mk A330
                                clear A330
                                by_cases c34 : t150 = true
                                · subst c34
                                  have H1 : (if x5_1.length < 17592186044416 then (chatelainelaw18_NoncesOnce.l0 kj17 l0 t142 t143 (x5_1 ++ [(rd l0 x6_1)]) (wrap64 (x6_1 + 1))) else (none)) = some r := by rw [if_pos rfl] at H; exact H
                                  clear H
                                  have H := H1
                                  clear H1
                                  by_cases c35 : x5_1.length < 17592186044416
                                  · rw [if_pos c35] at H
                                    have LMc35 := Aside0.mk c35
                                    clear c35
                                    obtain ⟨y151, hy151⟩ : ∃ y_ : List Int, y_ = (x5_1 ++ [(rd l0 x6_1)]) := ⟨_, rfl⟩
                                    replace H : (chatelainelaw18_NoncesOnce.l0 kj17 l0 t142 t143 y151 (wrap64 (x6_1 + 1))) = some r := by first | (rw [hy151]; with_reducible exact H) | (have H2_ := (Option.bind_some _ _).symm.trans H; rw [hy151]; with_reducible exact H2_) | (have H2_ := (Option.bind_some _ _).symm.trans H; with_reducible exact H2_) | with_reducible exact H | (rw [hy151]; exact H) | exact H
                                    have Ny151 := Aside0.mk hy151
                                    clear hy151
                                    have H' := Aside0.mk H
                                    clear H
                                    obtain rfl := eRow_none HO_13.out c30.out
                                    go_wp2_with (first | (go_at_call 15; (with_reducible refine (nonces_May.calls kj17 t142 t143 true _ A33.out).mono ?_); rintro e w' ⟨rfl, ⟨nd, rfl⟩⟩) | ((with_reducible refine gate_builtin (b := .append) (xs := #[.tmp 103, .tmp 105]) rfl ?_); at_builtin; refine Kd.R_append (Kd.int .i64) (w0 := w) w.heap.size rfl (.tmp 103) (.tmp 105) 33 3 (.int .i64 0) 8 rfl Tryd.underlying33 info3 rfl (by decide) (by omega) (.slice Ao13 x5_1.length co13) x5_1 (rd l0 x6_1) [.int .i64 (rd l0 x6_1)] (fun _ => True) (fun _ => False) rfl rfl ?aP (fun _ hk => hk.elim) ?aF ?aO ?aB ?aS ?aL ?_; (case aP => exact rfl); (case aB => exact (by repeat (first | (with_reducible first | exact HB.out | apply below_alloc | apply pw_below_drewN | apply below_drew1) | exact HB.out))); (case aF => exact (fun _ _ => trivial)); (case aO => exact (by (with_reducible repeat (first | apply Kd.R_alloc | apply Kd.R_drewN | apply Kd.R_drew)); exact HO_5.out)); (case aS => exact (below_size (by repeat (first | (with_reducible first | exact HB.out | apply below_alloc | apply pw_below_drewN | apply below_drew1) | exact HB.out)))); (case aL => have := LMc35.out; omega); intro v152 w36 ho hb hg hat; rw [← Ny151.out] at ho; have n0_ := Aside0.mk (Kd.R_over' (by (with_reducible repeat (first | apply Kd.R_alloc | apply Kd.R_drewN | apply Kd.R_drew)); exact HO_13.out) (Kd.R_typed (by (with_reducible repeat (first | apply Kd.R_alloc | apply Kd.R_drewN | apply Kd.R_drew)); exact HO_5.out)) (by decide) hg); have n1_ := Aside0.mk (hb); have n2_ := Aside0.mk (ho); clear HO_13; clear HB; clear HO_5; have HO_13 := n0_; have HB := n1_; have HO153 := n2_; clear n0_ n1_ n2_; clear ho hb hg hat))
                                    go_roundg kj17
                                    case measure => have := HK1.out; have := HK2.out; have := HJ11.out; have := HJ17.out; omega
                                    case rel => exact ⟨(t142), (t143), (y151), (wrap64 (x6_1 + 1)), (by first | rfl | (simp; done) | (simp [*]; done)), (by first | rfl | (simp; done) | (simp [*]; done)), (by first | rfl | (simp; done) | (simp [*]; done)), H', ⟨by have := HK1.out; have := HK2.out; have := HJ11.out; have := HJ17.out; omega⟩, ⟨by (with_reducible repeat (first | apply Kd.R_alloc | apply Kd.R_drewN | apply Kd.R_drew)); exact HO153.out⟩, ⟨by repeat (first | (with_reducible first | exact HB.out | apply below_alloc | apply pw_below_drewN | apply below_drew1) | exact HB.out)⟩⟩
                                  · rw [if_neg c35] at H
                                    exact absurd H (by simp)
                                · replace c34 := Bool.eq_false_iff.mpr c34
                                  subst c34
                                  have H1 : (some false) = some r := by rw [if_neg (show ¬ (false = true) by decide)] at H; exact H
                                  clear H
                                  have H := H1
                                  clear H1
                                  obtain rfl := Option.some.inj H
                                  obtain rfl := eRow_none HO_13.out c30.out
                                  go_wp2_with (first | (go_at_call 15; (with_reducible refine (nonces_May.calls kj17 t142 t143 false _ A33.out).mono ?_); rintro e w' ⟨rfl, ⟨nd, rfl⟩⟩))
                                  go_ret
                                  exact ⟨by first | rfl | (simp [errW_none, errW_some] <;> rfl) | (simp only [← hji31]; first | rfl | (simp [errW_none, errW_some] <;> rfl)) | (simp [*, errW_none, errW_some] <;> rfl), by repeat (first | (with_reducible first | exact HB.out | apply below_alloc | apply pw_below_drewN | apply below_drew1) | exact HB.out)⟩
                              · rw [if_neg c32] at H
                                have c32b0 : (t142 == (ji31)) = false := beq_eq_false_iff_ne.mpr c32
                                have c32b1 : (t142 != (ji31)) = true := bne_iff_ne.mpr c32
                                obtain rfl := Option.some.inj H
                                obtain rfl := eRow_none HO_13.out c30.out
                                go_wp2
                                go_ret
                                exact ⟨by first | rfl | (simp [errW_none, errW_some] <;> rfl) | (simp only [← hji31]; first | rfl | (simp [errW_none, errW_some] <;> rfl)) | (simp [*, errW_none, errW_some] <;> rfl), by repeat (first | (with_reducible first | exact HB.out | apply below_alloc | apply pw_below_drewN | apply below_drew1) | exact HB.out)⟩
                            · rw [if_neg c30] at H
                              replace c30 := Aside0.mk c30
                              have H' := Aside0.mk H
                              clear H
                              obtain ⟨gec30, rfl⟩ := eRow_some HO_13.out c30.out
                              go_wp2
                              go_roundg kj17
                              case measure => have := HK1.out; have := HK2.out; have := HJ11.out; have := HJ17.out; omega
                              case rel => exact ⟨(x3_1), (x4_1), (x5_1), (wrap64 (x6_1 + 1)), (by first | rfl | (simp; done) | (simp [*]; done)), (by first | rfl | (simp; done) | (simp [*]; done)), (by first | rfl | (simp; done) | (simp [*]; done)), H', ⟨by have := HK1.out; have := HK2.out; have := HJ11.out; have := HJ17.out; omega⟩, ⟨by (with_reducible repeat (first | apply Kd.R_alloc | apply Kd.R_drewN | apply Kd.R_drew)); exact HO_5.out⟩, ⟨by repeat (first | (with_reducible first | exact HB.out | apply below_alloc | apply pw_below_drewN | apply below_drew1) | exact HB.out)⟩⟩
          · rw [if_neg c6] at H
            exact absurd H (by simp)
        · rw [if_neg c5] at H
          have c5b0 : decide (x6_1 < (l0.length : Int)) = false := decide_eq_false c5
          clear c5
          replace H := Option.bind_eq_some_iff.mp H
          obtain ⟨t139, A370, H⟩ := H
          replace H : (some t139) = some r := H
          have A37 := Aside0.mk A370
          clear A370
          obtain rfl := Option.some.inj H
          go_wp2_with (first | ((with_reducible refine gate_callee (f := 19) rfl ?_); refine goesL_ (some 107) rfl rfl Tryd.func19 (by kernel_rfl) rfl #[] rfl (by (try simp only [List.map_toArray, List.map_cons, List.map_nil]); first | done | rfl | (simp only [List.length_drop, List.length_take]; rfl)) ?_; (with_reducible refine (chatelainelaw18_awake.calls k1  t139 _ ?side1 A37.out).mono ?_); (case side1 => exact pw_cell_below (by repeat (first | (with_reducible first | exact HB.out | apply below_alloc | apply pw_below_drewN | apply below_drew1) | exact HB.out)) HG.out); rintro e w38 ⟨rfl, hb⟩; refine ⟨_, rfl, ?_⟩; have n0_ := Aside0.mk (Kd.R_below (by (with_reducible repeat (first | apply Kd.R_alloc | apply Kd.R_drewN | apply Kd.R_drew)); exact HO_5.out) hb); have n1_ := Aside0.mk (below_step (by repeat (first | (with_reducible first | exact HB.out | apply below_alloc | apply pw_below_drewN | apply below_drew1) | exact HB.out)) hb); clear HO_5; clear HB; have HO_5 := n0_; have HB := n1_; clear n0_ n1_; (try clear hb); (try clear hb2); (try clear hk); (try clear hi); (try clear A37)))
          go_ret
          exact ⟨by first | rfl | (simp [errW_none, errW_some] <;> rfl) | (simp [*, errW_none, errW_some] <;> rfl), by repeat (first | (with_reducible first | exact HB.out | apply below_alloc | apply pw_below_drewN | apply below_drew1) | exact HB.out)⟩

/-- THE ONE PURE STATEMENT of chatelainelaw18_NoncesOnce: yours. -/
def chatelainelaw18_NoncesOnce.Pure : Prop := ∀ (l0 : List Int), l0.length ≤ maxLen → l0.length * 8 ≤ 140737488351232 → (∀ x ∈ l0, (Lit.int .i64 x).wf = true) → ∃ k, chatelainelaw18_NoncesOnce.f k l0 = some true
theorem chatelainelaw18_NoncesOnce.walk (P : chatelainelaw18_NoncesOnce.Pure) (a0 : Option Addr) (len0 cap0 : Nat) (z0 : List Int) (w : World) (w0 : (a0 = none ∧ len0 = 0 ∧ cap0 = 0 ∧ z0 = []) ∨ ∃ x, a0 = some x ∧ len0 ≤ cap0 ∧ cap0 ≤ maxLen ∧ z0.length = cap0 ∧ (∀ i, i < z0.length → w.cell? (x.add i) = some (.int .i64 (z0.getD i 0))) ∧ ∀ n ∈ z0, (Lit.int .i64 n).wf = true) (y0 : len0 * 8 ≤ 140737488351232) (hg_ : w.cell? ⟨0, 0, none⟩ = some (.iface 117 (.agg #[.pointer (some ⟨1, 24, none⟩)]))) :
    Calls Tryd.prog 4 #[.slice a0 len0 cap0] w fun e w' => e = .returned (.bool true) ∧ Below w.heap.size w w' := by
  obtain ⟨l0, rfl, hr0, hm0, hw0, hc0⟩ := ReadsInt.ofRowC w0
  obtain ⟨k, h⟩ := P l0 hm0 y0 hw0
  refine (chatelainelaw18_NoncesOnce.calls k _ _ l0 true w (Kd.C_of_reads (d := (0 : Int)) (h1 := fun _ => rfl) hr0) hc0 hg_ h).mono ?_
  rintro e w' ⟨rfl, hd⟩
  exact ⟨rfl, hd⟩

end Go.Proofs.YthliabidnboklaaDoor.PNon
