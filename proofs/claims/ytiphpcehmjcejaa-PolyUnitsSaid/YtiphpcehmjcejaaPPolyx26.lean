-- By a program of this session (wip/myprint.sh) out of the translation; Lean checks it.
import Derived.Test.YtiphpcehmjcejaaPPolyx0
import Derived.Test.YtiphpcehmjcejaaPPolyx1
import Derived.Test.YtiphpcehmjcejaaPPolyx3
import Derived.Test.YtiphpcehmjcejaaPPolyx4
import Derived.Test.YtiphpcehmjcejaaPPolyx6
import Derived.Test.YtiphpcehmjcejaaPPolyx20
namespace Go.Proofs.Ytiphpcehmjcejaa.PPoly
open Go.RowKit Go.Proofs.YtiphpcehmjcejaaW.PrintWords Go.Proofs.YtiphpcehmjcejaaW.PrintLast Go.Proofs.YtiphpcehmjcejaaW.PrintMore
attribute [local go_sem] max2_int min2_int max_two min_two max_three min_three max_four min_four   -- for this text's walks alone
set_option linter.unusedVariables false
set_option linter.unusedSimpArgs false

/-! ### chatelainelaw4_PolyUnits: function 9 -/
mutual
def chatelainelaw4_PolyUnits.l0 : Nat → Int → List Int → Int → Option (Bool)
  | 0, _, _, _ => none
  | k + 1, x0, x3, x4 => if x4 < 128 then (chatelainelaw4_PolyUnits.l1 k x0 x3 x4 0 0) else ((chatelainelaw4_awake.f k).bind fun t429 => (some t429))
def chatelainelaw4_PolyUnits.l1 : Nat → Int → List Int → Int → Int → Int → Option (Bool)
  | 0, _, _, _, _, _ => none
  | k + 1, x0, x3, x4, x5, x6 => if x6 < 7 then (if 0 ≤ x6 then (chatelainelaw4_PolyUnits.l1 k x0 x3 x4 (wrap64 ((wrap64 (2 * x5)) + (Go.bits .and .i64 (shr .i64 x4 x6) 1))) (wrap64 (x6 + 1))) else (none)) else ((ring_Pow.f k 17 (wrap64 ((wrap64 ((wrap64 (2 * x5)) + 1)) * (wrap64 (Int.tdiv x0 2))))).bind fun t430 => (if 0 ≤ (wrap64 ((wrap64 (2 * x4)) + (Int.tmod x0 2))) then (if (wrap64 ((wrap64 (2 * x4)) + (Int.tmod x0 2))) < (x3.length : Int) then (if (rd x3 (wrap64 ((wrap64 (2 * x4)) + (Int.tmod x0 2)))) = t430 then (if 0 ≤ (wrap64 ((wrap64 ((wrap64 (2 * x4)) + 1)) - (Int.tmod x0 2))) then (if (wrap64 ((wrap64 ((wrap64 (2 * x4)) + 1)) - (Int.tmod x0 2))) < (x3.length : Int) then (if (rd x3 (wrap64 ((wrap64 ((wrap64 (2 * x4)) + 1)) - (Int.tmod x0 2)))) = 0 then (chatelainelaw4_PolyUnits.l0 k x0 x3 (wrap64 (x4 + 1))) else (some false)) else (none)) else (none)) else (some false)) else (none)) else (none)))
end
def chatelainelaw4_PolyUnits.f (k : Nat) (a0 : Int) : Option (Bool) := (chatelainelaw0_Low.f a0 256).bind fun t422 => ((chatelainelaw4_unit.f t422).bind fun t423 => ((poly_Over.f k t423).bind fun t426 => (if (t426.length : Int) = 256 then (chatelainelaw4_PolyUnits.l0 k t422 t426 0) else (some false))))
theorem chatelainelaw4_PolyUnits.mono_l : ∀ k, (∀ y0 y1 y2, LeO (chatelainelaw4_PolyUnits.l0 k y0 y1 y2) (chatelainelaw4_PolyUnits.l0 (k + 1) y0 y1 y2)) ∧ (∀ y0 y1 y2 y3 y4, LeO (chatelainelaw4_PolyUnits.l1 k y0 y1 y2 y3 y4) (chatelainelaw4_PolyUnits.l1 (k + 1) y0 y1 y2 y3 y4))
  | 0 => ⟨fun _ _ _ r h => by simp [chatelainelaw4_PolyUnits.l0] at h, fun _ _ _ _ _ r h => by simp [chatelainelaw4_PolyUnits.l1] at h⟩
  | k + 1 => by
    obtain ⟨ih0, ih1⟩ := chatelainelaw4_PolyUnits.mono_l k
    refine ⟨?_, ?_⟩
    · intro y0 y1 y2
      unfold chatelainelaw4_PolyUnits.l0
      repeat' first
      | (with_reducible exact ih0 _ _ _)
      | (with_reducible exact ih1 _ _ _ _ _)
      | (with_reducible exact chatelainelaw4_awake.mono _)
      | (with_reducible exact poly_Over.mono _ _)
      | (with_reducible exact ring_Pow.mono _ _ _)
      | (with_reducible exact LeO.refl _)
      | (with_reducible exact LeO.none _)
      | (with_reducible refine LeO.ite ?_ ?_)
      | (with_reducible refine LeO.bind ?_ (fun _ => ?_))
      | exact ih0 _ _ _
      | exact ih1 _ _ _ _ _
      | exact chatelainelaw4_awake.mono _
      | exact poly_Over.mono _ _
      | exact ring_Pow.mono _ _ _
      | exact LeO.none _
      | refine LeO.ite ?_ ?_
      | refine LeO.bind ?_ (fun _ => ?_)
    · intro y0 y1 y2 y3 y4
      unfold chatelainelaw4_PolyUnits.l1
      repeat' first
      | (with_reducible exact ih0 _ _ _)
      | (with_reducible exact ih1 _ _ _ _ _)
      | (with_reducible exact chatelainelaw4_awake.mono _)
      | (with_reducible exact poly_Over.mono _ _)
      | (with_reducible exact ring_Pow.mono _ _ _)
      | (with_reducible exact LeO.refl _)
      | (with_reducible exact LeO.none _)
      | (with_reducible refine LeO.ite ?_ ?_)
      | (with_reducible refine LeO.bind ?_ (fun _ => ?_))
      | exact ih0 _ _ _
      | exact ih1 _ _ _ _ _
      | exact chatelainelaw4_awake.mono _
      | exact poly_Over.mono _ _
      | exact ring_Pow.mono _ _ _
      | exact LeO.none _
      | refine LeO.ite ?_ ?_
      | refine LeO.bind ?_ (fun _ => ?_)
theorem chatelainelaw4_PolyUnits.mono : ∀ a0 k, LeO (chatelainelaw4_PolyUnits.f k a0) (chatelainelaw4_PolyUnits.f (k + 1) a0) := by
  intro a0 k
  obtain ⟨ih0, ih1⟩ := chatelainelaw4_PolyUnits.mono_l k
  unfold chatelainelaw4_PolyUnits.f
  repeat' first
      | (with_reducible exact ih0 _ _ _)
      | (with_reducible exact ih1 _ _ _ _ _)
      | (with_reducible exact chatelainelaw4_awake.mono _)
      | (with_reducible exact poly_Over.mono _ _)
      | (with_reducible exact ring_Pow.mono _ _ _)
      | (with_reducible exact LeO.refl _)
      | (with_reducible exact LeO.none _)
      | (with_reducible refine LeO.ite ?_ ?_)
      | (with_reducible refine LeO.bind ?_ (fun _ => ?_))
      | exact ih0 _ _ _
      | exact ih1 _ _ _ _ _
      | exact chatelainelaw4_awake.mono _
      | exact poly_Over.mono _ _
      | exact ring_Pow.mono _ _ _
      | exact LeO.none _
      | refine LeO.ite ?_ ?_
      | refine LeO.bind ?_ (fun _ => ?_)
set_option maxHeartbeats 8000000 in
set_option maxRecDepth 100000 in
theorem chatelainelaw4_PolyUnits.calls (k : Nat) (a0 : Int) (r : Bool) (w : World) (h : chatelainelaw4_PolyUnits.f k a0 = some r) :
    Calls Try.prog 9 #[.int .i64 a0] w fun e w' => e = .returned (.bool r) ∧ Below w.heap.size w w' := by
  have HB := Aside0.mk (Below.refl w.heap.size w)
  have H : ((chatelainelaw0_Low.f a0 256).bind fun t422 => ((chatelainelaw4_unit.f t422).bind fun t423 => ((poly_Over.f k t423).bind fun t426 => (if (t426.length : Int) = 256 then (chatelainelaw4_PolyUnits.l0 k t422 t426 0) else (some false))))) = some r := h
  clear h
  replace H := Option.bind_eq_some_iff.mp H
  obtain ⟨t422, A20, H⟩ := H
  replace H : ((chatelainelaw4_unit.f t422).bind fun t423 => ((poly_Over.f k t423).bind fun t426 => (if (t426.length : Int) = 256 then (chatelainelaw4_PolyUnits.l0 k t422 t426 0) else (some false)))) = some r := H
  have A2 := Aside0.mk A20
  clear A20
  replace H := Option.bind_eq_some_iff.mp H
  obtain ⟨t423, A30, H⟩ := H
  replace H : ((poly_Over.f k t423).bind fun t426 => (if (t426.length : Int) = 256 then (chatelainelaw4_PolyUnits.l0 k t422 t426 0) else (some false))) = some r := H
  have A3 := Aside0.mk A30
  clear A30
  replace H := Option.bind_eq_some_iff.mp H
  obtain ⟨t426, A40, H⟩ := H
  replace H : (if (t426.length : Int) = 256 then (chatelainelaw4_PolyUnits.l0 k t422 t426 0) else (some false)) = some r := H
  have A4 := Aside0.mk A40
  clear A40
  by_cases c5 : (t426.length : Int) = 256
  · rw [if_pos c5] at H
    have c5b0 : ((t426.length : Int) == 256) = true := beq_iff_eq.mpr c5
    have c5b1 : ((t426.length : Int) != 256) = false := bne_eq_false_iff_eq.mpr c5
    clear c5
    have H' := Aside0.mk H
    clear H
    go_enter Try.func9, Try.ntmps9
    go_wp2_with (first | ((with_reducible refine gate_callee (f := 17) rfl ?_); refine goesL_ (some 9) rfl rfl Try.func17 (by kernel_rfl) rfl #[.int .i64 a0, .int .i64 256] rfl (by (try simp only [List.map_toArray, List.map_cons, List.map_nil]); first | done | rfl | (simp only [List.length_drop, List.length_take]; rfl)) ?_; (with_reducible refine (chatelainelaw0_Low.calls a0 256 t422 _ A2.out).mono ?_); rintro e w' ⟨rfl, ⟨nd, rfl⟩⟩; refine ⟨_, rfl, ?_⟩) | ((with_reducible refine gate_callee (f := 36) rfl ?_); refine goesL_ (some 11) rfl rfl Try.func36 (by kernel_rfl) rfl #[.int .i64 t422] rfl (by (try simp only [List.map_toArray, List.map_cons, List.map_nil]); first | done | rfl | (simp only [List.length_drop, List.length_take]; rfl)) ?_; (with_reducible refine (chatelainelaw4_unit.calls t422 t423 _ A3.out).mono ?_); rintro e w6 ⟨v424, rfl, ho0, hb⟩; refine ⟨_, rfl, ?_⟩; have n0_ := Aside0.mk (Kd.R_lower ho0 (below_size (by repeat (first | (with_reducible first | exact HB.out | apply below_alloc | apply pw_below_drewN | apply below_drew1) | exact HB.out)))); have n1_ := Aside0.mk (below_step (by repeat (first | (with_reducible first | exact HB.out | apply below_alloc | apply pw_below_drewN | apply below_drew1) | exact HB.out)) hb); clear HB; have HO425 := n0_; have HB := n1_; clear n0_ n1_; (try clear hb); (try clear hb2); (try clear hk); (try clear hi); (try clear ho0); (try clear A3); obtain ⟨Ao7, co7, eo7⟩ := Kd.R_slice HO425.out; subst eo7) | ((with_reducible refine gate_callee (f := 35) rfl ?_); refine goesL_ (some 12) rfl rfl Try.func35 (by kernel_rfl) rfl #[.slice Ao7 t423.length co7] rfl (by (try simp only [List.map_toArray, List.map_cons, List.map_nil]); first | done | rfl | (simp only [List.length_drop, List.length_take]; rfl)) ?_; (with_reducible refine (poly_Over.calls k _ _ t423 t426 _ ?side1 ?side2 A4.out).mono ?_); (case side1 => repeat (first | exact (Kd.R_reads' HO425.out).2.2 | (with_reducible refine Kd.C_alloc ?_ _) | (with_reducible refine Kd.C_drewN ?_ _) | (with_reducible refine Kd.C_drew ?_))); (case side2 => exact (Kd.R_reads' HO425.out).2.1); rintro e w8 ⟨v427, rfl, ho0, hb⟩; refine ⟨_, rfl, ?_⟩; have n0_ := Aside0.mk (Kd.R_elder' (by (with_reducible repeat (first | apply Kd.R_alloc | apply Kd.R_drewN | apply Kd.R_drew)); exact HO425.out) (Kd.R_base ho0) hb); have n1_ := Aside0.mk (Kd.R_lower (Kd.R_new' ho0 (Kd.R_lt (by (with_reducible repeat (first | apply Kd.R_alloc | apply Kd.R_drewN | apply Kd.R_drew)); exact HO425.out))) (below_size (by repeat (first | (with_reducible first | exact HB.out | apply below_alloc | apply pw_below_drewN | apply below_drew1) | exact HB.out)))); have n2_ := Aside0.mk (below_step (by repeat (first | (with_reducible first | exact HB.out | apply below_alloc | apply pw_below_drewN | apply below_drew1) | exact HB.out)) hb); clear HO425; clear HB; have HO425 := n0_; have HO428 := n1_; have HB := n2_; clear n0_ n1_ n2_; (try clear hb); (try clear hb2); (try clear hk); (try clear hi); (try clear ho0); (try clear A4); obtain ⟨Ao9, co9, eo9⟩ := Kd.R_slice HO428.out; subst eo9))
    go_loopg [4] k (fun kq v4 w' => ∃ (x4_1 : Int), v4 = .int .i64 x4_1 ∧ Aside0 (chatelainelaw4_PolyUnits.l0 kq t422 t426 x4_1 = some r) ∧ Aside0 (kq ≤ k) ∧ Aside0 (Kd.R (Kd.int .i64) 3 w' w.heap.size (fun _ => True) (.slice Ao9 t426.length co9) t426) ∧ Aside0 (Below w.heap.size w w'))
    case atStart => exact ⟨(0), (by first | rfl | (simp; done) | (simp [*]; done)), H', ⟨Nat.le_refl _⟩, ⟨by (with_reducible repeat (first | apply Kd.R_alloc | apply Kd.R_drewN | apply Kd.R_drew)); exact Kd.R_mono HO428.out (fun _ hk => trivial)⟩, ⟨by repeat (first | (with_reducible first | exact HB.out | apply below_alloc | apply pw_below_drewN | apply below_drew1) | exact HB.out)⟩⟩
    case round =>
      clear H'
      try clear c1
      try clear p2
      try clear c3
      try clear c5
      try clear c5b0
      try clear c5b1
      try clear c9
      obtain ⟨x4_1, rfl, HA, HK1, HO_3, HB⟩ := hrel
      cases gk with
      | zero => exact absurd HA.out (by simp [chatelainelaw4_PolyUnits.l0])
      | succ k1 =>
        have H := HA.out
        clear HA
        simp only [chatelainelaw4_PolyUnits.l0] at H
        by_cases c10 : x4_1 < 128
        · rw [if_pos c10] at H
          have c10b0 : decide (x4_1 < 128) = true := decide_eq_true c10
          clear c10
          have H' := Aside0.mk H
          clear H
          go_wp2
          go_loopg [5, 6] k1 (fun kq v5 v6 w' => ∃ (x5_2 : Int) (x6_2 : Int), v5 = .int .i64 x5_2 ∧ v6 = .int .i64 x6_2 ∧ Aside0 (chatelainelaw4_PolyUnits.l1 kq t422 t426 x4_1 x5_2 x6_2 = some r) ∧ Aside0 (kq ≤ k1) ∧ Aside0 (Kd.R (Kd.int .i64) 3 w' w.heap.size (fun _ => True) (.slice Ao9 t426.length co9) t426) ∧ Aside0 (Below w.heap.size w w'))
          case atStart => exact ⟨(0), (0), (by first | rfl | (simp; done) | (simp [*]; done)), (by first | rfl | (simp; done) | (simp [*]; done)), H', ⟨Nat.le_refl _⟩, ⟨by (with_reducible repeat (first | apply Kd.R_alloc | apply Kd.R_drewN | apply Kd.R_drew)); exact HO_3.out⟩, ⟨by repeat (first | (with_reducible first | exact HB.out | apply below_alloc | apply pw_below_drewN | apply below_drew1) | exact HB.out)⟩⟩
          case round =>
            clear H'
            try clear c1
            try clear p2
            try clear c3
            try clear c5
            try clear c5b0
            try clear c5b1
            try clear c9
            try clear c10
            try clear c10b0
            try clear p2
            obtain ⟨x5_2, x6_2, rfl, rfl, HA, HK2, HO_3, HB⟩ := hrel
            cases gk with
            | zero => exact absurd HA.out (by simp [chatelainelaw4_PolyUnits.l1])
            | succ k2 =>
              have H := HA.out
              clear HA
              simp only [chatelainelaw4_PolyUnits.l1] at H
              by_cases c11 : x6_2 < 7
              · rw [if_pos c11] at H
                have c11b0 : decide (x6_2 < 7) = true := decide_eq_true c11
                clear c11
                by_cases c12 : 0 ≤ x6_2
                · rw [if_pos c12] at H
                  have c12b0 := eq_true c12
                  have c12b1 : decide (0 ≤ x6_2) = true := decide_eq_true c12
                  clear c12
                  obtain ⟨ji13, hji13⟩ : ∃ j_ : Int, (shr .i64 x4_1 x6_2) = j_ := ⟨_, rfl⟩
                  replace H : (chatelainelaw4_PolyUnits.l1 k2 t422 t426 x4_1 (wrap64 ((wrap64 (2 * x5_2)) + (Go.bits .and .i64 (ji13) 1))) (wrap64 (x6_2 + 1))) = some r := by first | (rw [hji13] at H; exact H) | (simp only [hji13] at H ⊢; exact H)
                  have hji13_ : (x4_1 / 2 ^ min x6_2.toNat 64) = ji13 := hji13
                  have hji13z : x6_2 ≤ 64 → (x4_1 / 2 ^ x6_2.toNat) = ji13 := shr_small hji13
                  have H' := Aside0.mk H
                  clear H
                  go_wp2
                  go_roundg k2
                  case measure => have := HK1.out; have := HK2.out; omega
                  case rel => exact ⟨(wrap64 ((wrap64 (2 * x5_2)) + (Go.bits .and .i64 (ji13) 1))), (wrap64 (x6_2 + 1)), (by first | rfl | (simp; done) | (simp only [← hji13] <;> (first | rfl | simp)) | (simp [*]; done)), (by first | rfl | (simp; done) | (simp [*]; done)), H', ⟨by have := HK1.out; have := HK2.out; omega⟩, ⟨by (with_reducible repeat (first | apply Kd.R_alloc | apply Kd.R_drewN | apply Kd.R_drew)); exact HO_3.out⟩, ⟨by repeat (first | (with_reducible first | exact HB.out | apply below_alloc | apply pw_below_drewN | apply below_drew1) | exact HB.out)⟩⟩
                · rw [if_neg c12] at H
                  exact absurd H (by simp)
              · rw [if_neg c11] at H
                have c11b0 : decide (x6_2 < 7) = false := decide_eq_false c11
                clear c11
                replace H := Option.bind_eq_some_iff.mp H
                obtain ⟨t430, A140, H⟩ := H
                replace H : (if 0 ≤ (wrap64 ((wrap64 (2 * x4_1)) + (Int.tmod t422 2))) then (if (wrap64 ((wrap64 (2 * x4_1)) + (Int.tmod t422 2))) < (t426.length : Int) then (if (rd t426 (wrap64 ((wrap64 (2 * x4_1)) + (Int.tmod t422 2)))) = t430 then (if 0 ≤ (wrap64 ((wrap64 ((wrap64 (2 * x4_1)) + 1)) - (Int.tmod t422 2))) then (if (wrap64 ((wrap64 ((wrap64 (2 * x4_1)) + 1)) - (Int.tmod t422 2))) < (t426.length : Int) then (if (rd t426 (wrap64 ((wrap64 ((wrap64 (2 * x4_1)) + 1)) - (Int.tmod t422 2)))) = 0 then (chatelainelaw4_PolyUnits.l0 k2 t422 t426 (wrap64 (x4_1 + 1))) else (some false)) else (none)) else (none)) else (some false)) else (none)) else (none)) = some r := H
                have A14 := Aside0.mk A140
                clear A140
                obtain ⟨ji15, hji15⟩ : ∃ j_ : Int, (wrap64 ((wrap64 (2 * x4_1)) + (Int.tmod t422 2))) = j_ := ⟨_, rfl⟩
                replace H : (if 0 ≤ (ji15) then (if (ji15) < (t426.length : Int) then (if (rd t426 (ji15)) = t430 then (if 0 ≤ (wrap64 ((wrap64 ((wrap64 (2 * x4_1)) + 1)) - (Int.tmod t422 2))) then (if (wrap64 ((wrap64 ((wrap64 (2 * x4_1)) + 1)) - (Int.tmod t422 2))) < (t426.length : Int) then (if (rd t426 (wrap64 ((wrap64 ((wrap64 (2 * x4_1)) + 1)) - (Int.tmod t422 2)))) = 0 then (chatelainelaw4_PolyUnits.l0 k2 t422 t426 (wrap64 (x4_1 + 1))) else (some false)) else (none)) else (none)) else (some false)) else (none)) else (none)) = some r := by first | (rw [hji15] at H; exact H) | (simp only [hji15] at H ⊢; exact H)
                (try rw [hji15] at A14)
                have hji15w : (IntKind.i64.wrap ((wrap64 (2 * x4_1)) + (Int.tmod t422 2))) = ji15 := (i64_w _).trans hji15
                by_cases c16 : 0 ≤ (ji15)
                · rw [if_pos c16] at H
                  have c16b0 : decide (0 ≤ (ji15)) = true := decide_eq_true c16
                  clear c16
                  by_cases c17 : (ji15) < (t426.length : Int)
                  · rw [if_pos c17] at H
                    have c17b0 : decide ((ji15) < (t426.length : Int)) = true := decide_eq_true c17
                    clear c17
                    by_cases c18 : (rd t426 (ji15)) = t430
                    · rw [if_pos c18] at H
                      have c18b0 : ((rd t426 (ji15)) == t430) = true := beq_iff_eq.mpr c18
                      have c18b1 : ((rd t426 (ji15)) != t430) = false := bne_eq_false_iff_eq.mpr c18
                      clear c18
                      obtain ⟨ji19, hji19⟩ : ∃ j_ : Int, (wrap64 ((wrap64 ((wrap64 (2 * x4_1)) + 1)) - (Int.tmod t422 2))) = j_ := ⟨_, rfl⟩
                      replace H : (if 0 ≤ (ji19) then (if (ji19) < (t426.length : Int) then (if (rd t426 (ji19)) = 0 then (chatelainelaw4_PolyUnits.l0 k2 t422 t426 (wrap64 (x4_1 + 1))) else (some false)) else (none)) else (none)) = some r := by first | (rw [hji19] at H; exact H) | (simp only [hji19] at H ⊢; exact H)
                      (try rw [hji19] at A14)
                      have hji19w : (IntKind.i64.wrap ((wrap64 ((wrap64 (2 * x4_1)) + 1)) - (Int.tmod t422 2))) = ji19 := (i64_w _).trans hji19
                      by_cases c20 : 0 ≤ (ji19)
                      · rw [if_pos c20] at H
                        have c20b0 : decide (0 ≤ (ji19)) = true := decide_eq_true c20
                        clear c20
                        by_cases c21 : (ji19) < (t426.length : Int)
                        · rw [if_pos c21] at H
                          have c21b0 : decide ((ji19) < (t426.length : Int)) = true := decide_eq_true c21
                          clear c21
                          by_cases c22 : (rd t426 (ji19)) = 0
                          · rw [if_pos c22] at H
                            have c22b0 : ((rd t426 (ji19)) == 0) = true := beq_iff_eq.mpr c22
                            have c22b1 : ((rd t426 (ji19)) != 0) = false := bne_eq_false_iff_eq.mpr c22
                            clear c22
                            have H' := Aside0.mk H
                            clear H
                            go_wp2_with (first | ((with_reducible refine gate_callee (f := 24) rfl ?_); refine goesL_ (some 37) rfl rfl Try.func24 (by kernel_rfl) rfl #[.int .i64 17, .int .i64 (wrap64 ((wrap64 ((wrap64 (2 * x5_2)) + 1)) * (wrap64 (Int.tdiv t422 2))))] rfl (by (try simp only [List.map_toArray, List.map_cons, List.map_nil]); first | done | rfl | (simp only [List.length_drop, List.length_take]; rfl)) ?_; (with_reducible refine (ring_Pow.calls k2 17 (wrap64 ((wrap64 ((wrap64 (2 * x5_2)) + 1)) * (wrap64 (Int.tdiv t422 2)))) t430 _ A14.out).mono ?_); rintro e w' ⟨rfl, ⟨nd, rfl⟩⟩; refine ⟨_, rfl, ?_⟩; have p431 : 0 ≤ ((ji15) : Int) := of_decide_eq_true (by first | (with_reducible assumption) | assumption); have q431 : (ji15) < (t426.length : Int) := of_decide_eq_true (by first | (with_reducible assumption) | assumption); obtain ⟨ad431, e431, hx431_0⟩ := Kd.at_int (Kd.R_reads' HO_3.out).2.2 (ji15) p431 q431; cases e431; replace p431 := eq_true p431; replace q431 := eq_true q431; have p432 : 0 ≤ ((ji19) : Int) := of_decide_eq_true (by first | (with_reducible assumption) | assumption); have q432 : (ji19) < (t426.length : Int) := of_decide_eq_true (by first | (with_reducible assumption) | assumption); obtain ⟨ad432, e432, hx432_0⟩ := Kd.at_int (Kd.R_reads' HO_3.out).2.2 (ji19) p432 q432; obtain rfl : ad431 = ad432 := (by injection e432); replace p432 := eq_true p432; replace q432 := eq_true q432))
                            go_roundg k2
                            case measure => have := HK1.out; have := HK2.out; omega
                            case rel => exact ⟨(wrap64 (x4_1 + 1)), (by first | rfl | (simp; done) | (simp [*]; done)), H', ⟨by have := HK1.out; have := HK2.out; omega⟩, ⟨by (with_reducible repeat (first | apply Kd.R_alloc | apply Kd.R_drewN | apply Kd.R_drew)); exact HO_3.out⟩, ⟨by repeat (first | (with_reducible first | exact HB.out | apply below_alloc | apply pw_below_drewN | apply below_drew1) | exact HB.out)⟩⟩
                          · rw [if_neg c22] at H
                            have c22b0 : ((rd t426 (ji19)) == 0) = false := beq_eq_false_iff_ne.mpr c22
                            have c22b1 : ((rd t426 (ji19)) != 0) = true := bne_iff_ne.mpr c22
                            obtain rfl := Option.some.inj H
                            go_wp2_with (first | ((with_reducible refine gate_callee (f := 24) rfl ?_); refine goesL_ (some 37) rfl rfl Try.func24 (by kernel_rfl) rfl #[.int .i64 17, .int .i64 (wrap64 ((wrap64 ((wrap64 (2 * x5_2)) + 1)) * (wrap64 (Int.tdiv t422 2))))] rfl (by (try simp only [List.map_toArray, List.map_cons, List.map_nil]); first | done | rfl | (simp only [List.length_drop, List.length_take]; rfl)) ?_; (with_reducible refine (ring_Pow.calls k2 17 (wrap64 ((wrap64 ((wrap64 (2 * x5_2)) + 1)) * (wrap64 (Int.tdiv t422 2)))) t430 _ A14.out).mono ?_); rintro e w' ⟨rfl, ⟨nd, rfl⟩⟩; refine ⟨_, rfl, ?_⟩; have p431 : 0 ≤ ((ji15) : Int) := of_decide_eq_true (by first | (with_reducible assumption) | assumption); have q431 : (ji15) < (t426.length : Int) := of_decide_eq_true (by first | (with_reducible assumption) | assumption); obtain ⟨ad431, e431, hx431_0⟩ := Kd.at_int (Kd.R_reads' HO_3.out).2.2 (ji15) p431 q431; cases e431; replace p431 := eq_true p431; replace q431 := eq_true q431; have p432 : 0 ≤ ((ji19) : Int) := of_decide_eq_true (by first | (with_reducible assumption) | assumption); have q432 : (ji19) < (t426.length : Int) := of_decide_eq_true (by first | (with_reducible assumption) | assumption); obtain ⟨ad432, e432, hx432_0⟩ := Kd.at_int (Kd.R_reads' HO_3.out).2.2 (ji19) p432 q432; obtain rfl : ad431 = ad432 := (by injection e432); replace p432 := eq_true p432; replace q432 := eq_true q432))
                            go_ret
                            exact ⟨by first | rfl | (simp [errW_none, errW_some] <;> rfl) | (simp only [← hji15, ← hji19]; first | rfl | (simp [errW_none, errW_some] <;> rfl)) | (simp [*, errW_none, errW_some] <;> rfl), by repeat (first | (with_reducible first | exact HB.out | apply below_alloc | apply pw_below_drewN | apply below_drew1) | exact HB.out)⟩
                        · rw [if_neg c21] at H
                          exact absurd H (by simp)
                      · rw [if_neg c20] at H
                        exact absurd H (by simp)
                    · rw [if_neg c18] at H
                      have c18b0 : ((rd t426 (ji15)) == t430) = false := beq_eq_false_iff_ne.mpr c18
                      have c18b1 : ((rd t426 (ji15)) != t430) = true := bne_iff_ne.mpr c18
                      obtain rfl := Option.some.inj H
                      go_wp2_with (first | ((with_reducible refine gate_callee (f := 24) rfl ?_); refine goesL_ (some 37) rfl rfl Try.func24 (by kernel_rfl) rfl #[.int .i64 17, .int .i64 (wrap64 ((wrap64 ((wrap64 (2 * x5_2)) + 1)) * (wrap64 (Int.tdiv t422 2))))] rfl (by (try simp only [List.map_toArray, List.map_cons, List.map_nil]); first | done | rfl | (simp only [List.length_drop, List.length_take]; rfl)) ?_; (with_reducible refine (ring_Pow.calls k2 17 (wrap64 ((wrap64 ((wrap64 (2 * x5_2)) + 1)) * (wrap64 (Int.tdiv t422 2)))) t430 _ A14.out).mono ?_); rintro e w' ⟨rfl, ⟨nd, rfl⟩⟩; refine ⟨_, rfl, ?_⟩; have p431 : 0 ≤ ((ji15) : Int) := of_decide_eq_true (by first | (with_reducible assumption) | assumption); have q431 : (ji15) < (t426.length : Int) := of_decide_eq_true (by first | (with_reducible assumption) | assumption); obtain ⟨ad431, e431, hx431_0⟩ := Kd.at_int (Kd.R_reads' HO_3.out).2.2 (ji15) p431 q431; cases e431; replace p431 := eq_true p431; replace q431 := eq_true q431))
                      go_ret
                      exact ⟨by first | rfl | (simp [errW_none, errW_some] <;> rfl) | (simp only [← hji15]; first | rfl | (simp [errW_none, errW_some] <;> rfl)) | (simp [*, errW_none, errW_some] <;> rfl), by repeat (first | (with_reducible first | exact HB.out | apply below_alloc | apply pw_below_drewN | apply below_drew1) | exact HB.out)⟩
                  · rw [if_neg c17] at H
                    exact absurd H (by simp)
                · rw [if_neg c16] at H
                  exact absurd H (by simp)
        · rw [if_neg c10] at H
          have c10b0 : decide (x4_1 < 128) = false := decide_eq_false c10
          clear c10
          replace H := Option.bind_eq_some_iff.mp H
          obtain ⟨t429, A230, H⟩ := H
          replace H : (some t429) = some r := H
          have A23 := Aside0.mk A230
          clear A230
          obtain rfl := Option.some.inj H
          go_wp2_with (first | ((with_reducible refine gate_callee (f := 37) rfl ?_); refine goesL_ (some 60) rfl rfl Try.func37 (by kernel_rfl) rfl #[] rfl (by (try simp only [List.map_toArray, List.map_cons, List.map_nil]); first | done | rfl | (simp only [List.length_drop, List.length_take]; rfl)) ?_; (with_reducible refine (chatelainelaw4_awake.calls k1  t429 _ A23.out).mono ?_); rintro e w24 ⟨rfl, hb⟩; refine ⟨_, rfl, ?_⟩; have n0_ := Aside0.mk (Kd.R_below (by (with_reducible repeat (first | apply Kd.R_alloc | apply Kd.R_drewN | apply Kd.R_drew)); exact HO_3.out) hb); have n1_ := Aside0.mk (below_step (by repeat (first | (with_reducible first | exact HB.out | apply below_alloc | apply pw_below_drewN | apply below_drew1) | exact HB.out)) hb); clear HO_3; clear HB; have HO_3 := n0_; have HB := n1_; clear n0_ n1_; (try clear hb); (try clear hb2); (try clear hk); (try clear hi); (try clear A23)))
          go_ret
          exact ⟨by first | rfl | (simp [errW_none, errW_some] <;> rfl) | (simp [*, errW_none, errW_some] <;> rfl), by repeat (first | (with_reducible first | exact HB.out | apply below_alloc | apply pw_below_drewN | apply below_drew1) | exact HB.out)⟩
  · rw [if_neg c5] at H
    have c5b0 : ((t426.length : Int) == 256) = false := beq_eq_false_iff_ne.mpr c5
    have c5b1 : ((t426.length : Int) != 256) = true := bne_iff_ne.mpr c5
    obtain rfl := Option.some.inj H
    go_enter Try.func9, Try.ntmps9
    go_wp2_with (first | ((with_reducible refine gate_callee (f := 17) rfl ?_); refine goesL_ (some 9) rfl rfl Try.func17 (by kernel_rfl) rfl #[.int .i64 a0, .int .i64 256] rfl (by (try simp only [List.map_toArray, List.map_cons, List.map_nil]); first | done | rfl | (simp only [List.length_drop, List.length_take]; rfl)) ?_; (with_reducible refine (chatelainelaw0_Low.calls a0 256 t422 _ A2.out).mono ?_); rintro e w' ⟨rfl, ⟨nd, rfl⟩⟩; refine ⟨_, rfl, ?_⟩) | ((with_reducible refine gate_callee (f := 36) rfl ?_); refine goesL_ (some 11) rfl rfl Try.func36 (by kernel_rfl) rfl #[.int .i64 t422] rfl (by (try simp only [List.map_toArray, List.map_cons, List.map_nil]); first | done | rfl | (simp only [List.length_drop, List.length_take]; rfl)) ?_; (with_reducible refine (chatelainelaw4_unit.calls t422 t423 _ A3.out).mono ?_); rintro e w25 ⟨v424, rfl, ho0, hb⟩; refine ⟨_, rfl, ?_⟩; have n0_ := Aside0.mk (Kd.R_lower ho0 (below_size (by repeat (first | (with_reducible first | exact HB.out | apply below_alloc | apply pw_below_drewN | apply below_drew1) | exact HB.out)))); have n1_ := Aside0.mk (below_step (by repeat (first | (with_reducible first | exact HB.out | apply below_alloc | apply pw_below_drewN | apply below_drew1) | exact HB.out)) hb); clear HB; have HO425 := n0_; have HB := n1_; clear n0_ n1_; (try clear hb); (try clear hb2); (try clear hk); (try clear hi); (try clear ho0); (try clear A3); obtain ⟨Ao26, co26, eo26⟩ := Kd.R_slice HO425.out; subst eo26) | ((with_reducible refine gate_callee (f := 35) rfl ?_); refine goesL_ (some 12) rfl rfl Try.func35 (by kernel_rfl) rfl #[.slice Ao26 t423.length co26] rfl (by (try simp only [List.map_toArray, List.map_cons, List.map_nil]); first | done | rfl | (simp only [List.length_drop, List.length_take]; rfl)) ?_; (with_reducible refine (poly_Over.calls k _ _ t423 t426 _ ?side1 ?side2 A4.out).mono ?_); (case side1 => repeat (first | exact (Kd.R_reads' HO425.out).2.2 | (with_reducible refine Kd.C_alloc ?_ _) | (with_reducible refine Kd.C_drewN ?_ _) | (with_reducible refine Kd.C_drew ?_))); (case side2 => exact (Kd.R_reads' HO425.out).2.1); rintro e w27 ⟨v427, rfl, ho0, hb⟩; refine ⟨_, rfl, ?_⟩; have n0_ := Aside0.mk (Kd.R_elder' (by (with_reducible repeat (first | apply Kd.R_alloc | apply Kd.R_drewN | apply Kd.R_drew)); exact HO425.out) (Kd.R_base ho0) hb); have n1_ := Aside0.mk (Kd.R_lower (Kd.R_new' ho0 (Kd.R_lt (by (with_reducible repeat (first | apply Kd.R_alloc | apply Kd.R_drewN | apply Kd.R_drew)); exact HO425.out))) (below_size (by repeat (first | (with_reducible first | exact HB.out | apply below_alloc | apply pw_below_drewN | apply below_drew1) | exact HB.out)))); have n2_ := Aside0.mk (below_step (by repeat (first | (with_reducible first | exact HB.out | apply below_alloc | apply pw_below_drewN | apply below_drew1) | exact HB.out)) hb); clear HO425; clear HB; have HO425 := n0_; have HO428 := n1_; have HB := n2_; clear n0_ n1_ n2_; (try clear hb); (try clear hb2); (try clear hk); (try clear hi); (try clear ho0); (try clear A4); obtain ⟨Ao28, co28, eo28⟩ := Kd.R_slice HO428.out; subst eo28))
    go_ret
    exact ⟨by first | rfl | (simp [errW_none, errW_some] <;> rfl) | (simp [*, errW_none, errW_some] <;> rfl), by repeat (first | (with_reducible first | exact HB.out | apply below_alloc | apply pw_below_drewN | apply below_drew1) | exact HB.out)⟩

/-- THE ONE PURE STATEMENT of chatelainelaw4_PolyUnits: yours. -/
def chatelainelaw4_PolyUnits.Pure : Prop := ∀ (a0 : Int), (Lit.int .i64 a0).wf = true → ∃ k, chatelainelaw4_PolyUnits.f k a0 = some true
theorem chatelainelaw4_PolyUnits.walk (P : chatelainelaw4_PolyUnits.Pure) (a0 : Int) (w : World) (w0 : (Lit.int .i64 a0).wf = true) :
    Calls Try.prog 9 #[.int .i64 a0] w fun e w' => e = .returned (.bool true) ∧ Below w.heap.size w w' := by
  obtain ⟨k, h⟩ := P a0 w0
  refine (chatelainelaw4_PolyUnits.calls k a0 true w h).mono ?_
  rintro e w' ⟨rfl, hd⟩
  exact ⟨rfl, hd⟩

-- NOT PRINTED: function 16 (chatelainelaw4_PolyRing)

end Go.Proofs.Ytiphpcehmjcejaa.PPoly
