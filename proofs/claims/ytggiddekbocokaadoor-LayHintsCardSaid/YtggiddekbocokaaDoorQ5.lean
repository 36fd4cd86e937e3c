/- Any hints' bytes, any bytes' hints, and any high parts' bytes, are the document's, or refused. No condition. -/
import Derived.Test.YtggiddekbocokaaDoorQ1
import Derived.Test.YtggiddekbocokaaDoorQ4
import Derived.Laws.BitsLemmas
import Derived.Test.YtggiddekbocokaaDoorQ3
import Derived.Test.YtggiddekbocokaaDoorRows
import Derived.ChangeSame
import Derived.ChangeVars
import Derived.JoinedOf
import Derived.RowKit
import Derived.RowKitTokens
import Derived.LaidLaws
import Derived.LaidHandle
import Derived.Stop.Joined
section
namespace Go.Proofs.YtggiddekbocokaaDoor.PLR
open Go.RowKit Go.Proofs.YtggiddekbocokaaDoorW.PrintWords Go.Proofs.YtggiddekbocokaaDoorW.PrintLast Go.Proofs.YtggiddekbocokaaDoorW.PrintMore
attribute [local go_sem] max2_int min2_int max_two min_two max_three min_three max_four min_four   -- for this text's walks alone
set_option linter.unusedVariables false
set_option linter.unusedSimpArgs false

/-! ### chatelainelaw11_awake: function 6 -/
def chatelainelaw11_awake.f (k : Nat)  : Option (Bool) := (lay_Sizes.f k 1).bind fun bt193 => (if 64 ≤ 281474976710656 then ((lay_Far.f k 1 2 (List.replicate 64 0)).bind fun t199 => ((lay_Hints.f k 0 ([] : List (List Int))).bind fun bt202 => (if bt193.1 = 1312 then (if bt193.2.1 = 2560 then (if bt193.2.2 = 2420 then (if (t199.length : Int) = 256 then (if 0 < (t199.length : Int) then (if (rd t199 0) = 2 then ((chatelainelaw0_Num.f bt202.2).bind fun t209 => (if t209 = 2 then (if 256 ≤ 35184372088832 then ((lay_Near.f k 2 2 (List.replicate 256 0)).bind fun t213 => (some ((t213.length : Int) == 96))) else (none)) else (some false))) else (some false)) else (none)) else (some false)) else (some false)) else (some false)) else (some false)))) else (none))
set_option maxHeartbeats 8000000 in
set_option maxRecDepth 100000 in
theorem chatelainelaw11_awake.calls (k : Nat)  (r : Bool) (w : World) (hg_ : w.cell? ⟨0, 0, none⟩ = some (.iface 108 (.agg #[.pointer (some ⟨1, 33, none⟩)]))) (h : chatelainelaw11_awake.f k  = some r) :
    Calls Tryd.prog 6 #[] w fun e w' => e = .returned (.bool r) ∧ Below w.heap.size w w' := by
  have HG := Aside0.mk hg_
  clear hg_
  have HB := Aside0.mk (Below.refl w.heap.size w)
  have H : ((lay_Sizes.f k 1).bind fun bt193 => (if 64 ≤ 281474976710656 then ((lay_Far.f k 1 2 (List.replicate 64 0)).bind fun t199 => ((lay_Hints.f k 0 ([] : List (List Int))).bind fun bt202 => (if bt193.1 = 1312 then (if bt193.2.1 = 2560 then (if bt193.2.2 = 2420 then (if (t199.length : Int) = 256 then (if 0 < (t199.length : Int) then (if (rd t199 0) = 2 then ((chatelainelaw0_Num.f bt202.2).bind fun t209 => (if t209 = 2 then (if 256 ≤ 35184372088832 then ((lay_Near.f k 2 2 (List.replicate 256 0)).bind fun t213 => (some ((t213.length : Int) == 96))) else (none)) else (some false))) else (some false)) else (none)) else (some false)) else (some false)) else (some false)) else (some false)))) else (none))) = some r := h
  clear h
  replace H := Option.bind_eq_some_iff.mp H
  obtain ⟨⟨t193, t194, t195⟩, A10, H⟩ := H
  replace H : (if 64 ≤ 281474976710656 then ((lay_Far.f k 1 2 (List.replicate 64 0)).bind fun t199 => ((lay_Hints.f k 0 ([] : List (List Int))).bind fun bt202 => (if t193 = 1312 then (if t194 = 2560 then (if t195 = 2420 then (if (t199.length : Int) = 256 then (if 0 < (t199.length : Int) then (if (rd t199 0) = 2 then ((chatelainelaw0_Num.f bt202.2).bind fun t209 => (if t209 = 2 then (if 256 ≤ 35184372088832 then ((lay_Near.f k 2 2 (List.replicate 256 0)).bind fun t213 => (some ((t213.length : Int) == 96))) else (none)) else (some false))) else (some false)) else (none)) else (some false)) else (some false)) else (some false)) else (some false)))) else (none)) = some r := H
  have A1 := Aside0.mk A10
  clear A10
  by_cases c2 : 64 ≤ 281474976710656
  · rw [if_pos c2] at H
    have c2b0 := eq_true c2
    have c2b1 : decide (64 ≤ 281474976710656) = true := decide_eq_true c2
    clear c2
    obtain ⟨y196, hy196⟩ : ∃ y_ : List Int, y_ = (List.replicate 64 0) := ⟨_, rfl⟩
    replace H : ((lay_Far.f k 1 2 y196).bind fun t199 => ((lay_Hints.f k 0 ([] : List (List Int))).bind fun bt202 => (if t193 = 1312 then (if t194 = 2560 then (if t195 = 2420 then (if (t199.length : Int) = 256 then (if 0 < (t199.length : Int) then (if (rd t199 0) = 2 then ((chatelainelaw0_Num.f bt202.2).bind fun t209 => (if t209 = 2 then (if 256 ≤ 35184372088832 then ((lay_Near.f k 2 2 (List.replicate 256 0)).bind fun t213 => (some ((t213.length : Int) == 96))) else (none)) else (some false))) else (some false)) else (none)) else (some false)) else (some false)) else (some false)) else (some false)))) = some r := by first | (rw [hy196]; with_reducible exact H) | (have H2_ := (Option.bind_some _ _).symm.trans H; rw [hy196]; with_reducible exact H2_) | (have H2_ := (Option.bind_some _ _).symm.trans H; with_reducible exact H2_) | with_reducible exact H | (rw [hy196]; exact H) | exact H
    have Ny196 := Aside0.mk hy196
    clear hy196
    replace H := Option.bind_eq_some_iff.mp H
    obtain ⟨t199, A30, H⟩ := H
    replace H : ((lay_Hints.f k 0 ([] : List (List Int))).bind fun bt202 => (if t193 = 1312 then (if t194 = 2560 then (if t195 = 2420 then (if (t199.length : Int) = 256 then (if 0 < (t199.length : Int) then (if (rd t199 0) = 2 then ((chatelainelaw0_Num.f bt202.2).bind fun t209 => (if t209 = 2 then (if 256 ≤ 35184372088832 then ((lay_Near.f k 2 2 (List.replicate 256 0)).bind fun t213 => (some ((t213.length : Int) == 96))) else (none)) else (some false))) else (some false)) else (none)) else (some false)) else (some false)) else (some false)) else (some false))) = some r := H
    have A3 := Aside0.mk A30
    clear A30
    replace H := Option.bind_eq_some_iff.mp H
    obtain ⟨⟨t202, t203⟩, A40, H⟩ := H
    replace H : (if t193 = 1312 then (if t194 = 2560 then (if t195 = 2420 then (if (t199.length : Int) = 256 then (if 0 < (t199.length : Int) then (if (rd t199 0) = 2 then ((chatelainelaw0_Num.f t203).bind fun t209 => (if t209 = 2 then (if 256 ≤ 35184372088832 then ((lay_Near.f k 2 2 (List.replicate 256 0)).bind fun t213 => (some ((t213.length : Int) == 96))) else (none)) else (some false))) else (some false)) else (none)) else (some false)) else (some false)) else (some false)) else (some false)) = some r := H
    have A4 := Aside0.mk A40
    clear A40
    by_cases c5 : t193 = 1312
    · rw [if_pos c5] at H
      have c5b0 : (t193 == 1312) = true := beq_iff_eq.mpr c5
      have c5b1 : (t193 != 1312) = false := bne_eq_false_iff_eq.mpr c5
      clear c5
      by_cases c6 : t194 = 2560
      · rw [if_pos c6] at H
        have c6b0 : (t194 == 2560) = true := beq_iff_eq.mpr c6
        have c6b1 : (t194 != 2560) = false := bne_eq_false_iff_eq.mpr c6
        clear c6
        by_cases c7 : t195 = 2420
        · rw [if_pos c7] at H
          have c7b0 : (t195 == 2420) = true := beq_iff_eq.mpr c7
          have c7b1 : (t195 != 2420) = false := bne_eq_false_iff_eq.mpr c7
          clear c7
          by_cases c8 : (t199.length : Int) = 256
          · rw [if_pos c8] at H
            have c8b0 : ((t199.length : Int) == 256) = true := beq_iff_eq.mpr c8
            have c8b1 : ((t199.length : Int) != 256) = false := bne_eq_false_iff_eq.mpr c8
            clear c8
            by_cases c9 : 0 < (t199.length : Int)
            · rw [if_pos c9] at H
              have c9b0 : decide (0 < (t199.length : Int)) = true := decide_eq_true c9
              have c9b1 : decide (0 < t199.length) = true := decide_eq_true (by omega)
              clear c9
              by_cases c10 : (rd t199 0) = 2
              · rw [if_pos c10] at H
                have c10b0 : ((rd t199 0) == 2) = true := beq_iff_eq.mpr c10
                have c10b1 : ((rd t199 0) != 2) = false := bne_eq_false_iff_eq.mpr c10
                clear c10
                replace H := Option.bind_eq_some_iff.mp H
                obtain ⟨t209, A110, H⟩ := H
                replace H : (if t209 = 2 then (if 256 ≤ 35184372088832 then ((lay_Near.f k 2 2 (List.replicate 256 0)).bind fun t213 => (some ((t213.length : Int) == 96))) else (none)) else (some false)) = some r := H
                have A11 := Aside0.mk A110
                clear A110
                by_cases c12 : t209 = 2
                · rw [if_pos c12] at H
                  have c12b0 : (t209 == 2) = true := beq_iff_eq.mpr c12
                  have c12b1 : (t209 != 2) = false := bne_eq_false_iff_eq.mpr c12
                  clear c12
                  by_cases c13 : 256 ≤ 35184372088832
                  · rw [if_pos c13] at H
                    have c13b0 := eq_true c13
                    have c13b1 : decide (256 ≤ 35184372088832) = true := decide_eq_true c13
                    clear c13
                    obtain ⟨y210, hy210⟩ : ∃ y_ : List Int, y_ = (List.replicate 256 0) := ⟨_, rfl⟩
                    replace H : ((lay_Near.f k 2 2 y210).bind fun t213 => (some ((t213.length : Int) == 96))) = some r := by first | (rw [hy210]; with_reducible exact H) | (have H2_ := (Option.bind_some _ _).symm.trans H; rw [hy210]; with_reducible exact H2_) | (have H2_ := (Option.bind_some _ _).symm.trans H; with_reducible exact H2_) | with_reducible exact H | (rw [hy210]; exact H) | exact H
                    have Ny210 := Aside0.mk hy210
                    clear hy210
                    replace H := Option.bind_eq_some_iff.mp H
                    obtain ⟨t213, A140, H⟩ := H
                    replace H : (some ((t213.length : Int) == 96)) = some r := H
                    have A14 := Aside0.mk A140
                    clear A140
                    obtain rfl := Option.some.inj H
                    go_enter Tryd.func6, Tryd.ntmps6
                    go_wp2_with (first | ((with_reducible refine gate_callee (f := 24) rfl ?_); refine goesL_ (some 8) rfl rfl Tryd.func24 (by kernel_rfl) rfl #[.int .i64 1] rfl (by (try simp only [List.map_toArray, List.map_cons, List.map_nil]); first | done | rfl | (simp only [List.length_drop, List.length_take]; rfl)) ?_; (with_reducible refine (lay_Sizes.calls k 1 t193 t194 t195 _ A1.out).mono ?_); rintro e w15 ⟨rfl, hb⟩; refine ⟨_, rfl, ?_⟩; have n0_ := Aside0.mk (below_step (by repeat (first | (with_reducible first | exact HB.out | apply below_alloc | apply pw_below_drewN | apply below_drew1) | exact HB.out)) hb); clear HB; have HB := n0_; clear n0_; (try clear hb); (try clear hb2); (try clear hk); (try clear hi); (try clear A1)) | ((with_reducible refine gate_dst (N := 12) rfl ?_); (try (refine gate_guard (by rfl) ?_; dsimp only)); refine Kd.R_make (Kd.int .u8) _ 5 rfl (N := 12) rfl 30 _ _ rfl 64 rfl rfl Tryd.underlying30 (.int .u8 0) 1 info5 rfl (by decide) (by omega) 0 (ok := fun _ => True) (okp := fun _ => True) rfl (fun _ hk => hk) trivial (by omega) (by omega) (Below.refl _ _) (Nat.le_refl _) ?_; intro v197 w16 ho17 hb hg_ hnew_; clear hg_ hnew_; (first | rw [← Ny196.out] at ho17 | (simp only [Int.reduceToNat] at ho17; rw [← Ny196.out] at ho17)); have n0_ := Aside0.mk (Kd.R_lower ho17 (below_size (by repeat (first | (with_reducible first | exact HB.out | apply below_alloc | apply pw_below_drewN | apply below_drew1) | exact HB.out)))); have n1_ := Aside0.mk (below_step (by repeat (first | (with_reducible first | exact HB.out | apply below_alloc | apply pw_below_drewN | apply below_drew1) | exact HB.out)) hb); clear HB; have HO198 := n0_; have HB := n1_; clear n0_ n1_; clear hb ho17; obtain ⟨Ao18, co18, eo18⟩ := Kd.R_slice HO198.out; subst eo18) | ((with_reducible refine gate_callee (f := 25) rfl ?_); refine goesL_ (some 13) rfl rfl Tryd.func25 (by kernel_rfl) rfl #[.int .i64 1, .int .i64 2, .slice Ao18 y196.length co18] rfl (by (try simp only [List.map_toArray, List.map_cons, List.map_nil]); first | done | rfl | (simp only [List.length_drop, List.length_take]; rfl)) ?_; (with_reducible refine (lay_Far.calls k 1 2 _ _ y196 t199 _ ?side1 ?side2 A3.out).mono ?_); (case side1 => repeat (first | exact (Kd.R_reads' HO198.out).2.2 | (with_reducible refine Kd.C_alloc ?_ _) | (with_reducible refine Kd.C_drewN ?_ _) | (with_reducible refine Kd.C_drew ?_))); (case side2 => exact (Kd.R_reads' HO198.out).2.1); rintro e w19 ⟨v200, rfl, ho0, hb⟩; refine ⟨_, rfl, ?_⟩; have n0_ := Aside0.mk (Kd.R_below (by (with_reducible repeat (first | apply Kd.R_alloc | apply Kd.R_drewN | apply Kd.R_drew)); exact HO198.out) hb); have n1_ := Aside0.mk (Kd.R_lower ho0 (below_size (by repeat (first | (with_reducible first | exact HB.out | apply below_alloc | apply pw_below_drewN | apply below_drew1) | exact HB.out)))); have n2_ := Aside0.mk (below_step (by repeat (first | (with_reducible first | exact HB.out | apply below_alloc | apply pw_below_drewN | apply below_drew1) | exact HB.out)) hb); clear HO198; clear HB; have HO198 := n0_; have HO201 := n1_; have HB := n2_; clear n0_ n1_ n2_; (try clear hb); (try clear hb2); (try clear hk); (try clear hi); (try clear ho0); (try clear A3)) | ((with_reducible refine gate_callee (f := 15) rfl ?_); refine goesL_ (some 15) rfl rfl Tryd.func15 (by kernel_rfl) rfl #[.int .i64 0, .slice none 0 0] rfl (by (try simp only [List.map_toArray, List.map_cons, List.map_nil]); first | done | rfl | (simp only [List.length_drop, List.length_take]; rfl)) ?_; (refine (lay_Hints.calls k 0 _ _ ([] : List (List Int)) t202 t203 _ ?side1 ?side2 A4.out).mono ?_); (case side1 => exact Kd.C_nil _ _); (case side2 => exact Nat.le_refl _); rintro e w20 ⟨v204, v206, rfl, ho0, ho1, hb⟩; refine ⟨_, rfl, ?_⟩; have n0_ := Aside0.mk (Kd.R_elder' (by (with_reducible repeat (first | apply Kd.R_alloc | apply Kd.R_drewN | apply Kd.R_drew)); exact HO198.out) (Kd.R_base ho0) hb); have n1_ := Aside0.mk (Kd.R_below (by (with_reducible repeat (first | apply Kd.R_alloc | apply Kd.R_drewN | apply Kd.R_drew)); exact HO201.out) hb); have n2_ := Aside0.mk (Kd.R_lower (Kd.R_new' ho0 (Kd.R_lt (by (with_reducible repeat (first | apply Kd.R_alloc | apply Kd.R_drewN | apply Kd.R_drew)); exact HO198.out))) (below_size (by repeat (first | (with_reducible first | exact HB.out | apply below_alloc | apply pw_below_drewN | apply below_drew1) | exact HB.out)))); have n3_ := Aside0.mk (Kd.R_lower ho1 (below_size (by repeat (first | (with_reducible first | exact HB.out | apply below_alloc | apply pw_below_drewN | apply below_drew1) | exact HB.out)))); have n4_ := Aside0.mk (below_step (by repeat (first | (with_reducible first | exact HB.out | apply below_alloc | apply pw_below_drewN | apply below_drew1) | exact HB.out)) hb); clear HO198; clear HO201; clear HB; have HO198 := n0_; have HO201 := n1_; have HO205 := n2_; have HO207 := n3_; have HB := n4_; clear n0_ n1_ n2_ n3_ n4_; (try clear hb); (try clear hb2); (try clear hk); (try clear hi); (try clear ho0); (try clear ho1); (try clear A4); obtain ⟨Ao21, co21, eo21⟩ := Kd.R_slice HO201.out; subst eo21; have p208 : 0 ≤ (0 : Int) := (by omega); have q208 : 0 < (t199.length : Int) := of_decide_eq_true (by first | (with_reducible assumption) | assumption); obtain ⟨ad208, e208, hx208_0⟩ := Kd.at_int (Kd.R_reads' HO201.out).2.2 0 p208 q208; cases e208; have qi208 : (0 < t199.length) = True := eq_true (by omega); (try rw [show ((0 : Int)).toNat = 0 from rfl] at hx208_0); (try rw [Addr.add_zero'] at hx208_0); replace p208 := eq_true p208; replace q208 := eq_true q208) | (go_at_call 12; (with_reducible refine (chatelainelaw0_Num.calls v206 t203 t209 _ ?side1 ?side2 A11.out).mono ?_); (case side1 => exact ErrIs.of (by (with_reducible repeat (first | apply Kd.R_alloc | apply Kd.R_drewN | apply Kd.R_drew)); exact HO207.out)); (case side2 => exact pw_cell_below (by repeat (first | (with_reducible first | exact HB.out | apply below_alloc | apply pw_below_drewN | apply below_drew1) | exact HB.out)) HG.out); rintro e w22 ⟨rfl, hb⟩; have n0_ := Aside0.mk (Kd.R_below (by (with_reducible repeat (first | apply Kd.R_alloc | apply Kd.R_drewN | apply Kd.R_drew)); exact HO198.out) hb); have n1_ := Aside0.mk (Kd.R_below (by (with_reducible repeat (first | apply Kd.R_alloc | apply Kd.R_drewN | apply Kd.R_drew)); exact HO201.out) hb); have n2_ := Aside0.mk (Kd.R_below (by (with_reducible repeat (first | apply Kd.R_alloc | apply Kd.R_drewN | apply Kd.R_drew)); exact HO205.out) hb); have n3_ := Aside0.mk (Kd.R_below (by (with_reducible repeat (first | apply Kd.R_alloc | apply Kd.R_drewN | apply Kd.R_drew)); exact HO207.out) hb); have n4_ := Aside0.mk (below_step (by repeat (first | (with_reducible first | exact HB.out | apply below_alloc | apply pw_below_drewN | apply below_drew1) | exact HB.out)) hb); clear HO198; clear HO201; clear HO205; clear HO207; clear HB; have HO198 := n0_; have HO201 := n1_; have HO205 := n2_; have HO207 := n3_; have HB := n4_; clear n0_ n1_ n2_ n3_ n4_; (try clear hb); (try clear hb2); (try clear hk); (try clear hi); (try clear A11)) | ((with_reducible refine gate_dst (N := 45) rfl ?_); (try (refine gate_guard (by rfl) ?_; dsimp only)); refine Kd.R_make (Kd.int .i64) _ 3 rfl (N := 45) rfl 22 _ _ rfl 256 rfl rfl Tryd.underlying22 (.int .i64 0) 8 info3 rfl (by decide) (by omega) 0 (ok := fun _ => True) (okp := fun _ => True) rfl (fun _ hk => hk) trivial (by omega) (by omega) (Below.refl _ _) (Nat.le_refl _) ?_; intro v211 w23 ho24 hb hg_ hnew_; clear hg_ hnew_; (first | rw [← Ny210.out] at ho24 | (simp only [Int.reduceToNat] at ho24; rw [← Ny210.out] at ho24)); have n0_ := Aside0.mk (Kd.R_below (by (with_reducible repeat (first | apply Kd.R_alloc | apply Kd.R_drewN | apply Kd.R_drew)); exact HO198.out) hb); have n1_ := Aside0.mk (Kd.R_elder' (by (with_reducible repeat (first | apply Kd.R_alloc | apply Kd.R_drewN | apply Kd.R_drew)); exact HO201.out) (Kd.R_base ho24) hb); have n2_ := Aside0.mk (Kd.R_below (by (with_reducible repeat (first | apply Kd.R_alloc | apply Kd.R_drewN | apply Kd.R_drew)); exact HO205.out) hb); have n3_ := Aside0.mk (Kd.R_below (by (with_reducible repeat (first | apply Kd.R_alloc | apply Kd.R_drewN | apply Kd.R_drew)); exact HO207.out) hb); have n4_ := Aside0.mk (Kd.R_lower (Kd.R_new' ho24 (Kd.R_lt (by (with_reducible repeat (first | apply Kd.R_alloc | apply Kd.R_drewN | apply Kd.R_drew)); exact HO201.out))) (below_size (by repeat (first | (with_reducible first | exact HB.out | apply below_alloc | apply pw_below_drewN | apply below_drew1) | exact HB.out)))); have n5_ := Aside0.mk (below_step (by repeat (first | (with_reducible first | exact HB.out | apply below_alloc | apply pw_below_drewN | apply below_drew1) | exact HB.out)) hb); clear HO198; clear HO201; clear HO205; clear HO207; clear HB; have HO198 := n0_; have HO201 := n1_; have HO205 := n2_; have HO207 := n3_; have HO212 := n4_; have HB := n5_; clear n0_ n1_ n2_ n3_ n4_ n5_; clear hb ho24; obtain ⟨Ao25, co25, eo25⟩ := Kd.R_slice HO212.out; subst eo25) | (go_at_call 26; (with_reducible refine (lay_Near.calls k 2 2 _ _ y210 t213 _ ?side1 ?side2 A14.out).mono ?_); (case side1 => repeat (first | exact (Kd.R_reads' HO212.out).2.2 | (with_reducible refine Kd.C_alloc ?_ _) | (with_reducible refine Kd.C_drewN ?_ _) | (with_reducible refine Kd.C_drew ?_))); (case side2 => exact (Kd.R_reads' HO212.out).2.1); rintro e w26 ⟨v214, rfl, ho0, hb⟩; have n0_ := Aside0.mk (Kd.R_elder' (by (with_reducible repeat (first | apply Kd.R_alloc | apply Kd.R_drewN | apply Kd.R_drew)); exact HO198.out) (Kd.R_base ho0) hb); have n1_ := Aside0.mk (Kd.R_below (by (with_reducible repeat (first | apply Kd.R_alloc | apply Kd.R_drewN | apply Kd.R_drew)); exact HO201.out) hb); have n2_ := Aside0.mk (Kd.R_elder' (by (with_reducible repeat (first | apply Kd.R_alloc | apply Kd.R_drewN | apply Kd.R_drew)); exact HO205.out) (Kd.R_base ho0) hb); have n3_ := Aside0.mk (Kd.R_below (by (with_reducible repeat (first | apply Kd.R_alloc | apply Kd.R_drewN | apply Kd.R_drew)); exact HO207.out) hb); have n4_ := Aside0.mk (Kd.R_below (by (with_reducible repeat (first | apply Kd.R_alloc | apply Kd.R_drewN | apply Kd.R_drew)); exact HO212.out) hb); have n5_ := Aside0.mk (Kd.R_lower (Kd.R_new' (Kd.R_new' ho0 (Kd.R_lt (by (with_reducible repeat (first | apply Kd.R_alloc | apply Kd.R_drewN | apply Kd.R_drew)); exact HO198.out))) (Kd.R_lt (by (with_reducible repeat (first | apply Kd.R_alloc | apply Kd.R_drewN | apply Kd.R_drew)); exact HO205.out))) (below_size (by repeat (first | (with_reducible first | exact HB.out | apply below_alloc | apply pw_below_drewN | apply below_drew1) | exact HB.out)))); have n6_ := Aside0.mk (below_step (by repeat (first | (with_reducible first | exact HB.out | apply below_alloc | apply pw_below_drewN | apply below_drew1) | exact HB.out)) hb); clear HO198; clear HO201; clear HO205; clear HO207; clear HO212; clear HB; have HO198 := n0_; have HO201 := n1_; have HO205 := n2_; have HO207 := n3_; have HO212 := n4_; have HO215 := n5_; have HB := n6_; clear n0_ n1_ n2_ n3_ n4_ n5_ n6_; (try clear hb); (try clear hb2); (try clear hk); (try clear hi); (try clear ho0); (try clear A14); obtain ⟨Ao27, co27, eo27⟩ := Kd.R_slice HO215.out; subst eo27))
                    go_ret
                    exact ⟨by first | rfl | (simp [errW_none, errW_some] <;> rfl) | (simp [*, errW_none, errW_some] <;> rfl), by repeat (first | (with_reducible first | exact HB.out | apply below_alloc | apply pw_below_drewN | apply below_drew1) | exact HB.out)⟩
                  · rw [if_neg c13] at H
                    exact absurd H (by simp)
                · rw [if_neg c12] at H
                  have c12b0 : (t209 == 2) = false := beq_eq_false_iff_ne.mpr c12
                  have c12b1 : (t209 != 2) = true := bne_iff_ne.mpr c12
                  obtain rfl := Option.some.inj H
                  go_enter Tryd.func6, Tryd.ntmps6
                  go_wp2_with (first | ((with_reducible refine gate_callee (f := 24) rfl ?_); refine goesL_ (some 8) rfl rfl Tryd.func24 (by kernel_rfl) rfl #[.int .i64 1] rfl (by (try simp only [List.map_toArray, List.map_cons, List.map_nil]); first | done | rfl | (simp only [List.length_drop, List.length_take]; rfl)) ?_; (with_reducible refine (lay_Sizes.calls k 1 t193 t194 t195 _ A1.out).mono ?_); rintro e w28 ⟨rfl, hb⟩; refine ⟨_, rfl, ?_⟩; have n0_ := Aside0.mk (below_step (by repeat (first | (with_reducible first | exact HB.out | apply below_alloc | apply pw_below_drewN | apply below_drew1) | exact HB.out)) hb); clear HB; have HB := n0_; clear n0_; (try clear hb); (try clear hb2); (try clear hk); (try clear hi); (try clear A1)) | ((with_reducible refine gate_dst (N := 12) rfl ?_); (try (refine gate_guard (by rfl) ?_; dsimp only)); refine Kd.R_make (Kd.int .u8) _ 5 rfl (N := 12) rfl 30 _ _ rfl 64 rfl rfl Tryd.underlying30 (.int .u8 0) 1 info5 rfl (by decide) (by omega) 0 (ok := fun _ => True) (okp := fun _ => True) rfl (fun _ hk => hk) trivial (by omega) (by omega) (Below.refl _ _) (Nat.le_refl _) ?_; intro v197 w29 ho30 hb hg_ hnew_; clear hg_ hnew_; (first | rw [← Ny196.out] at ho30 | (simp only [Int.reduceToNat] at ho30; rw [← Ny196.out] at ho30)); have n0_ := Aside0.mk (Kd.R_lower ho30 (below_size (by repeat (first | (with_reducible first | exact HB.out | apply below_alloc | apply pw_below_drewN | apply below_drew1) | exact HB.out)))); have n1_ := Aside0.mk (below_step (by repeat (first | (with_reducible first | exact HB.out | apply below_alloc | apply pw_below_drewN | apply below_drew1) | exact HB.out)) hb); clear HB; have HO198 := n0_; have HB := n1_; clear n0_ n1_; clear hb ho30; obtain ⟨Ao31, co31, eo31⟩ := Kd.R_slice HO198.out; subst eo31) | ((with_reducible refine gate_callee (f := 25) rfl ?_); refine goesL_ (some 13) rfl rfl Tryd.func25 (by kernel_rfl) rfl #[.int .i64 1, .int .i64 2, .slice Ao31 y196.length co31] rfl (by (try simp only [List.map_toArray, List.map_cons, List.map_nil]); first | done | rfl | (simp only [List.length_drop, List.length_take]; rfl)) ?_; (with_reducible refine (lay_Far.calls k 1 2 _ _ y196 t199 _ ?side1 ?side2 A3.out).mono ?_); (case side1 => repeat (first | exact (Kd.R_reads' HO198.out).2.2 | (with_reducible refine Kd.C_alloc ?_ _) | (with_reducible refine Kd.C_drewN ?_ _) | (with_reducible refine Kd.C_drew ?_))); (case side2 => exact (Kd.R_reads' HO198.out).2.1); rintro e w32 ⟨v200, rfl, ho0, hb⟩; refine ⟨_, rfl, ?_⟩; have n0_ := Aside0.mk (Kd.R_below (by (with_reducible repeat (first | apply Kd.R_alloc | apply Kd.R_drewN | apply Kd.R_drew)); exact HO198.out) hb); have n1_ := Aside0.mk (Kd.R_lower ho0 (below_size (by repeat (first | (with_reducible first | exact HB.out | apply below_alloc | apply pw_below_drewN | apply below_drew1) | exact HB.out)))); have n2_ := Aside0.mk (below_step (by repeat (first | (with_reducible first | exact HB.out | apply below_alloc | apply pw_below_drewN | apply below_drew1) | exact HB.out)) hb); clear HO198; clear HB; have HO198 := n0_; have HO201 := n1_; have HB := n2_; clear n0_ n1_ n2_; (try clear hb); (try clear hb2); (try clear hk); (try clear hi); (try clear ho0); (try clear A3)) | ((with_reducible refine gate_callee (f := 15) rfl ?_); refine goesL_ (some 15) rfl rfl Tryd.func15 (by kernel_rfl) rfl #[.int .i64 0, .slice none 0 0] rfl (by (try simp only [List.map_toArray, List.map_cons, List.map_nil]); first | done | rfl | (simp only [List.length_drop, List.length_take]; rfl)) ?_; (refine (lay_Hints.calls k 0 _ _ ([] : List (List Int)) t202 t203 _ ?side1 ?side2 A4.out).mono ?_); (case side1 => exact Kd.C_nil _ _); (case side2 => exact Nat.le_refl _); rintro e w33 ⟨v204, v206, rfl, ho0, ho1, hb⟩; refine ⟨_, rfl, ?_⟩; have n0_ := Aside0.mk (Kd.R_elder' (by (with_reducible repeat (first | apply Kd.R_alloc | apply Kd.R_drewN | apply Kd.R_drew)); exact HO198.out) (Kd.R_base ho0) hb); have n1_ := Aside0.mk (Kd.R_below (by (with_reducible repeat (first | apply Kd.R_alloc | apply Kd.R_drewN | apply Kd.R_drew)); exact HO201.out) hb); have n2_ := Aside0.mk (Kd.R_lower (Kd.R_new' ho0 (Kd.R_lt (by (with_reducible repeat (first | apply Kd.R_alloc | apply Kd.R_drewN | apply Kd.R_drew)); exact HO198.out))) (below_size (by repeat (first | (with_reducible first | exact HB.out | apply below_alloc | apply pw_below_drewN | apply below_drew1) | exact HB.out)))); have n3_ := Aside0.mk (Kd.R_lower ho1 (below_size (by repeat (first | (with_reducible first | exact HB.out | apply below_alloc | apply pw_below_drewN | apply below_drew1) | exact HB.out)))); have n4_ := Aside0.mk (below_step (by repeat (first | (with_reducible first | exact HB.out | apply below_alloc | apply pw_below_drewN | apply below_drew1) | exact HB.out)) hb); clear HO198; clear HO201; clear HB; have HO198 := n0_; have HO201 := n1_; have HO205 := n2_; have HO207 := n3_; have HB := n4_; clear n0_ n1_ n2_ n3_ n4_; (try clear hb); (try clear hb2); (try clear hk); (try clear hi); (try clear ho0); (try clear ho1); (try clear A4); obtain ⟨Ao34, co34, eo34⟩ := Kd.R_slice HO201.out; subst eo34; have p208 : 0 ≤ (0 : Int) := (by omega); have q208 : 0 < (t199.length : Int) := of_decide_eq_true (by first | (with_reducible assumption) | assumption); obtain ⟨ad208, e208, hx208_0⟩ := Kd.at_int (Kd.R_reads' HO201.out).2.2 0 p208 q208; cases e208; have qi208 : (0 < t199.length) = True := eq_true (by omega); (try rw [show ((0 : Int)).toNat = 0 from rfl] at hx208_0); (try rw [Addr.add_zero'] at hx208_0); replace p208 := eq_true p208; replace q208 := eq_true q208) | (go_at_call 12; (with_reducible refine (chatelainelaw0_Num.calls v206 t203 t209 _ ?side1 ?side2 A11.out).mono ?_); (case side1 => exact ErrIs.of (by (with_reducible repeat (first | apply Kd.R_alloc | apply Kd.R_drewN | apply Kd.R_drew)); exact HO207.out)); (case side2 => exact pw_cell_below (by repeat (first | (with_reducible first | exact HB.out | apply below_alloc | apply pw_below_drewN | apply below_drew1) | exact HB.out)) HG.out); rintro e w35 ⟨rfl, hb⟩; have n0_ := Aside0.mk (Kd.R_below (by (with_reducible repeat (first | apply Kd.R_alloc | apply Kd.R_drewN | apply Kd.R_drew)); exact HO198.out) hb); have n1_ := Aside0.mk (Kd.R_below (by (with_reducible repeat (first | apply Kd.R_alloc | apply Kd.R_drewN | apply Kd.R_drew)); exact HO201.out) hb); have n2_ := Aside0.mk (Kd.R_below (by (with_reducible repeat (first | apply Kd.R_alloc | apply Kd.R_drewN | apply Kd.R_drew)); exact HO205.out) hb); have n3_ := Aside0.mk (Kd.R_below (by (with_reducible repeat (first | apply Kd.R_alloc | apply Kd.R_drewN | apply Kd.R_drew)); exact HO207.out) hb); have n4_ := Aside0.mk (below_step (by repeat (first | (with_reducible first | exact HB.out | apply below_alloc | apply pw_below_drewN | apply below_drew1) | exact HB.out)) hb); clear HO198; clear HO201; clear HO205; clear HO207; clear HB; have HO198 := n0_; have HO201 := n1_; have HO205 := n2_; have HO207 := n3_; have HB := n4_; clear n0_ n1_ n2_ n3_ n4_; (try clear hb); (try clear hb2); (try clear hk); (try clear hi); (try clear A11)))
                  go_ret
                  exact ⟨by first | rfl | (simp [errW_none, errW_some] <;> rfl) | (simp [*, errW_none, errW_some] <;> rfl), by repeat (first | (with_reducible first | exact HB.out | apply below_alloc | apply pw_below_drewN | apply below_drew1) | exact HB.out)⟩
              · rw [if_neg c10] at H
                have c10b0 : ((rd t199 0) == 2) = false := beq_eq_false_iff_ne.mpr c10
                have c10b1 : ((rd t199 0) != 2) = true := bne_iff_ne.mpr c10
                obtain rfl := Option.some.inj H
                go_enter Tryd.func6, Tryd.ntmps6
                go_wp2_with (first | ((with_reducible refine gate_callee (f := 24) rfl ?_); refine goesL_ (some 8) rfl rfl Tryd.func24 (by kernel_rfl) rfl #[.int .i64 1] rfl (by (try simp only [List.map_toArray, List.map_cons, List.map_nil]); first | done | rfl | (simp only [List.length_drop, List.length_take]; rfl)) ?_; (with_reducible refine (lay_Sizes.calls k 1 t193 t194 t195 _ A1.out).mono ?_); rintro e w36 ⟨rfl, hb⟩; refine ⟨_, rfl, ?_⟩; have n0_ := Aside0.mk (below_step (by repeat (first | (with_reducible first | exact HB.out | apply below_alloc | apply pw_below_drewN | apply below_drew1) | exact HB.out)) hb); clear HB; have HB := n0_; clear n0_; (try clear hb); (try clear hb2); (try clear hk); (try clear hi); (try clear A1)) | ((with_reducible refine gate_dst (N := 12) rfl ?_); (try (refine gate_guard (by rfl) ?_; dsimp only)); refine Kd.R_make (Kd.int .u8) _ 5 rfl (N := 12) rfl 30 _ _ rfl 64 rfl rfl Tryd.underlying30 (.int .u8 0) 1 info5 rfl (by decide) (by omega) 0 (ok := fun _ => True) (okp := fun _ => True) rfl (fun _ hk => hk) trivial (by omega) (by omega) (Below.refl _ _) (Nat.le_refl _) ?_; intro v197 w37 ho38 hb hg_ hnew_; clear hg_ hnew_; (first | rw [← Ny196.out] at ho38 | (simp only [Int.reduceToNat] at ho38; rw [← Ny196.out] at ho38)); have n0_ := Aside0.mk (Kd.R_lower ho38 (below_size (by repeat (first | (with_reducible first | exact HB.out | apply below_alloc | apply pw_below_drewN | apply below_drew1) | exact HB.out)))); have n1_ := Aside0.mk (below_step (by repeat (first | (with_reducible first | exact HB.out | apply below_alloc | apply pw_below_drewN | apply below_drew1) | exact HB.out)) hb); clear HB; have HO198 := n0_; have HB := n1_; clear n0_ n1_; clear hb ho38; obtain ⟨Ao39, co39, eo39⟩ := Kd.R_slice HO198.out; subst eo39) | ((with_reducible refine gate_callee (f := 25) rfl ?_); refine goesL_ (some 13) rfl rfl Tryd.func25 (by kernel_rfl) rfl #[.int .i64 1, .int .i64 2, .slice Ao39 y196.length co39] rfl (by (try simp only [List.map_toArray, List.map_cons, List.map_nil]); first | done | rfl | (simp only [List.length_drop, List.length_take]; rfl)) ?_; (with_reducible refine (lay_Far.calls k 1 2 _ _ y196 t199 _ ?side1 ?side2 A3.out).mono ?_); (case side1 => repeat (first | exact (Kd.R_reads' HO198.out).2.2 | (with_reducible refine Kd.C_alloc ?_ _) | (with_reducible refine Kd.C_drewN ?_ _) | (with_reducible refine Kd.C_drew ?_))); (case side2 => exact (Kd.R_reads' HO198.out).2.1); rintro e w40 ⟨v200, rfl, ho0, hb⟩; refine ⟨_, rfl, ?_⟩; have n0_ := Aside0.mk (Kd.R_below (by (with_reducible repeat (first | apply Kd.R_alloc | apply Kd.R_drewN | apply Kd.R_drew)); exact HO198.out) hb); have n1_ := Aside0.mk (Kd.R_lower ho0 (below_size (by repeat (first | (with_reducible first | exact HB.out | apply below_alloc | apply pw_below_drewN | apply below_drew1) | exact HB.out)))); have n2_ := Aside0.mk (below_step (by repeat (first | (with_reducible first | exact HB.out | apply below_alloc | apply pw_below_drewN | apply below_drew1) | exact HB.out)) hb); clear HO198; clear HB; have HO198 := n0_; have HO201 := n1_; have HB := n2_; clear n0_ n1_ n2_; (try clear hb); (try clear hb2); (try clear hk); (try clear hi); (try clear ho0); (try clear A3)) | ((with_reducible refine gate_callee (f := 15) rfl ?_); refine goesL_ (some 15) rfl rfl Tryd.func15 (by kernel_rfl) rfl #[.int .i64 0, .slice none 0 0] rfl (by (try simp only [List.map_toArray, List.map_cons, List.map_nil]); first | done | rfl | (simp only [List.length_drop, List.length_take]; rfl)) ?_; (refine (lay_Hints.calls k 0 _ _ ([] : List (List Int)) t202 t203 _ ?side1 ?side2 A4.out).mono ?_); (case side1 => exact Kd.C_nil _ _); (case side2 => exact Nat.le_refl _); rintro e w41 ⟨v204, v206, rfl, ho0, ho1, hb⟩; refine ⟨_, rfl, ?_⟩; have n0_ := Aside0.mk (Kd.R_elder' (by (with_reducible repeat (first | apply Kd.R_alloc | apply Kd.R_drewN | apply Kd.R_drew)); exact HO198.out) (Kd.R_base ho0) hb); have n1_ := Aside0.mk (Kd.R_below (by (with_reducible repeat (first | apply Kd.R_alloc | apply Kd.R_drewN | apply Kd.R_drew)); exact HO201.out) hb); have n2_ := Aside0.mk (Kd.R_lower (Kd.R_new' ho0 (Kd.R_lt (by (with_reducible repeat (first | apply Kd.R_alloc | apply Kd.R_drewN | apply Kd.R_drew)); exact HO198.out))) (below_size (by repeat (first | (with_reducible first | exact HB.out | apply below_alloc | apply pw_below_drewN | apply below_drew1) | exact HB.out)))); have n3_ := Aside0.mk (Kd.R_lower ho1 (below_size (by repeat (first | (with_reducible first | exact HB.out | apply below_alloc | apply pw_below_drewN | apply below_drew1) | exact HB.out)))); have n4_ := Aside0.mk (below_step (by repeat (first | (with_reducible first | exact HB.out | apply below_alloc | apply pw_below_drewN | apply below_drew1) | exact HB.out)) hb); clear HO198; clear HO201; clear HB; have HO198 := n0_; have HO201 := n1_; have HO205 := n2_; have HO207 := n3_; have HB := n4_; clear n0_ n1_ n2_ n3_ n4_; (try clear hb); (try clear hb2); (try clear hk); (try clear hi); (try clear ho0); (try clear ho1); (try clear A4); obtain ⟨Ao42, co42, eo42⟩ := Kd.R_slice HO201.out; subst eo42; have p208 : 0 ≤ (0 : Int) := (by omega); have q208 : 0 < (t199.length : Int) := of_decide_eq_true (by first | (with_reducible assumption) | assumption); obtain ⟨ad208, e208, hx208_0⟩ := Kd.at_int (Kd.R_reads' HO201.out).2.2 0 p208 q208; cases e208; have qi208 : (0 < t199.length) = True := eq_true (by omega); (try rw [show ((0 : Int)).toNat = 0 from rfl] at hx208_0); (try rw [Addr.add_zero'] at hx208_0); replace p208 := eq_true p208; replace q208 := eq_true q208))
                go_ret
                exact ⟨by first | rfl | (simp [errW_none, errW_some] <;> rfl) | (simp [*, errW_none, errW_some] <;> rfl), by repeat (first | (with_reducible first | exact HB.out | apply below_alloc | apply pw_below_drewN | apply below_drew1) | exact HB.out)⟩
            · rw [if_neg c9] at H
              exact absurd H (by simp)
          · rw [if_neg c8] at H
            have c8b0 : ((t199.length : Int) == 256) = false := beq_eq_false_iff_ne.mpr c8
            have c8b1 : ((t199.length : Int) != 256) = true := bne_iff_ne.mpr c8
            obtain rfl := Option.some.inj H
            go_enter Tryd.func6, Tryd.ntmps6
            go_wp2_with (first | ((with_reducible refine gate_callee (f := 24) rfl ?_); refine goesL_ (some 8) rfl rfl Tryd.func24 (by kernel_rfl) rfl #[.int .i64 1] rfl (by (try simp only [List.map_toArray, List.map_cons, List.map_nil]); first | done | rfl | (simp only [List.length_drop, List.length_take]; rfl)) ?_; (with_reducible refine (lay_Sizes.calls k 1 t193 t194 t195 _ A1.out).mono ?_); rintro e w43 ⟨rfl, hb⟩; refine ⟨_, rfl, ?_⟩; have n0_ := Aside0.mk (below_step (by repeat (first | (with_reducible first | exact HB.out | apply below_alloc | apply pw_below_drewN | apply below_drew1) | exact HB.out)) hb); clear HB; have HB := n0_; clear n0_; (try clear hb); (try clear hb2); (try clear hk); (try clear hi); (try clear A1)) | ((with_reducible refine gate_dst (N := 12) rfl ?_); (try (refine gate_guard (by rfl) ?_; dsimp only)); refine Kd.R_make (Kd.int .u8) _ 5 rfl (N := 12) rfl 30 _ _ rfl 64 rfl rfl Tryd.underlying30 (.int .u8 0) 1 info5 rfl (by decide) (by omega) 0 (ok := fun _ => True) (okp := fun _ => True) rfl (fun _ hk => hk) trivial (by omega) (by omega) (Below.refl _ _) (Nat.le_refl _) ?_; intro v197 w44 ho45 hb hg_ hnew_; clear hg_ hnew_; (first | rw [← Ny196.out] at ho45 | (simp only [Int.reduceToNat] at ho45; rw [← Ny196.out] at ho45)); have n0_ := Aside0.mk (Kd.R_lower ho45 (below_size (by repeat (first | (with_reducible first | exact HB.out | apply below_alloc | apply pw_below_drewN | apply below_drew1) | exact HB.out)))); have n1_ := Aside0.mk (below_step (by repeat (first | (with_reducible first | exact HB.out | apply below_alloc | apply pw_below_drewN | apply below_drew1) | exact HB.out)) hb); clear HB; have HO198 := n0_; have HB := n1_; clear n0_ n1_; clear hb ho45; obtain ⟨Ao46, co46, eo46⟩ := Kd.R_slice HO198.out; subst eo46) | ((with_reducible refine gate_callee (f := 25) rfl ?_); refine goesL_ (some 13) rfl rfl Tryd.func25 (by kernel_rfl) rfl #[.int .i64 1, .int .i64 2, .slice Ao46 y196.length co46] rfl (by (try simp only [List.map_toArray, List.map_cons, List.map_nil]); first | done | rfl | (simp only [List.length_drop, List.length_take]; rfl)) ?_; (with_reducible refine (lay_Far.calls k 1 2 _ _ y196 t199 _ ?side1 ?side2 A3.out).mono ?_); (case side1 => repeat (first | exact (Kd.R_reads' HO198.out).2.2 | (with_reducible refine Kd.C_alloc ?_ _) | (with_reducible refine Kd.C_drewN ?_ _) | (with_reducible refine Kd.C_drew ?_))); (case side2 => exact (Kd.R_reads' HO198.out).2.1); rintro e w47 ⟨v200, rfl, ho0, hb⟩; refine ⟨_, rfl, ?_⟩; have n0_ := Aside0.mk (Kd.R_below (by (with_reducible repeat (first | apply Kd.R_alloc | apply Kd.R_drewN | apply Kd.R_drew)); exact HO198.out) hb); have n1_ := Aside0.mk (Kd.R_lower ho0 (below_size (by repeat (first | (with_reducible first | exact HB.out | apply below_alloc | apply pw_below_drewN | apply below_drew1) | exact HB.out)))); have n2_ := Aside0.mk (below_step (by repeat (first | (with_reducible first | exact HB.out | apply below_alloc | apply pw_below_drewN | apply below_drew1) | exact HB.out)) hb); clear HO198; clear HB; have HO198 := n0_; have HO201 := n1_; have HB := n2_; clear n0_ n1_ n2_; (try clear hb); (try clear hb2); (try clear hk); (try clear hi); (try clear ho0); (try clear A3)) | ((with_reducible refine gate_callee (f := 15) rfl ?_); refine goesL_ (some 15) rfl rfl Tryd.func15 (by kernel_rfl) rfl #[.int .i64 0, .slice none 0 0] rfl (by (try simp only [List.map_toArray, List.map_cons, List.map_nil]); first | done | rfl | (simp only [List.length_drop, List.length_take]; rfl)) ?_; (refine (lay_Hints.calls k 0 _ _ ([] : List (List Int)) t202 t203 _ ?side1 ?side2 A4.out).mono ?_); (case side1 => exact Kd.C_nil _ _); (case side2 => exact Nat.le_refl _); rintro e w48 ⟨v204, v206, rfl, ho0, ho1, hb⟩; refine ⟨_, rfl, ?_⟩; have n0_ := Aside0.mk (Kd.R_elder' (by (with_reducible repeat (first | apply Kd.R_alloc | apply Kd.R_drewN | apply Kd.R_drew)); exact HO198.out) (Kd.R_base ho0) hb); have n1_ := Aside0.mk (Kd.R_below (by (with_reducible repeat (first | apply Kd.R_alloc | apply Kd.R_drewN | apply Kd.R_drew)); exact HO201.out) hb); have n2_ := Aside0.mk (Kd.R_lower (Kd.R_new' ho0 (Kd.R_lt (by (with_reducible repeat (first | apply Kd.R_alloc | apply Kd.R_drewN | apply Kd.R_drew)); exact HO198.out))) (below_size (by repeat (first | (with_reducible first | exact HB.out | apply below_alloc | apply pw_below_drewN | apply below_drew1) | exact HB.out)))); have n3_ := Aside0.mk (Kd.R_lower ho1 (below_size (by repeat (first | (with_reducible first | exact HB.out | apply below_alloc | apply pw_below_drewN | apply below_drew1) | exact HB.out)))); have n4_ := Aside0.mk (below_step (by repeat (first | (with_reducible first | exact HB.out | apply below_alloc | apply pw_below_drewN | apply below_drew1) | exact HB.out)) hb); clear HO198; clear HO201; clear HB; have HO198 := n0_; have HO201 := n1_; have HO205 := n2_; have HO207 := n3_; have HB := n4_; clear n0_ n1_ n2_ n3_ n4_; (try clear hb); (try clear hb2); (try clear hk); (try clear hi); (try clear ho0); (try clear ho1); (try clear A4); obtain ⟨Ao49, co49, eo49⟩ := Kd.R_slice HO201.out; subst eo49))
            go_ret
            exact ⟨by first | rfl | (simp [errW_none, errW_some] <;> rfl) | (simp [*, errW_none, errW_some] <;> rfl), by repeat (first | (with_reducible first | exact HB.out | apply below_alloc | apply pw_below_drewN | apply below_drew1) | exact HB.out)⟩
        · rw [if_neg c7] at H
          have c7b0 : (t195 == 2420) = false := beq_eq_false_iff_ne.mpr c7
          have c7b1 : (t195 != 2420) = true := bne_iff_ne.mpr c7
          obtain rfl := Option.some.inj H
          go_enter Tryd.func6, Tryd.ntmps6
          go_wp2_with (first | ((with_reducible refine gate_callee (f := 24) rfl ?_); refine goesL_ (some 8) rfl rfl Tryd.func24 (by kernel_rfl) rfl #[.int .i64 1] rfl (by (try simp only [List.map_toArray, List.map_cons, List.map_nil]); first | done | rfl | (simp only [List.length_drop, List.length_take]; rfl)) ?_; (with_reducible refine (lay_Sizes.calls k 1 t193 t194 t195 _ A1.out).mono ?_); rintro e w50 ⟨rfl, hb⟩; refine ⟨_, rfl, ?_⟩; have n0_ := Aside0.mk (below_step (by repeat (first | (with_reducible first | exact HB.out | apply below_alloc | apply pw_below_drewN | apply below_drew1) | exact HB.out)) hb); clear HB; have HB := n0_; clear n0_; (try clear hb); (try clear hb2); (try clear hk); (try clear hi); (try clear A1)) | ((with_reducible refine gate_dst (N := 12) rfl ?_); (try (refine gate_guard (by rfl) ?_; dsimp only)); refine Kd.R_make (Kd.int .u8) _ 5 rfl (N := 12) rfl 30 _ _ rfl 64 rfl rfl Tryd.underlying30 (.int .u8 0) 1 info5 rfl (by decide) (by omega) 0 (ok := fun _ => True) (okp := fun _ => True) rfl (fun _ hk => hk) trivial (by omega) (by omega) (Below.refl _ _) (Nat.le_refl _) ?_; intro v197 w51 ho52 hb hg_ hnew_; clear hg_ hnew_; (first | rw [← Ny196.out] at ho52 | (simp only [Int.reduceToNat] at ho52; rw [← Ny196.out] at ho52)); have n0_ := Aside0.mk (Kd.R_lower ho52 (below_size (by repeat (first | (with_reducible first | exact HB.out | apply below_alloc | apply pw_below_drewN | apply below_drew1) | exact HB.out)))); have n1_ := Aside0.mk (below_step (by repeat (first | (with_reducible first | exact HB.out | apply below_alloc | apply pw_below_drewN | apply below_drew1) | exact HB.out)) hb); clear HB; have HO198 := n0_; have HB := n1_; clear n0_ n1_; clear hb ho52; obtain ⟨Ao53, co53, eo53⟩ := Kd.R_slice HO198.out; subst eo53) | ((with_reducible refine gate_callee (f := 25) rfl ?_); refine goesL_ (some 13) rfl rfl Tryd.func25 (by kernel_rfl) rfl #[.int .i64 1, .int .i64 2, .slice Ao53 y196.length co53] rfl (by (try simp only [List.map_toArray, List.map_cons, List.map_nil]); first | done | rfl | (simp only [List.length_drop, List.length_take]; rfl)) ?_; (with_reducible refine (lay_Far.calls k 1 2 _ _ y196 t199 _ ?side1 ?side2 A3.out).mono ?_); (case side1 => repeat (first | exact (Kd.R_reads' HO198.out).2.2 | (with_reducible refine Kd.C_alloc ?_ _) | (with_reducible refine Kd.C_drewN ?_ _) | (with_reducible refine Kd.C_drew ?_))); (case side2 => exact (Kd.R_reads' HO198.out).2.1); rintro e w54 ⟨v200, rfl, ho0, hb⟩; refine ⟨_, rfl, ?_⟩; have n0_ := Aside0.mk (Kd.R_below (by (with_reducible repeat (first | apply Kd.R_alloc | apply Kd.R_drewN | apply Kd.R_drew)); exact HO198.out) hb); have n1_ := Aside0.mk (Kd.R_lower ho0 (below_size (by repeat (first | (with_reducible first | exact HB.out | apply below_alloc | apply pw_below_drewN | apply below_drew1) | exact HB.out)))); have n2_ := Aside0.mk (below_step (by repeat (first | (with_reducible first | exact HB.out | apply below_alloc | apply pw_below_drewN | apply below_drew1) | exact HB.out)) hb); clear HO198; clear HB; have HO198 := n0_; have HO201 := n1_; have HB := n2_; clear n0_ n1_ n2_; (try clear hb); (try clear hb2); (try clear hk); (try clear hi); (try clear ho0); (try clear A3)) | ((with_reducible refine gate_callee (f := 15) rfl ?_); refine goesL_ (some 15) rfl rfl Tryd.func15 (by kernel_rfl) rfl #[.int .i64 0, .slice none 0 0] rfl (by (try simp only [List.map_toArray, List.map_cons, List.map_nil]); first | done | rfl | (simp only [List.length_drop, List.length_take]; rfl)) ?_; (refine (lay_Hints.calls k 0 _ _ ([] : List (List Int)) t202 t203 _ ?side1 ?side2 A4.out).mono ?_); (case side1 => exact Kd.C_nil _ _); (case side2 => exact Nat.le_refl _); rintro e w55 ⟨v204, v206, rfl, ho0, ho1, hb⟩; refine ⟨_, rfl, ?_⟩; have n0_ := Aside0.mk (Kd.R_elder' (by (with_reducible repeat (first | apply Kd.R_alloc | apply Kd.R_drewN | apply Kd.R_drew)); exact HO198.out) (Kd.R_base ho0) hb); have n1_ := Aside0.mk (Kd.R_below (by (with_reducible repeat (first | apply Kd.R_alloc | apply Kd.R_drewN | apply Kd.R_drew)); exact HO201.out) hb); have n2_ := Aside0.mk (Kd.R_lower (Kd.R_new' ho0 (Kd.R_lt (by (with_reducible repeat (first | apply Kd.R_alloc | apply Kd.R_drewN | apply Kd.R_drew)); exact HO198.out))) (below_size (by repeat (first | (with_reducible first | exact HB.out | apply below_alloc | apply pw_below_drewN | apply below_drew1) | exact HB.out)))); have n3_ := Aside0.mk (Kd.R_lower ho1 (below_size (by repeat (first | (with_reducible first | exact HB.out | apply below_alloc | apply pw_below_drewN | apply below_drew1) | exact HB.out)))); have n4_ := Aside0.mk (below_step (by repeat (first | (with_reducible first | exact HB.out | apply below_alloc | apply pw_below_drewN | apply below_drew1) | exact HB.out)) hb); clear HO198; clear HO201; clear HB; have HO198 := n0_; have HO201 := n1_; have HO205 := n2_; have HO207 := n3_; have HB := n4_; clear n0_ n1_ n2_ n3_ n4_; (try clear hb); (try clear hb2); (try clear hk); (try clear hi); (try clear ho0); (try clear ho1); (try clear A4)))
          go_ret
          exact ⟨by first | rfl | (simp [errW_none, errW_some] <;> rfl) | (simp [*, errW_none, errW_some] <;> rfl), by repeat (first | (with_reducible first | exact HB.out | apply below_alloc | apply pw_below_drewN | apply below_drew1) | exact HB.out)⟩
      · rw [if_neg c6] at H
        have c6b0 : (t194 == 2560) = false := beq_eq_false_iff_ne.mpr c6
        have c6b1 : (t194 != 2560) = true := bne_iff_ne.mpr c6
        obtain rfl := Option.some.inj H
        go_enter Tryd.func6, Tryd.ntmps6
        go_wp2_with (first | ((with_reducible refine gate_callee (f := 24) rfl ?_); refine goesL_ (some 8) rfl rfl Tryd.func24 (by kernel_rfl) rfl #[.int .i64 1] rfl (by (try simp only [List.map_toArray, List.map_cons, List.map_nil]); first | done | rfl | (simp only [List.length_drop, List.length_take]; rfl)) ?_; (with_reducible refine (lay_Sizes.calls k 1 t193 t194 t195 _ A1.out).mono ?_); rintro e w56 ⟨rfl, hb⟩; refine ⟨_, rfl, ?_⟩; have n0_ := Aside0.mk (below_step (by repeat (first | (with_reducible first | exact HB.out | apply below_alloc | apply pw_below_drewN | apply below_drew1) | exact HB.out)) hb); clear HB; have HB := n0_; clear n0_; (try clear hb); (try clear hb2); (try clear hk); (try clear hi); (try clear A1)) | ((with_reducible refine gate_dst (N := 12) rfl ?_); (try (refine gate_guard (by rfl) ?_; dsimp only)); refine Kd.R_make (Kd.int .u8) _ 5 rfl (N := 12) rfl 30 _ _ rfl 64 rfl rfl Tryd.underlying30 (.int .u8 0) 1 info5 rfl (by decide) (by omega) 0 (ok := fun _ => True) (okp := fun _ => True) rfl (fun _ hk => hk) trivial (by omega) (by omega) (Below.refl _ _) (Nat.le_refl _) ?_; intro v197 w57 ho58 hb hg_ hnew_; clear hg_ hnew_; (first | rw [← Ny196.out] at ho58 | (simp only [Int.reduceToNat] at ho58; rw [← Ny196.out] at ho58)); have n0_ := Aside0.mk (Kd.R_lower ho58 (below_size (by repeat (first | (with_reducible first | exact HB.out | apply below_alloc | apply pw_below_drewN | apply below_drew1) | exact HB.out)))); have n1_ := Aside0.mk (below_step (by repeat (first | (with_reducible first | exact HB.out | apply below_alloc | apply pw_below_drewN | apply below_drew1) | exact HB.out)) hb); clear HB; have HO198 := n0_; have HB := n1_; clear n0_ n1_; clear hb ho58; obtain ⟨Ao59, co59, eo59⟩ := Kd.R_slice HO198.out; subst eo59) | ((with_reducible refine gate_callee (f := 25) rfl ?_); refine goesL_ (some 13) rfl rfl Tryd.func25 (by kernel_rfl) rfl #[.int .i64 1, .int .i64 2, .slice Ao59 y196.length co59] rfl (by (try simp only [List.map_toArray, List.map_cons, List.map_nil]); first | done | rfl | (simp only [List.length_drop, List.length_take]; rfl)) ?_; (with_reducible refine (lay_Far.calls k 1 2 _ _ y196 t199 _ ?side1 ?side2 A3.out).mono ?_); (case side1 => repeat (first | exact (Kd.R_reads' HO198.out).2.2 | (with_reducible refine Kd.C_alloc ?_ _) | (with_reducible refine Kd.C_drewN ?_ _) | (with_reducible refine Kd.C_drew ?_))); (case side2 => exact (Kd.R_reads' HO198.out).2.1); rintro e w60 ⟨v200, rfl, ho0, hb⟩; refine ⟨_, rfl, ?_⟩; have n0_ := Aside0.mk (Kd.R_below (by (with_reducible repeat (first | apply Kd.R_alloc | apply Kd.R_drewN | apply Kd.R_drew)); exact HO198.out) hb); have n1_ := Aside0.mk (Kd.R_lower ho0 (below_size (by repeat (first | (with_reducible first | exact HB.out | apply below_alloc | apply pw_below_drewN | apply below_drew1) | exact HB.out)))); have n2_ := Aside0.mk (below_step (by repeat (first | (with_reducible first | exact HB.out | apply below_alloc | apply pw_below_drewN | apply below_drew1) | exact HB.out)) hb); clear HO198; clear HB; have HO198 := n0_; have HO201 := n1_; have HB := n2_; clear n0_ n1_ n2_; (try clear hb); (try clear hb2); (try clear hk); (try clear hi); (try clear ho0); (try clear A3)) | ((with_reducible refine gate_callee (f := 15) rfl ?_); refine goesL_ (some 15) rfl rfl Tryd.func15 (by kernel_rfl) rfl #[.int .i64 0, .slice none 0 0] rfl (by (try simp only [List.map_toArray, List.map_cons, List.map_nil]); first | done | rfl | (simp only [List.length_drop, List.length_take]; rfl)) ?_; (refine (lay_Hints.calls k 0 _ _ ([] : List (List Int)) t202 t203 _ ?side1 ?side2 A4.out).mono ?_); (case side1 => exact Kd.C_nil _ _); (case side2 => exact Nat.le_refl _); rintro e w61 ⟨v204, v206, rfl, ho0, ho1, hb⟩; refine ⟨_, rfl, ?_⟩; have n0_ := Aside0.mk (Kd.R_elder' (by (with_reducible repeat (first | apply Kd.R_alloc | apply Kd.R_drewN | apply Kd.R_drew)); exact HO198.out) (Kd.R_base ho0) hb); have n1_ := Aside0.mk (Kd.R_below (by (with_reducible repeat (first | apply Kd.R_alloc | apply Kd.R_drewN | apply Kd.R_drew)); exact HO201.out) hb); have n2_ := Aside0.mk (Kd.R_lower (Kd.R_new' ho0 (Kd.R_lt (by (with_reducible repeat (first | apply Kd.R_alloc | apply Kd.R_drewN | apply Kd.R_drew)); exact HO198.out))) (below_size (by repeat (first | (with_reducible first | exact HB.out | apply below_alloc | apply pw_below_drewN | apply below_drew1) | exact HB.out)))); have n3_ := Aside0.mk (Kd.R_lower ho1 (below_size (by repeat (first | (with_reducible first | exact HB.out | apply below_alloc | apply pw_below_drewN | apply below_drew1) | exact HB.out)))); have n4_ := Aside0.mk (below_step (by repeat (first | (with_reducible first | exact HB.out | apply below_alloc | apply pw_below_drewN | apply below_drew1) | exact HB.out)) hb); clear HO198; clear HO201; clear HB; have HO198 := n0_; have HO201 := n1_; have HO205 := n2_; have HO207 := n3_; have HB := n4_; clear n0_ n1_ n2_ n3_ n4_; (try clear hb); (try clear hb2); (try clear hk); (try clear hi); (try clear ho0); (try clear ho1); (try clear A4)))
        go_ret
        exact ⟨by first | rfl | (simp [errW_none, errW_some] <;> rfl) | (simp [*, errW_none, errW_some] <;> rfl), by repeat (first | (with_reducible first | exact HB.out | apply below_alloc | apply pw_below_drewN | apply below_drew1) | exact HB.out)⟩
    · rw [if_neg c5] at H
      have c5b0 : (t193 == 1312) = false := beq_eq_false_iff_ne.mpr c5
      have c5b1 : (t193 != 1312) = true := bne_iff_ne.mpr c5
      obtain rfl := Option.some.inj H
      go_enter Tryd.func6, Tryd.ntmps6
      go_wp2_with (first | ((with_reducible refine gate_callee (f := 24) rfl ?_); refine goesL_ (some 8) rfl rfl Tryd.func24 (by kernel_rfl) rfl #[.int .i64 1] rfl (by (try simp only [List.map_toArray, List.map_cons, List.map_nil]); first | done | rfl | (simp only [List.length_drop, List.length_take]; rfl)) ?_; (with_reducible refine (lay_Sizes.calls k 1 t193 t194 t195 _ A1.out).mono ?_); rintro e w62 ⟨rfl, hb⟩; refine ⟨_, rfl, ?_⟩; have n0_ := Aside0.mk (below_step (by repeat (first | (with_reducible first | exact HB.out | apply below_alloc | apply pw_below_drewN | apply below_drew1) | exact HB.out)) hb); clear HB; have HB := n0_; clear n0_; (try clear hb); (try clear hb2); (try clear hk); (try clear hi); (try clear A1)) | ((with_reducible refine gate_dst (N := 12) rfl ?_); (try (refine gate_guard (by rfl) ?_; dsimp only)); refine Kd.R_make (Kd.int .u8) _ 5 rfl (N := 12) rfl 30 _ _ rfl 64 rfl rfl Tryd.underlying30 (.int .u8 0) 1 info5 rfl (by decide) (by omega) 0 (ok := fun _ => True) (okp := fun _ => True) rfl (fun _ hk => hk) trivial (by omega) (by omega) (Below.refl _ _) (Nat.le_refl _) ?_; intro v197 w63 ho64 hb hg_ hnew_; clear hg_ hnew_; (first | rw [← Ny196.out] at ho64 | (simp only [Int.reduceToNat] at ho64; rw [← Ny196.out] at ho64)); have n0_ := Aside0.mk (Kd.R_lower ho64 (below_size (by repeat (first | (with_reducible first | exact HB.out | apply below_alloc | apply pw_below_drewN | apply below_drew1) | exact HB.out)))); have n1_ := Aside0.mk (below_step (by repeat (first | (with_reducible first | exact HB.out | apply below_alloc | apply pw_below_drewN | apply below_drew1) | exact HB.out)) hb); clear HB; have HO198 := n0_; have HB := n1_; clear n0_ n1_; clear hb ho64; obtain ⟨Ao65, co65, eo65⟩ := Kd.R_slice HO198.out; subst eo65) | ((with_reducible refine gate_callee (f := 25) rfl ?_); refine goesL_ (some 13) rfl rfl Tryd.func25 (by kernel_rfl) rfl #[.int .i64 1, .int .i64 2, .slice Ao65 y196.length co65] rfl (by (try simp only [List.map_toArray, List.map_cons, List.map_nil]); first | done | rfl | (simp only [List.length_drop, List.length_take]; rfl)) ?_; (with_reducible refine (lay_Far.calls k 1 2 _ _ y196 t199 _ ?side1 ?side2 A3.out).mono ?_); (case side1 => repeat (first | exact (Kd.R_reads' HO198.out).2.2 | (with_reducible refine Kd.C_alloc ?_ _) | (with_reducible refine Kd.C_drewN ?_ _) | (with_reducible refine Kd.C_drew ?_))); (case side2 => exact (Kd.R_reads' HO198.out).2.1); rintro e w66 ⟨v200, rfl, ho0, hb⟩; refine ⟨_, rfl, ?_⟩; have n0_ := Aside0.mk (Kd.R_below (by (with_reducible repeat (first | apply Kd.R_alloc | apply Kd.R_drewN | apply Kd.R_drew)); exact HO198.out) hb); have n1_ := Aside0.mk (Kd.R_lower ho0 (below_size (by repeat (first | (with_reducible first | exact HB.out | apply below_alloc | apply pw_below_drewN | apply below_drew1) | exact HB.out)))); have n2_ := Aside0.mk (below_step (by repeat (first | (with_reducible first | exact HB.out | apply below_alloc | apply pw_below_drewN | apply below_drew1) | exact HB.out)) hb); clear HO198; clear HB; have HO198 := n0_; have HO201 := n1_; have HB := n2_; clear n0_ n1_ n2_; (try clear hb); (try clear hb2); (try clear hk); (try clear hi); (try clear ho0); (try clear A3)) | ((with_reducible refine gate_callee (f := 15) rfl ?_); refine goesL_ (some 15) rfl rfl Tryd.func15 (by kernel_rfl) rfl #[.int .i64 0, .slice none 0 0] rfl (by (try simp only [List.map_toArray, List.map_cons, List.map_nil]); first | done | rfl | (simp only [List.length_drop, List.length_take]; rfl)) ?_; (refine (lay_Hints.calls k 0 _ _ ([] : List (List Int)) t202 t203 _ ?side1 ?side2 A4.out).mono ?_); (case side1 => exact Kd.C_nil _ _); (case side2 => exact Nat.le_refl _); rintro e w67 ⟨v204, v206, rfl, ho0, ho1, hb⟩; refine ⟨_, rfl, ?_⟩; have n0_ := Aside0.mk (Kd.R_elder' (by (with_reducible repeat (first | apply Kd.R_alloc | apply Kd.R_drewN | apply Kd.R_drew)); exact HO198.out) (Kd.R_base ho0) hb); have n1_ := Aside0.mk (Kd.R_below (by (with_reducible repeat (first | apply Kd.R_alloc | apply Kd.R_drewN | apply Kd.R_drew)); exact HO201.out) hb); have n2_ := Aside0.mk (Kd.R_lower (Kd.R_new' ho0 (Kd.R_lt (by (with_reducible repeat (first | apply Kd.R_alloc | apply Kd.R_drewN | apply Kd.R_drew)); exact HO198.out))) (below_size (by repeat (first | (with_reducible first | exact HB.out | apply below_alloc | apply pw_below_drewN | apply below_drew1) | exact HB.out)))); have n3_ := Aside0.mk (Kd.R_lower ho1 (below_size (by repeat (first | (with_reducible first | exact HB.out | apply below_alloc | apply pw_below_drewN | apply below_drew1) | exact HB.out)))); have n4_ := Aside0.mk (below_step (by repeat (first | (with_reducible first | exact HB.out | apply below_alloc | apply pw_below_drewN | apply below_drew1) | exact HB.out)) hb); clear HO198; clear HO201; clear HB; have HO198 := n0_; have HO201 := n1_; have HO205 := n2_; have HO207 := n3_; have HB := n4_; clear n0_ n1_ n2_ n3_ n4_; (try clear hb); (try clear hb2); (try clear hk); (try clear hi); (try clear ho0); (try clear ho1); (try clear A4)))
      go_ret
      exact ⟨by first | rfl | (simp [errW_none, errW_some] <;> rfl) | (simp [*, errW_none, errW_some] <;> rfl), by repeat (first | (with_reducible first | exact HB.out | apply below_alloc | apply pw_below_drewN | apply below_drew1) | exact HB.out)⟩
  · rw [if_neg c2] at H
    exact absurd H (by simp)

end Go.Proofs.YtggiddekbocokaaDoor.PLR
end
section
namespace Go.Proofs.YtggiddekbocokaaDoor.PLR
open Go.RowKit Go.Proofs.YtggiddekbocokaaDoorW.PrintWords Go.Proofs.YtggiddekbocokaaDoorW.PrintLast Go.Proofs.YtggiddekbocokaaDoorW.PrintMore
attribute [local go_sem] max2_int min2_int max_two min_two max_three min_three max_four min_four   -- for this text's walks alone
set_option linter.unusedVariables false
set_option linter.unusedSimpArgs false

/-! ### lay_High: function 10 -/
def lay_High.l0 : Nat → Int → List Int → List (List Int) → Int → Int → Option (List Int × (List (S67)))
  | 0, _, _, _, _, _ => none
  | k + 1, x8, x9, x31, x32, x33 => if x33 < x32 then (if 0 ≤ x33 then (if x33 < (x31.length : Int) then ((lay_long.f k 0 (wrap64 (x8 - 1))).bind fun t235 => ((bits_Pack.f k t235 (rd_L3 x31 x33)).bind fun t236 => (if x9.length + t236.length < 140737488355328 then (lay_High.l0 k x8 (x9 ++ t236) x31 x32 (wrap64 (x33 + 1))) else (none)))) else (none)) else (none)) else (some (x9, ([] : List (S67))))
def lay_High.f (k : Nat) (a0 : Int) (l1 : List (List Int)) : Option (List Int × (List (S67))) := (lay_Of.f a0).bind fun bt216 => (if bt216.2.2.2.2.2.2.2.2.2 = true then (if (wrap64 (2 * bt216.2.2.2.2.2.2.2.1)) = 0 then (none) else ((lay_whole.f l1 bt216.1 (wrap64 (Int.tdiv (8380416 : Int) (wrap64 (2 * bt216.2.2.2.2.2.2.2.1))))).bind fun t230 => (if t230 = true then (lay_High.l0 k (wrap64 (Int.tdiv (8380416 : Int) (wrap64 (2 * bt216.2.2.2.2.2.2.2.1)))) ([] : List Int) l1 (l1.length : Int) 0) else ((lay_fault.f 3).bind fun t231 => (some (([] : List Int), t231)))))) else ((lay_fault.f 2).bind fun t227 => (some (([] : List Int), t227))))
set_option maxHeartbeats 8000000 in
set_option maxRecDepth 100000 in
theorem lay_High.calls (k : Nat) (a0 : Int) (A1 : Option Addr) (c1 : Nat) (l1 : List (List Int)) (r1 : List Int) (r2 : List (S67)) (w : World) (hr1 : Kd.C (Kd.slice 3 (Kd.int .i64)) w A1 l1.length l1) (hc1 : l1.length ≤ c1) (h : lay_High.f k a0 l1 = some (r1, r2)) :
    Calls Tryd.prog 10 #[.int .i64 a0, .slice A1 l1.length c1] w fun e w' => ∃ v0_ v1_ : Value, e = .returned (.tuple #[v0_, v1_]) ∧ Kd.R (Kd.int .u8) 5 w' w.heap.size (fun _ => True) v0_ r1 ∧ Kd.R k67 67 w' w.heap.size (fun _ => True) (eRow v1_) r2 ∧ Below w.heap.size w w' := by
  have hu26 := Tryd.underlying26
  have HR1 := Aside0.mk hr1
  have HC1 := Aside0.mk hc1
  clear hr1 hc1
  have HB := Aside0.mk (Below.refl w.heap.size w)
  have H : ((lay_Of.f a0).bind fun bt216 => (if bt216.2.2.2.2.2.2.2.2.2 = true then (if (wrap64 (2 * bt216.2.2.2.2.2.2.2.1)) = 0 then (none) else ((lay_whole.f l1 bt216.1 (wrap64 (Int.tdiv (8380416 : Int) (wrap64 (2 * bt216.2.2.2.2.2.2.2.1))))).bind fun t230 => (if t230 = true then (lay_High.l0 k (wrap64 (Int.tdiv (8380416 : Int) (wrap64 (2 * bt216.2.2.2.2.2.2.2.1)))) ([] : List Int) l1 (l1.length : Int) 0) else ((lay_fault.f 3).bind fun t231 => (some (([] : List Int), t231)))))) else ((lay_fault.f 2).bind fun t227 => (some (([] : List Int), t227))))) = some (r1, r2) := h
  clear h
  replace H := Option.bind_eq_some_iff.mp H
  obtain ⟨⟨t216, t217, t218, t219, t220, t221, t222, t223, t224, t225⟩, A30, H⟩ := H
  replace H : (if t225 = true then (if (wrap64 (2 * t223)) = 0 then (none) else ((lay_whole.f l1 t216 (wrap64 (Int.tdiv (8380416 : Int) (wrap64 (2 * t223))))).bind fun t230 => (if t230 = true then (lay_High.l0 k (wrap64 (Int.tdiv (8380416 : Int) (wrap64 (2 * t223)))) ([] : List Int) l1 (l1.length : Int) 0) else ((lay_fault.f 3).bind fun t231 => (some (([] : List Int), t231)))))) else ((lay_fault.f 2).bind fun t227 => (some (([] : List Int), t227)))) = some (r1, r2) := H
  have A3 := Aside0.mk A30
  clear A30
  by_cases c4 : t225 = true
  · subst c4
    have H1 : (if (wrap64 (2 * t223)) = 0 then (none) else ((lay_whole.f l1 t216 (wrap64 (Int.tdiv (8380416 : Int) (wrap64 (2 * t223))))).bind fun t230 => (if t230 = true then (lay_High.l0 k (wrap64 (Int.tdiv (8380416 : Int) (wrap64 (2 * t223)))) ([] : List Int) l1 (l1.length : Int) 0) else ((lay_fault.f 3).bind fun t231 => (some (([] : List Int), t231)))))) = some (r1, r2) := by rw [if_pos rfl] at H; exact H
    clear H
    have H := H1
    clear H1
    by_cases c5 : (wrap64 (2 * t223)) = 0
    · rw [if_pos c5] at H
      exact absurd H (by simp)
    · rw [if_neg c5] at H
      have c5b0 : ((wrap64 (2 * t223)) == 0) = false := beq_eq_false_iff_ne.mpr c5
      have c5b1 : ((wrap64 (2 * t223)) != 0) = true := bne_iff_ne.mpr c5
      replace H := Option.bind_eq_some_iff.mp H
      obtain ⟨t230, A60, H⟩ := H
      replace H : (if t230 = true then (lay_High.l0 k (wrap64 (Int.tdiv (8380416 : Int) (wrap64 (2 * t223)))) ([] : List Int) l1 (l1.length : Int) 0) else ((lay_fault.f 3).bind fun t231 => (some (([] : List Int), t231)))) = some (r1, r2) := H
      have A6 := Aside0.mk A60
      clear A60
      by_cases c7 : t230 = true
      · subst c7
        have H1 : (lay_High.l0 k (wrap64 (Int.tdiv (8380416 : Int) (wrap64 (2 * t223)))) ([] : List Int) l1 (l1.length : Int) 0) = some (r1, r2) := by rw [if_pos rfl] at H; exact H
        clear H
        have H := H1
        clear H1
        have H' := Aside0.mk H
        clear H
        go_enter Tryd.func10, Tryd.ntmps10
        go_wp2_with (first | ((with_reducible refine gate_callee (f := 8) rfl ?_); refine goesL_ (some 14) rfl rfl Tryd.func8 (by kernel_rfl) rfl #[.int .i64 a0] rfl (by (try simp only [List.map_toArray, List.map_cons, List.map_nil]); first | done | rfl | (simp only [List.length_drop, List.length_take]; rfl)) ?_; (with_reducible refine (lay_Of.calls a0 t216 t217 t218 t219 t220 t221 t222 t223 t224 true _ A3.out).mono ?_); rintro e w8 ⟨rfl, hb⟩; refine ⟨_, rfl, ?_⟩; have n0_ := Aside0.mk (below_step (by repeat (first | (with_reducible first | exact HB.out | apply below_alloc | apply pw_below_drewN | apply below_drew1) | exact HB.out)) hb); clear HB; have HB := n0_; clear n0_; (try clear hb); (try clear hb2); (try clear hk); (try clear hi); (try clear A3)) | ((with_reducible refine gate_dst (N := 6) rfl ?_); refine box_event ?hg (N := 6) ?hd (cs := #[.int .i64 0, .int .i64 0, .int .i64 0, .int .i64 0, .int .i64 0, .int .i64 0, .int .i64 0, .int .i64 0, .int .i64 0]) (t := 26) ?hr ?_; (case hd => rfl); (case hg => rfl); (case hr => first | (go_simp; done) | (go_simp; rfl)); intro gb226 hg w9 hbox hb; have n0_ := Aside0.mk (below_step (by repeat (first | (with_reducible first | exact HB.out | apply below_alloc | apply pw_below_drewN | apply below_drew1) | exact HB.out)) hb); have n1_ := Aside0.mk (hbox); have n2_ := Aside0.mk ((by rw [hg]; exact (below_size (by repeat (first | (with_reducible first | exact HB.out | apply below_alloc | apply pw_below_drewN | apply below_drew1) | exact HB.out))) : w.heap.size ≤ gb226)); have n3_ := Aside0.mk ((by rw [hg]; exact (below_size (by repeat (first | (with_reducible first | exact HB.out | apply below_alloc | apply pw_below_drewN | apply below_drew1) | exact HB.out))) : w.heap.size ≤ gb226)); clear HB; have HB := n0_; have BK226 := n1_; have GW226 := n2_; have GE226 := n3_; clear n0_ n1_ n2_ n3_; clear hb hbox hg; have hcz10_0 : w9.cell? ⟨gb226, 0, none⟩ = some (.int .i64 0) := (blk_cell BK226.out 0).trans rfl; have hcz10_1 : w9.cell? ⟨gb226, 1, none⟩ = some (.int .i64 0) := (blk_cell BK226.out 1).trans rfl; have hcz10_2 : w9.cell? ⟨gb226, 2, none⟩ = some (.int .i64 0) := (blk_cell BK226.out 2).trans rfl; have hcz10_3 : w9.cell? ⟨gb226, 3, none⟩ = some (.int .i64 0) := (blk_cell BK226.out 3).trans rfl; have hcz10_4 : w9.cell? ⟨gb226, 4, none⟩ = some (.int .i64 0) := (blk_cell BK226.out 4).trans rfl; have hcz10_5 : w9.cell? ⟨gb226, 5, none⟩ = some (.int .i64 0) := (blk_cell BK226.out 5).trans rfl; have hcz10_6 : w9.cell? ⟨gb226, 6, none⟩ = some (.int .i64 0) := (blk_cell BK226.out 6).trans rfl; have hcz10_7 : w9.cell? ⟨gb226, 7, none⟩ = some (.int .i64 0) := (blk_cell BK226.out 7).trans rfl; have hcz10_8 : w9.cell? ⟨gb226, 8, none⟩ = some (.int .i64 0) := (blk_cell BK226.out 8).trans rfl; have hfz10_0 := blk_frozen BK226.out 0; have hfz10_1 := blk_frozen BK226.out 1; have hfz10_2 := blk_frozen BK226.out 2; have hfz10_3 := blk_frozen BK226.out 3; have hfz10_4 := blk_frozen BK226.out 4; have hfz10_5 := blk_frozen BK226.out 5; have hfz10_6 := blk_frozen BK226.out 6; have hfz10_7 := blk_frozen BK226.out 7; have hfz10_8 := blk_frozen BK226.out 8) | ((with_reducible refine gate_callee (f := 28) rfl ?_); refine goesL_ (some 28) rfl rfl Tryd.func28 (by kernel_rfl) rfl #[.slice A1 l1.length c1, .int .i64 t216, .int .i64 (wrap64 (Int.tdiv (8380416 : Int) (wrap64 (2 * t223))))] rfl (by (try simp only [List.map_toArray, List.map_cons, List.map_nil]); first | done | rfl | (simp only [List.length_drop, List.length_take]; rfl)) ?_; (with_reducible refine (lay_whole.calls _ _ l1 t216 (wrap64 (Int.tdiv (8380416 : Int) (wrap64 (2 * t223)))) true _ ?side1 ?side2 A6.out).mono ?_); (case side1 => exact Kd.C_below HR1.out (by repeat (first | (with_reducible first | exact HB.out | apply below_alloc | apply pw_below_drewN | apply below_drew1 | refine below_set ?_ GE226.out) | exact HB.out))); (case side2 => exact HC1.out); rintro e w11 ⟨rfl, hb⟩; refine ⟨_, rfl, ?_⟩; have n0_ := Aside0.mk (blk_below (g := gb226) (o := .cells #[.int .i64 t216, .int .i64 t217, .int .i64 t218, .int .i64 t219, .int .i64 t220, .int .i64 t221, .int .i64 t222, .int .i64 t223, .int .i64 t224] 26 (0, 0)) (by (with_reducible repeat (first | refine blk_drewN ?_ _ | refine blk_drew ?_ | refine blk_alloc ?_ _)); refine blk_put (cs := #[.int .i64 t216, .int .i64 t217, .int .i64 t218, .int .i64 t219, .int .i64 t220, .int .i64 t221, .int .i64 t222, .int .i64 t223, .int .i64 0]) ?_ 8 _ rfl; (with_reducible repeat (first | refine blk_drewN ?_ _ | refine blk_drew ?_ | refine blk_alloc ?_ _)); refine blk_put (cs := #[.int .i64 t216, .int .i64 t217, .int .i64 t218, .int .i64 t219, .int .i64 t220, .int .i64 t221, .int .i64 t222, .int .i64 0, .int .i64 0]) ?_ 7 _ rfl; (with_reducible repeat (first | refine blk_drewN ?_ _ | refine blk_drew ?_ | refine blk_alloc ?_ _)); refine blk_put (cs := #[.int .i64 t216, .int .i64 t217, .int .i64 t218, .int .i64 t219, .int .i64 t220, .int .i64 t221, .int .i64 0, .int .i64 0, .int .i64 0]) ?_ 6 _ rfl; (with_reducible repeat (first | refine blk_drewN ?_ _ | refine blk_drew ?_ | refine blk_alloc ?_ _)); refine blk_put (cs := #[.int .i64 t216, .int .i64 t217, .int .i64 t218, .int .i64 t219, .int .i64 t220, .int .i64 0, .int .i64 0, .int .i64 0, .int .i64 0]) ?_ 5 _ rfl; (with_reducible repeat (first | refine blk_drewN ?_ _ | refine blk_drew ?_ | refine blk_alloc ?_ _)); refine blk_put (cs := #[.int .i64 t216, .int .i64 t217, .int .i64 t218, .int .i64 t219, .int .i64 0, .int .i64 0, .int .i64 0, .int .i64 0, .int .i64 0]) ?_ 4 _ rfl; (with_reducible repeat (first | refine blk_drewN ?_ _ | refine blk_drew ?_ | refine blk_alloc ?_ _)); refine blk_put (cs := #[.int .i64 t216, .int .i64 t217, .int .i64 t218, .int .i64 0, .int .i64 0, .int .i64 0, .int .i64 0, .int .i64 0, .int .i64 0]) ?_ 3 _ rfl; (with_reducible repeat (first | refine blk_drewN ?_ _ | refine blk_drew ?_ | refine blk_alloc ?_ _)); refine blk_put (cs := #[.int .i64 t216, .int .i64 t217, .int .i64 0, .int .i64 0, .int .i64 0, .int .i64 0, .int .i64 0, .int .i64 0, .int .i64 0]) ?_ 2 _ rfl; (with_reducible repeat (first | refine blk_drewN ?_ _ | refine blk_drew ?_ | refine blk_alloc ?_ _)); refine blk_put (cs := #[.int .i64 t216, .int .i64 0, .int .i64 0, .int .i64 0, .int .i64 0, .int .i64 0, .int .i64 0, .int .i64 0, .int .i64 0]) ?_ 1 _ rfl; (with_reducible repeat (first | refine blk_drewN ?_ _ | refine blk_drew ?_ | refine blk_alloc ?_ _)); refine blk_put (cs := #[.int .i64 0, .int .i64 0, .int .i64 0, .int .i64 0, .int .i64 0, .int .i64 0, .int .i64 0, .int .i64 0, .int .i64 0]) ?_ 0 _ rfl; (with_reducible repeat (first | refine blk_drewN ?_ _ | refine blk_drew ?_ | refine blk_alloc ?_ _)); exact BK226.out) hb); have n1_ := Aside0.mk (below_step (by repeat (first | (with_reducible first | exact HB.out | apply below_alloc | apply pw_below_drewN | apply below_drew1 | refine below_set ?_ GE226.out) | exact HB.out)) hb); clear BK226; clear HB; have BK226 := n0_; have HB := n1_; clear n0_ n1_; (try clear hb); (try clear hb2); (try clear hk); (try clear hi); (try clear A6)))
        go_loopg [9, 33] k (fun kq v9 v33 w' => ∃ (x9_1 : List Int) (x33_1 : Int), v33 = .int .i64 x33_1 ∧ Aside0 (lay_High.l0 kq (wrap64 (Int.tdiv (8380416 : Int) (wrap64 (2 * t223)))) x9_1 l1 (l1.length : Int) x33_1 = some (r1, r2)) ∧ Aside0 (kq ≤ k) ∧ Aside0 (Kd.R (Kd.int .u8) 5 w' w.heap.size (fun _ => True) v9 x9_1) ∧ Aside0 (w'.heap[gb226]? = some (.cells #[.int .i64 t216, .int .i64 t217, .int .i64 t218, .int .i64 t219, .int .i64 t220, .int .i64 t221, .int .i64 t222, .int .i64 t223, .int .i64 t224] 26 (0, 0))) ∧ Aside0 (Below w.heap.size w w'))
        case atStart => exact ⟨(([] : List Int)), (0), (by first | rfl | (simp; done) | (simp [*]; done)), H', ⟨Nat.le_refl _⟩, ⟨by first | exact Kd.R_nil _ _ _ _ _ | exact Kd.N_nil _ _ _ _ _ | exact Kd.V_nil _ _ _ _ _ | exact Kd.Q_nil _ _ _ _ _ | exact Kd.S_nil _ _ _ _ _⟩, ⟨by (with_reducible repeat (first | refine blk_drewN ?_ _ | refine blk_drew ?_ | refine blk_alloc ?_ _)); exact BK226.out⟩, ⟨by repeat (first | (with_reducible first | exact HB.out | apply below_alloc | apply pw_below_drewN | apply below_drew1 | refine below_set ?_ GE226.out) | exact HB.out)⟩⟩
        case round =>
          clear H'
          try clear c1
          try clear c2
          try clear p2
          try clear c4
          try clear c5
          try clear c5b0
          try clear c5b1
          try clear p6
          try clear c7
          try clear c8
          try clear c10
          try clear hcz10_0
          try clear hcz10_1
          try clear hcz10_2
          try clear hcz10_3
          try clear hcz10_4
          try clear hcz10_5
          try clear hcz10_6
          try clear hcz10_7
          try clear hcz10_8
          try clear hfz10_0
          try clear hfz10_1
          try clear hfz10_2
          try clear hfz10_3
          try clear hfz10_4
          try clear hfz10_5
          try clear hfz10_6
          try clear hfz10_7
          try clear hfz10_8
          obtain ⟨x9_1, x33_1, rfl, HA, HK1, HO_9, BK226, HB⟩ := hrel
          cases gk with
          | zero => exact absurd HA.out (by simp [lay_High.l0])
          | succ k1 =>
            have H := HA.out
            clear HA
            simp only [lay_High.l0] at H
            by_cases c12 : x33_1 < (l1.length : Int)
            · rw [if_pos c12] at H
              have c12b0 : decide (x33_1 < (l1.length : Int)) = true := decide_eq_true c12
              clear c12
              by_cases c13 : 0 ≤ x33_1
              · rw [if_pos c13] at H
                have c13b0 : decide (0 ≤ x33_1) = true := decide_eq_true c13
                clear c13
                by_cases c14 : x33_1 < (l1.length : Int)
                · rw [if_pos c14] at H
                  have c14b0 : decide (x33_1 < (l1.length : Int)) = true := decide_eq_true c14
                  clear c14
                  replace H := Option.bind_eq_some_iff.mp H
                  obtain ⟨t235, A150, H⟩ := H
                  replace H : ((bits_Pack.f k1 t235 (rd_L3 l1 x33_1)).bind fun t236 => (if x9_1.length + t236.length < 140737488355328 then (lay_High.l0 k1 (wrap64 (Int.tdiv (8380416 : Int) (wrap64 (2 * t223)))) (x9_1 ++ t236) l1 (l1.length : Int) (wrap64 (x33_1 + 1))) else (none))) = some (r1, r2) := H
                  have A15 := Aside0.mk A150
                  clear A150
                  replace H := Option.bind_eq_some_iff.mp H
                  obtain ⟨t236, A160, H⟩ := H
                  replace H : (if x9_1.length + t236.length < 140737488355328 then (lay_High.l0 k1 (wrap64 (Int.tdiv (8380416 : Int) (wrap64 (2 * t223)))) (x9_1 ++ t236) l1 (l1.length : Int) (wrap64 (x33_1 + 1))) else (none)) = some (r1, r2) := H
                  have A16 := Aside0.mk A160
                  clear A160
                  by_cases c17 : x9_1.length + t236.length < 140737488355328
                  · rw [if_pos c17] at H
                    have LMc17 := Aside0.mk c17
                    clear c17
                    obtain ⟨y239, hy239⟩ : ∃ y_ : List Int, y_ = (x9_1 ++ t236) := ⟨_, rfl⟩
                    replace H : (lay_High.l0 k1 (wrap64 (Int.tdiv (8380416 : Int) (wrap64 (2 * t223)))) y239 l1 (l1.length : Int) (wrap64 (x33_1 + 1))) = some (r1, r2) := by first | (rw [hy239]; with_reducible exact H) | (have H2_ := (Option.bind_some _ _).symm.trans H; rw [hy239]; with_reducible exact H2_) | (have H2_ := (Option.bind_some _ _).symm.trans H; with_reducible exact H2_) | with_reducible exact H | (rw [hy239]; exact H) | exact H
                    have Ny239 := Aside0.mk hy239
                    clear hy239
                    have H' := Aside0.mk H
                    clear H
                    have p234 : 0 ≤ (x33_1 : Int) := of_decide_eq_true (by first | (with_reducible assumption) | assumption)
                    have q234 : x33_1 < (l1.length : Int) := of_decide_eq_true (by first | (with_reducible assumption) | assumption)
                    obtain ⟨ad234, A234_0, c234_0, e234, hx234_0, hl234_0, hi234_0⟩ := at_L3 HR1.out x33_1 p234 q234
                    cases e234
                    replace hx234_0 := (HB.out.cell (World.block_lt_of_cell? w _ hx234_0)).trans hx234_0
                    have HR234_0 := Aside0.mk hi234_0
                    have HC234_0 := Aside0.mk hl234_0
                    clear hi234_0 hl234_0
                    replace p234 := eq_true p234
                    replace q234 := eq_true q234
                    go_wp2_with (first | ((with_reducible refine gate_callee (f := 29) rfl ?_); refine goesL_ (some 40) rfl rfl Tryd.func29 (by kernel_rfl) rfl #[.int .i64 0, .int .i64 (wrap64 ((wrap64 (Int.tdiv (8380416 : Int) (wrap64 (2 * t223)))) - 1))] rfl (by (try simp only [List.map_toArray, List.map_cons, List.map_nil]); first | done | rfl | (simp only [List.length_drop, List.length_take]; rfl)) ?_; (with_reducible refine (lay_long.calls k1 0 (wrap64 ((wrap64 (Int.tdiv (8380416 : Int) (wrap64 (2 * t223)))) - 1)) t235 _ A15.out).mono ?_); rintro e w' ⟨rfl, ⟨nd, rfl⟩⟩; refine ⟨_, rfl, ?_⟩) | ((with_reducible refine gate_callee (f := 9) rfl ?_); refine goesL_ (some 42) rfl rfl Tryd.func9 (by kernel_rfl) rfl #[.int .i64 t235, .slice A234_0 (rd_L3 l1 x33_1).length c234_0] rfl (by (try simp only [List.map_toArray, List.map_cons, List.map_nil]); first | done | rfl | (simp only [List.length_drop, List.length_take]; rfl)) ?_; (with_reducible refine (bits_Pack.calls k1 t235 _ _ (rd_L3 l1 x33_1) t236 _ ?side1 ?side2 A16.out).mono ?_); (case side1 => repeat (first | exact (Kd.C_below HR234_0.out (by repeat (first | (with_reducible first | exact HB.out | apply below_alloc | apply pw_below_drewN | apply below_drew1 | refine below_set ?_ GE226.out) | exact HB.out))) | (with_reducible refine Kd.C_alloc ?_ _) | (with_reducible refine Kd.C_drewN ?_ _) | (with_reducible refine Kd.C_drew ?_))); (case side2 => exact HC234_0.out); rintro e w18 ⟨v237, rfl, ho0, hb⟩; refine ⟨_, rfl, ?_⟩; have n0_ := Aside0.mk (Kd.R_elder' (by (with_reducible repeat (first | apply Kd.R_alloc | apply Kd.R_drewN | apply Kd.R_drew)); exact HO_9.out) (Kd.R_base ho0) hb); have n1_ := Aside0.mk (Kd.R_lower (Kd.R_new' ho0 (Kd.R_lt (by (with_reducible repeat (first | apply Kd.R_alloc | apply Kd.R_drewN | apply Kd.R_drew)); exact HO_9.out))) (below_size (by repeat (first | (with_reducible first | exact HB.out | apply below_alloc | apply pw_below_drewN | apply below_drew1 | refine below_set ?_ GE226.out) | exact HB.out)))); have n2_ := Aside0.mk (blk_below (g := gb226) (o := .cells #[.int .i64 t216, .int .i64 t217, .int .i64 t218, .int .i64 t219, .int .i64 t220, .int .i64 t221, .int .i64 t222, .int .i64 t223, .int .i64 t224] 26 (0, 0)) (by (with_reducible repeat (first | refine blk_drewN ?_ _ | refine blk_drew ?_ | refine blk_alloc ?_ _)); exact BK226.out) hb); have n3_ := Aside0.mk (below_step (by repeat (first | (with_reducible first | exact HB.out | apply below_alloc | apply pw_below_drewN | apply below_drew1 | refine below_set ?_ GE226.out) | exact HB.out)) hb); clear HO_9; clear BK226; clear HB; have HO_9 := n0_; have HO238 := n1_; have BK226 := n2_; have HB := n3_; clear n0_ n1_ n2_ n3_; (try clear hb); (try clear hb2); (try clear hk); (try clear hi); (try clear ho0); (try clear A16); obtain ⟨Ao20, co20, eo20⟩ := Kd.R_slice HO238.out; subst eo20) | ((with_reducible refine gate_builtin (b := .append) (xs := #[.tmp 37, .tmp 42]) rfl ?_); at_builtin; refine Kd.R_append_rows (Kd.int .u8) (w0 := w) w.heap.size rfl (.tmp 37) (.tmp 42) 30 5 (.int .u8 0) 1 rfl Tryd.underlying30 info5 rfl (by decide) (by omega) u9 x9_1 t236 _ _ _ (fun k_ => some k_ ≠ (.slice Ao20 t236.length co20 : Value).ownBlock) (fun _ => False) rfl rfl ?aO ?aR (fun _ _ h => h) (fun _ h => h.elim) ?aF ?aB ?aS ?aL ?_; (case aR => repeat (first | exact (Kd.R_reads' HO238.out).2.2 | (with_reducible refine Kd.C_alloc ?_ _) | (with_reducible refine Kd.C_drewN ?_ _) | (with_reducible refine Kd.C_drew ?_))); (case aB => exact (by repeat (first | (with_reducible first | exact HB.out | apply below_alloc | apply pw_below_drewN | apply below_drew1 | refine below_set ?_ GE226.out) | exact HB.out))); (case aF => exact (fun k_ hk => Kd.fresh' (Kd.R_lt (by (with_reducible repeat (first | apply Kd.R_alloc | apply Kd.R_drewN | apply Kd.R_drew)); exact HO238.out)) k_ hk)); (case aO => exact (by (with_reducible repeat (first | apply Kd.R_alloc | apply Kd.R_drewN | apply Kd.R_drew)); exact Kd.R_mono HO_9.out (fun _ hk => hk.2))); (case aS => exact (below_size (by repeat (first | (with_reducible first | exact HB.out | apply below_alloc | apply pw_below_drewN | apply below_drew1 | refine below_set ?_ GE226.out) | exact HB.out)))); (case aL => have := LMc17.out; omega); intro v240 w19 ho hb hg hat; rw [← Ny239.out] at ho; have n0_ := Aside0.mk (blk_grown (g := gb226) (o := .cells #[.int .i64 t216, .int .i64 t217, .int .i64 t218, .int .i64 t219, .int .i64 t220, .int .i64 t221, .int .i64 t222, .int .i64 t223, .int .i64 t224] 26 (0, 0)) (by (with_reducible repeat (first | refine blk_drewN ?_ _ | refine blk_drew ?_ | refine blk_alloc ?_ _)); exact BK226.out) hg (Kd.R_ne HO_9.out BK226.out (by decide))); have n1_ := Aside0.mk (Kd.R_after (ok := (fun _ => True)) (by (with_reducible repeat (first | apply Kd.R_alloc | apply Kd.R_drewN | apply Kd.R_drew)); exact HO238.out) hg hat); have n2_ := Aside0.mk (hb); have n3_ := Aside0.mk (ho); clear BK226; clear HO238; clear HB; clear HO_9; have BK226 := n0_; have HO238 := n1_; have HB := n2_; have HO241 := n3_; clear n0_ n1_ n2_ n3_; clear ho hb hg hat))
                    go_roundg k1
                    case measure => have := HK1.out; omega
                    case rel => exact ⟨(y239), (wrap64 (x33_1 + 1)), (by first | rfl | (simp; done) | (simp [*]; done)), H', ⟨by have := HK1.out; omega⟩, ⟨by (with_reducible repeat (first | apply Kd.R_alloc | apply Kd.R_drewN | apply Kd.R_drew)); exact Kd.R_mono HO241.out (fun _ hk => trivial)⟩, ⟨by (with_reducible repeat (first | refine blk_drewN ?_ _ | refine blk_drew ?_ | refine blk_alloc ?_ _)); exact BK226.out⟩, ⟨by repeat (first | (with_reducible first | exact HB.out | apply below_alloc | apply pw_below_drewN | apply below_drew1 | refine below_set ?_ GE226.out) | exact HB.out)⟩⟩
                  · rw [if_neg c17] at H
                    exact absurd H (by simp)
                · rw [if_neg c14] at H
                  exact absurd H (by simp)
              · rw [if_neg c13] at H
                exact absurd H (by simp)
            · rw [if_neg c12] at H
              have c12b0 : decide (x33_1 < (l1.length : Int)) = false := decide_eq_false c12
              clear c12
              simp only [Option.some.injEq, Prod.mk.injEq] at H
              obtain ⟨rfl, rfl⟩ := H
              go_wp2
              go_ret2
              exact ⟨_, _, by first | rfl | (simp [errW_none, errW_some] <;> rfl) | (simp [*, errW_none, errW_some] <;> rfl), by (with_reducible repeat (first | apply Kd.R_alloc | apply Kd.R_drewN | apply Kd.R_drew)); exact HO_9.out, by first | exact Kd.R_nil _ _ _ _ _ | exact Kd.N_nil _ _ _ _ _ | exact Kd.V_nil _ _ _ _ _ | exact Kd.Q_nil _ _ _ _ _ | exact Kd.S_nil _ _ _ _ _, by repeat (first | (with_reducible first | exact HB.out | apply below_alloc | apply pw_below_drewN | apply below_drew1 | refine below_set ?_ GE226.out) | exact HB.out)⟩
      · replace c7 := Bool.eq_false_iff.mpr c7
        subst c7
        have H1 : ((lay_fault.f 3).bind fun t231 => (some (([] : List Int), t231))) = some (r1, r2) := by rw [if_neg (show ¬ (false = true) by decide)] at H; exact H
        clear H
        have H := H1
        clear H1
        replace H := Option.bind_eq_some_iff.mp H
        obtain ⟨t231, A210, H⟩ := H
        replace H : (some (([] : List Int), t231)) = some (r1, r2) := H
        have A21 := Aside0.mk A210
        clear A210
        simp only [Option.some.injEq, Prod.mk.injEq] at H
        obtain ⟨rfl, rfl⟩ := H
        go_enter Tryd.func10, Tryd.ntmps10
        go_wp2_with (first | ((with_reducible refine gate_callee (f := 8) rfl ?_); refine goesL_ (some 14) rfl rfl Tryd.func8 (by kernel_rfl) rfl #[.int .i64 a0] rfl (by (try simp only [List.map_toArray, List.map_cons, List.map_nil]); first | done | rfl | (simp only [List.length_drop, List.length_take]; rfl)) ?_; (with_reducible refine (lay_Of.calls a0 t216 t217 t218 t219 t220 t221 t222 t223 t224 true _ A3.out).mono ?_); rintro e w22 ⟨rfl, hb⟩; refine ⟨_, rfl, ?_⟩; have n0_ := Aside0.mk (below_step (by repeat (first | (with_reducible first | exact HB.out | apply below_alloc | apply pw_below_drewN | apply below_drew1) | exact HB.out)) hb); clear HB; have HB := n0_; clear n0_; (try clear hb); (try clear hb2); (try clear hk); (try clear hi); (try clear A3)) | ((with_reducible refine gate_dst (N := 6) rfl ?_); refine box_event ?hg (N := 6) ?hd (cs := #[.int .i64 0, .int .i64 0, .int .i64 0, .int .i64 0, .int .i64 0, .int .i64 0, .int .i64 0, .int .i64 0, .int .i64 0]) (t := 26) ?hr ?_; (case hd => rfl); (case hg => rfl); (case hr => first | (go_simp; done) | (go_simp; rfl)); intro gb226 hg w23 hbox hb; have n0_ := Aside0.mk (below_step (by repeat (first | (with_reducible first | exact HB.out | apply below_alloc | apply pw_below_drewN | apply below_drew1) | exact HB.out)) hb); have n1_ := Aside0.mk (hbox); have n2_ := Aside0.mk ((by rw [hg]; exact (below_size (by repeat (first | (with_reducible first | exact HB.out | apply below_alloc | apply pw_below_drewN | apply below_drew1) | exact HB.out))) : w.heap.size ≤ gb226)); have n3_ := Aside0.mk ((by rw [hg]; exact (below_size (by repeat (first | (with_reducible first | exact HB.out | apply below_alloc | apply pw_below_drewN | apply below_drew1) | exact HB.out))) : w.heap.size ≤ gb226)); clear HB; have HB := n0_; have BK226 := n1_; have GW226 := n2_; have GE226 := n3_; clear n0_ n1_ n2_ n3_; clear hb hbox hg; have hcz24_0 : w23.cell? ⟨gb226, 0, none⟩ = some (.int .i64 0) := (blk_cell BK226.out 0).trans rfl; have hcz24_1 : w23.cell? ⟨gb226, 1, none⟩ = some (.int .i64 0) := (blk_cell BK226.out 1).trans rfl; have hcz24_2 : w23.cell? ⟨gb226, 2, none⟩ = some (.int .i64 0) := (blk_cell BK226.out 2).trans rfl; have hcz24_3 : w23.cell? ⟨gb226, 3, none⟩ = some (.int .i64 0) := (blk_cell BK226.out 3).trans rfl; have hcz24_4 : w23.cell? ⟨gb226, 4, none⟩ = some (.int .i64 0) := (blk_cell BK226.out 4).trans rfl; have hcz24_5 : w23.cell? ⟨gb226, 5, none⟩ = some (.int .i64 0) := (blk_cell BK226.out 5).trans rfl; have hcz24_6 : w23.cell? ⟨gb226, 6, none⟩ = some (.int .i64 0) := (blk_cell BK226.out 6).trans rfl; have hcz24_7 : w23.cell? ⟨gb226, 7, none⟩ = some (.int .i64 0) := (blk_cell BK226.out 7).trans rfl; have hcz24_8 : w23.cell? ⟨gb226, 8, none⟩ = some (.int .i64 0) := (blk_cell BK226.out 8).trans rfl; have hfz24_0 := blk_frozen BK226.out 0; have hfz24_1 := blk_frozen BK226.out 1; have hfz24_2 := blk_frozen BK226.out 2; have hfz24_3 := blk_frozen BK226.out 3; have hfz24_4 := blk_frozen BK226.out 4; have hfz24_5 := blk_frozen BK226.out 5; have hfz24_6 := blk_frozen BK226.out 6; have hfz24_7 := blk_frozen BK226.out 7; have hfz24_8 := blk_frozen BK226.out 8) | ((with_reducible refine gate_callee (f := 28) rfl ?_); refine goesL_ (some 28) rfl rfl Tryd.func28 (by kernel_rfl) rfl #[.slice A1 l1.length c1, .int .i64 t216, .int .i64 (wrap64 (Int.tdiv (8380416 : Int) (wrap64 (2 * t223))))] rfl (by (try simp only [List.map_toArray, List.map_cons, List.map_nil]); first | done | rfl | (simp only [List.length_drop, List.length_take]; rfl)) ?_; (with_reducible refine (lay_whole.calls _ _ l1 t216 (wrap64 (Int.tdiv (8380416 : Int) (wrap64 (2 * t223)))) false _ ?side1 ?side2 A6.out).mono ?_); (case side1 => exact Kd.C_below HR1.out (by repeat (first | (with_reducible first | exact HB.out | apply below_alloc | apply pw_below_drewN | apply below_drew1 | refine below_set ?_ GE226.out) | exact HB.out))); (case side2 => exact HC1.out); rintro e w25 ⟨rfl, hb⟩; refine ⟨_, rfl, ?_⟩; have n0_ := Aside0.mk (blk_below (g := gb226) (o := .cells #[.int .i64 t216, .int .i64 t217, .int .i64 t218, .int .i64 t219, .int .i64 t220, .int .i64 t221, .int .i64 t222, .int .i64 t223, .int .i64 t224] 26 (0, 0)) (by (with_reducible repeat (first | refine blk_drewN ?_ _ | refine blk_drew ?_ | refine blk_alloc ?_ _)); refine blk_put (cs := #[.int .i64 t216, .int .i64 t217, .int .i64 t218, .int .i64 t219, .int .i64 t220, .int .i64 t221, .int .i64 t222, .int .i64 t223, .int .i64 0]) ?_ 8 _ rfl; (with_reducible repeat (first | refine blk_drewN ?_ _ | refine blk_drew ?_ | refine blk_alloc ?_ _)); refine blk_put (cs := #[.int .i64 t216, .int .i64 t217, .int .i64 t218, .int .i64 t219, .int .i64 t220, .int .i64 t221, .int .i64 t222, .int .i64 0, .int .i64 0]) ?_ 7 _ rfl; (with_reducible repeat (first | refine blk_drewN ?_ _ | refine blk_drew ?_ | refine blk_alloc ?_ _)); refine blk_put (cs := #[.int .i64 t216, .int .i64 t217, .int .i64 t218, .int .i64 t219, .int .i64 t220, .int .i64 t221, .int .i64 0, .int .i64 0, .int .i64 0]) ?_ 6 _ rfl; (with_reducible repeat (first | refine blk_drewN ?_ _ | refine blk_drew ?_ | refine blk_alloc ?_ _)); refine blk_put (cs := #[.int .i64 t216, .int .i64 t217, .int .i64 t218, .int .i64 t219, .int .i64 t220, .int .i64 0, .int .i64 0, .int .i64 0, .int .i64 0]) ?_ 5 _ rfl; (with_reducible repeat (first | refine blk_drewN ?_ _ | refine blk_drew ?_ | refine blk_alloc ?_ _)); refine blk_put (cs := #[.int .i64 t216, .int .i64 t217, .int .i64 t218, .int .i64 t219, .int .i64 0, .int .i64 0, .int .i64 0, .int .i64 0, .int .i64 0]) ?_ 4 _ rfl; (with_reducible repeat (first | refine blk_drewN ?_ _ | refine blk_drew ?_ | refine blk_alloc ?_ _)); refine blk_put (cs := #[.int .i64 t216, .int .i64 t217, .int .i64 t218, .int .i64 0, .int .i64 0, .int .i64 0, .int .i64 0, .int .i64 0, .int .i64 0]) ?_ 3 _ rfl; (with_reducible repeat (first | refine blk_drewN ?_ _ | refine blk_drew ?_ | refine blk_alloc ?_ _)); refine blk_put (cs := #[.int .i64 t216, .int .i64 t217, .int .i64 0, .int .i64 0, .int .i64 0, .int .i64 0, .int .i64 0, .int .i64 0, .int .i64 0]) ?_ 2 _ rfl; (with_reducible repeat (first | refine blk_drewN ?_ _ | refine blk_drew ?_ | refine blk_alloc ?_ _)); refine blk_put (cs := #[.int .i64 t216, .int .i64 0, .int .i64 0, .int .i64 0, .int .i64 0, .int .i64 0, .int .i64 0, .int .i64 0, .int .i64 0]) ?_ 1 _ rfl; (with_reducible repeat (first | refine blk_drewN ?_ _ | refine blk_drew ?_ | refine blk_alloc ?_ _)); refine blk_put (cs := #[.int .i64 0, .int .i64 0, .int .i64 0, .int .i64 0, .int .i64 0, .int .i64 0, .int .i64 0, .int .i64 0, .int .i64 0]) ?_ 0 _ rfl; (with_reducible repeat (first | refine blk_drewN ?_ _ | refine blk_drew ?_ | refine blk_alloc ?_ _)); exact BK226.out) hb); have n1_ := Aside0.mk (below_step (by repeat (first | (with_reducible first | exact HB.out | apply below_alloc | apply pw_below_drewN | apply below_drew1 | refine below_set ?_ GE226.out) | exact HB.out)) hb); clear BK226; clear HB; have BK226 := n0_; have HB := n1_; clear n0_ n1_; (try clear hb); (try clear hb2); (try clear hk); (try clear hi); (try clear A6)) | ((with_reducible refine gate_callee (f := 27) rfl ?_); refine goesL_ (some 30) rfl rfl Tryd.func27 (by kernel_rfl) rfl #[.int .i64 3] rfl (by (try simp only [List.map_toArray, List.map_cons, List.map_nil]); first | done | rfl | (simp only [List.length_drop, List.length_take]; rfl)) ?_; (with_reducible refine (lay_fault.calls 3 t231 _ A21.out).mono ?_); rintro e w26 ⟨v232, rfl, ho0, hb⟩; refine ⟨_, rfl, ?_⟩; have n0_ := Aside0.mk (Kd.R_lower ho0 (below_size (by repeat (first | (with_reducible first | exact HB.out | apply below_alloc | apply pw_below_drewN | apply below_drew1 | refine below_set ?_ GE226.out) | exact HB.out)))); have n1_ := Aside0.mk (blk_below (g := gb226) (o := .cells #[.int .i64 t216, .int .i64 t217, .int .i64 t218, .int .i64 t219, .int .i64 t220, .int .i64 t221, .int .i64 t222, .int .i64 t223, .int .i64 t224] 26 (0, 0)) (by (with_reducible repeat (first | refine blk_drewN ?_ _ | refine blk_drew ?_ | refine blk_alloc ?_ _)); exact BK226.out) hb); have n2_ := Aside0.mk (below_step (by repeat (first | (with_reducible first | exact HB.out | apply below_alloc | apply pw_below_drewN | apply below_drew1 | refine below_set ?_ GE226.out) | exact HB.out)) hb); clear BK226; clear HB; have HO233 := n0_; have BK226 := n1_; have HB := n2_; clear n0_ n1_ n2_; (try clear hb); (try clear hb2); (try clear hk); (try clear hi); (try clear ho0); (try clear A21)))
        go_ret2
        exact ⟨_, _, by first | rfl | (simp [errW_none, errW_some] <;> rfl) | (simp [*, errW_none, errW_some] <;> rfl), by first | exact Kd.R_nil _ _ _ _ _ | exact Kd.N_nil _ _ _ _ _ | exact Kd.V_nil _ _ _ _ _ | exact Kd.Q_nil _ _ _ _ _ | exact Kd.S_nil _ _ _ _ _, by (with_reducible repeat (first | apply Kd.R_alloc | apply Kd.R_drewN | apply Kd.R_drew)); exact HO233.out, by repeat (first | (with_reducible first | exact HB.out | apply below_alloc | apply pw_below_drewN | apply below_drew1 | refine below_set ?_ GE226.out) | exact HB.out)⟩
  · replace c4 := Bool.eq_false_iff.mpr c4
    subst c4
    have H1 : ((lay_fault.f 2).bind fun t227 => (some (([] : List Int), t227))) = some (r1, r2) := by rw [if_neg (show ¬ (false = true) by decide)] at H; exact H
    clear H
    have H := H1
    clear H1
    replace H := Option.bind_eq_some_iff.mp H
    obtain ⟨t227, A270, H⟩ := H
    replace H : (some (([] : List Int), t227)) = some (r1, r2) := H
    have A27 := Aside0.mk A270
    clear A270
    simp only [Option.some.injEq, Prod.mk.injEq] at H
    obtain ⟨rfl, rfl⟩ := H
    go_enter Tryd.func10, Tryd.ntmps10
    go_wp2_with (first | ((with_reducible refine gate_callee (f := 8) rfl ?_); refine goesL_ (some 14) rfl rfl Tryd.func8 (by kernel_rfl) rfl #[.int .i64 a0] rfl (by (try simp only [List.map_toArray, List.map_cons, List.map_nil]); first | done | rfl | (simp only [List.length_drop, List.length_take]; rfl)) ?_; (with_reducible refine (lay_Of.calls a0 t216 t217 t218 t219 t220 t221 t222 t223 t224 false _ A3.out).mono ?_); rintro e w28 ⟨rfl, hb⟩; refine ⟨_, rfl, ?_⟩; have n0_ := Aside0.mk (below_step (by repeat (first | (with_reducible first | exact HB.out | apply below_alloc | apply pw_below_drewN | apply below_drew1) | exact HB.out)) hb); clear HB; have HB := n0_; clear n0_; (try clear hb); (try clear hb2); (try clear hk); (try clear hi); (try clear A3)) | ((with_reducible refine gate_dst (N := 6) rfl ?_); refine box_event ?hg (N := 6) ?hd (cs := #[.int .i64 0, .int .i64 0, .int .i64 0, .int .i64 0, .int .i64 0, .int .i64 0, .int .i64 0, .int .i64 0, .int .i64 0]) (t := 26) ?hr ?_; (case hd => rfl); (case hg => rfl); (case hr => first | (go_simp; done) | (go_simp; rfl)); intro gb226 hg w29 hbox hb; have n0_ := Aside0.mk (below_step (by repeat (first | (with_reducible first | exact HB.out | apply below_alloc | apply pw_below_drewN | apply below_drew1) | exact HB.out)) hb); have n1_ := Aside0.mk (hbox); have n2_ := Aside0.mk ((by rw [hg]; exact (below_size (by repeat (first | (with_reducible first | exact HB.out | apply below_alloc | apply pw_below_drewN | apply below_drew1) | exact HB.out))) : w.heap.size ≤ gb226)); have n3_ := Aside0.mk ((by rw [hg]; exact (below_size (by repeat (first | (with_reducible first | exact HB.out | apply below_alloc | apply pw_below_drewN | apply below_drew1) | exact HB.out))) : w.heap.size ≤ gb226)); clear HB; have HB := n0_; have BK226 := n1_; have GW226 := n2_; have GE226 := n3_; clear n0_ n1_ n2_ n3_; clear hb hbox hg; have hcz30_0 : w29.cell? ⟨gb226, 0, none⟩ = some (.int .i64 0) := (blk_cell BK226.out 0).trans rfl; have hcz30_1 : w29.cell? ⟨gb226, 1, none⟩ = some (.int .i64 0) := (blk_cell BK226.out 1).trans rfl; have hcz30_2 : w29.cell? ⟨gb226, 2, none⟩ = some (.int .i64 0) := (blk_cell BK226.out 2).trans rfl; have hcz30_3 : w29.cell? ⟨gb226, 3, none⟩ = some (.int .i64 0) := (blk_cell BK226.out 3).trans rfl; have hcz30_4 : w29.cell? ⟨gb226, 4, none⟩ = some (.int .i64 0) := (blk_cell BK226.out 4).trans rfl; have hcz30_5 : w29.cell? ⟨gb226, 5, none⟩ = some (.int .i64 0) := (blk_cell BK226.out 5).trans rfl; have hcz30_6 : w29.cell? ⟨gb226, 6, none⟩ = some (.int .i64 0) := (blk_cell BK226.out 6).trans rfl; have hcz30_7 : w29.cell? ⟨gb226, 7, none⟩ = some (.int .i64 0) := (blk_cell BK226.out 7).trans rfl; have hcz30_8 : w29.cell? ⟨gb226, 8, none⟩ = some (.int .i64 0) := (blk_cell BK226.out 8).trans rfl; have hfz30_0 := blk_frozen BK226.out 0; have hfz30_1 := blk_frozen BK226.out 1; have hfz30_2 := blk_frozen BK226.out 2; have hfz30_3 := blk_frozen BK226.out 3; have hfz30_4 := blk_frozen BK226.out 4; have hfz30_5 := blk_frozen BK226.out 5; have hfz30_6 := blk_frozen BK226.out 6; have hfz30_7 := blk_frozen BK226.out 7; have hfz30_8 := blk_frozen BK226.out 8) | ((with_reducible refine gate_callee (f := 27) rfl ?_); refine goesL_ (some 19) rfl rfl Tryd.func27 (by kernel_rfl) rfl #[.int .i64 2] rfl (by (try simp only [List.map_toArray, List.map_cons, List.map_nil]); first | done | rfl | (simp only [List.length_drop, List.length_take]; rfl)) ?_; (with_reducible refine (lay_fault.calls 2 t227 _ A27.out).mono ?_); rintro e w31 ⟨v228, rfl, ho0, hb⟩; refine ⟨_, rfl, ?_⟩; have n0_ := Aside0.mk (Kd.R_lower ho0 (below_size (by repeat (first | (with_reducible first | exact HB.out | apply below_alloc | apply pw_below_drewN | apply below_drew1 | refine below_set ?_ GE226.out) | exact HB.out)))); have n1_ := Aside0.mk (blk_below (g := gb226) (o := .cells #[.int .i64 t216, .int .i64 t217, .int .i64 t218, .int .i64 t219, .int .i64 t220, .int .i64 t221, .int .i64 t222, .int .i64 t223, .int .i64 t224] 26 (0, 0)) (by (with_reducible repeat (first | refine blk_drewN ?_ _ | refine blk_drew ?_ | refine blk_alloc ?_ _)); refine blk_put (cs := #[.int .i64 t216, .int .i64 t217, .int .i64 t218, .int .i64 t219, .int .i64 t220, .int .i64 t221, .int .i64 t222, .int .i64 t223, .int .i64 0]) ?_ 8 _ rfl; (with_reducible repeat (first | refine blk_drewN ?_ _ | refine blk_drew ?_ | refine blk_alloc ?_ _)); refine blk_put (cs := #[.int .i64 t216, .int .i64 t217, .int .i64 t218, .int .i64 t219, .int .i64 t220, .int .i64 t221, .int .i64 t222, .int .i64 0, .int .i64 0]) ?_ 7 _ rfl; (with_reducible repeat (first | refine blk_drewN ?_ _ | refine blk_drew ?_ | refine blk_alloc ?_ _)); refine blk_put (cs := #[.int .i64 t216, .int .i64 t217, .int .i64 t218, .int .i64 t219, .int .i64 t220, .int .i64 t221, .int .i64 0, .int .i64 0, .int .i64 0]) ?_ 6 _ rfl; (with_reducible repeat (first | refine blk_drewN ?_ _ | refine blk_drew ?_ | refine blk_alloc ?_ _)); refine blk_put (cs := #[.int .i64 t216, .int .i64 t217, .int .i64 t218, .int .i64 t219, .int .i64 t220, .int .i64 0, .int .i64 0, .int .i64 0, .int .i64 0]) ?_ 5 _ rfl; (with_reducible repeat (first | refine blk_drewN ?_ _ | refine blk_drew ?_ | refine blk_alloc ?_ _)); refine blk_put (cs := #[.int .i64 t216, .int .i64 t217, .int .i64 t218, .int .i64 t219, .int .i64 0, .int .i64 0, .int .i64 0, .int .i64 0, .int .i64 0]) ?_ 4 _ rfl; (with_reducible repeat (first | refine blk_drewN ?_ _ | refine blk_drew ?_ | refine blk_alloc ?_ _)); refine blk_put (cs := #[.int .i64 t216, .int .i64 t217, .int .i64 t218, .int .i64 0, .int .i64 0, .int .i64 0, .int .i64 0, .int .i64 0, .int .i64 0]) ?_ 3 _ rfl; (with_reducible repeat (first | refine blk_drewN ?_ _ | refine blk_drew ?_ | refine blk_alloc ?_ _)); refine blk_put (cs := #[.int .i64 t216, .int .i64 t217, .int .i64 0, .int .i64 0, .int .i64 0, .int .i64 0, .int .i64 0, .int .i64 0, .int .i64 0]) ?_ 2 _ rfl; (with_reducible repeat (first | refine blk_drewN ?_ _ | refine blk_drew ?_ | refine blk_alloc ?_ _)); refine blk_put (cs := #[.int .i64 t216, .int .i64 0, .int .i64 0, .int .i64 0, .int .i64 0, .int .i64 0, .int .i64 0, .int .i64 0, .int .i64 0]) ?_ 1 _ rfl; (with_reducible repeat (first | refine blk_drewN ?_ _ | refine blk_drew ?_ | refine blk_alloc ?_ _)); refine blk_put (cs := #[.int .i64 0, .int .i64 0, .int .i64 0, .int .i64 0, .int .i64 0, .int .i64 0, .int .i64 0, .int .i64 0, .int .i64 0]) ?_ 0 _ rfl; (with_reducible repeat (first | refine blk_drewN ?_ _ | refine blk_drew ?_ | refine blk_alloc ?_ _)); exact BK226.out) hb); have n2_ := Aside0.mk (below_step (by repeat (first | (with_reducible first | exact HB.out | apply below_alloc | apply pw_below_drewN | apply below_drew1 | refine below_set ?_ GE226.out) | exact HB.out)) hb); clear BK226; clear HB; have HO229 := n0_; have BK226 := n1_; have HB := n2_; clear n0_ n1_ n2_; (try clear hb); (try clear hb2); (try clear hk); (try clear hi); (try clear ho0); (try clear A27)))
    go_ret2
    exact ⟨_, _, by first | rfl | (simp [errW_none, errW_some] <;> rfl) | (simp [*, errW_none, errW_some] <;> rfl), by first | exact Kd.R_nil _ _ _ _ _ | exact Kd.N_nil _ _ _ _ _ | exact Kd.V_nil _ _ _ _ _ | exact Kd.Q_nil _ _ _ _ _ | exact Kd.S_nil _ _ _ _ _, by (with_reducible repeat (first | apply Kd.R_alloc | apply Kd.R_drewN | apply Kd.R_drew)); exact HO229.out, by repeat (first | (with_reducible first | exact HB.out | apply below_alloc | apply pw_below_drewN | apply below_drew1 | refine below_set ?_ GE226.out) | exact HB.out)⟩

end Go.Proofs.YtggiddekbocokaaDoor.PLR
end
section
/- What packing and unpacking numbers computes: digits of one number. -/
namespace Go.Proofs.YtggiddekbocokaaDoor.PackH
open Go.RowKit Go.Proofs.YtggiddekbocokaaDoor.PLR Go.Proofs.YtggiddekbocokaaDoorW.PrintWords Go.Proofs.YtggiddekbocokaaDoorW.PrintLast Go.Proofs.YtggiddekbocokaaDoorW.PrintMore

theorem bnd {α β : Type} {o : Option α} {x : α} {f : α → Option β} {r : Option β} (h : o = some x) (k : f x = r) : o.bind f = r := by rw [h]; exact k
theorem ifp {α : Type} {c : Prop} [Decidable c] {a b r : α} (h : c) (k : a = r) : (if c then a else b) = r := by rw [if_pos h]; exact k
theorem ifn {α : Type} {c : Prop} [Decidable c] {a b r : α} (h : ¬ c) (k : b = r) : (if c then a else b) = r := by rw [if_neg h]; exact k
theorem w64 {n : Int} (h0 : -9223372036854775808 ≤ n) (h1 : n ≤ 9223372036854775807) : wrap64 n = n := by unfold wrap64; omega
theorem rdI (l : List Int) (i : Nat) (h : i < l.length) : rd l (i : Int) = l[i] := by
  unfold rd
  rw [Int.toNat_natCast, List.getD_eq_getElem?_getD, List.getElem?_eq_getElem h]
  rfl
theorem wraps_i64 (n : Int) (h₀ : 0 ≤ n) (h₁ : n < 2 ^ 63) : IntKind.i64.wrap n = n := by rw [IntKind.wrap_i64]; omega
/-- Numbers of d bits each, the first the lowest. -/
def val (d : Nat) : List Int → Nat
  | [] => 0
  | x :: r => x.toNat + 2 ^ d * val d r
/-- So many digits to the base 256, the lowest first. -/
def digs : Nat → Nat → List Int
  | 0, _ => []
  | n + 1, m => ((m % 256 : Nat) : Int) :: digs n (m / 256)
theorem digs_len : ∀ (n m : Nat), (digs n m).length = n
  | 0, _ => rfl
  | n + 1, m => by rw [digs, List.length_cons, digs_len n]
theorem or_add (h x i : Nat) (hi : i ≤ 63) (hh : h < 2 ^ i) (hx : x % 2 ^ i = 0) (hb : x < 2 ^ 63) : Go.bits .or .i64 (h : Int) (x : Int) = ((h + x : Nat) : Int) := by
  have h63 : h < 2 ^ 63 := Nat.lt_of_lt_of_le hh (Nat.pow_le_pow_right (by decide) hi)
  rw [(bits_nat .i64 63 (by decide) wraps_i64 h x h63 hb).2]
  have hq : x = 2 ^ i * (x / 2 ^ i) := by
    have := Nat.div_add_mod x (2 ^ i)
    omega
  have := Nat.two_pow_add_eq_or_of_lt hh (x / 2 ^ i)
  rw [← hq] at this
  rw [Nat.or_comm, ← this, Nat.add_comm]
/-! ### Packing -/
theorem pack_step (d n x h : Nat) (hn : n < 8) (hd : d ≤ 24) (hx : x < 2 ^ d) (hh : h < 2 ^ n) :
    Go.bits .or .i64 (h : Int) (shl .i64 (x : Int) (n : Int)) = ((h + x * 2 ^ n : Nat) : Int) ∧ h + x * 2 ^ n < 2 ^ (n + d) := by
  have h1 : x * 2 ^ n < 2 ^ (n + d) := by rw [Nat.add_comm n d, Nat.pow_add]; exact Nat.mul_lt_mul_of_pos_right hx (Nat.two_pow_pos n)
  have h2 : (2 : Nat) ^ (n + d) ≤ 2 ^ 31 := Nat.pow_le_pow_right (by decide) (by omega)
  have hs : shl .i64 (x : Int) (n : Int) = ((x * 2 ^ n : Nat) : Int) := by
    unfold shl
    rw [Int.toNat_natCast, Nat.min_eq_left (by simp only [IntKind.bits]; omega), show (x : Int) * 2 ^ n = ((x * 2 ^ n : Nat) : Int) by push_cast; rfl]
    exact wraps_i64 _ (by omega) (by have := Nat.lt_of_lt_of_le h1 h2; omega)
  refine ⟨by rw [hs]; exact or_add h _ n (by omega) hh (Nat.mul_mod_left _ _) (by omega), ?_⟩
  have h3 : h + x * 2 ^ n < 2 ^ n + x * 2 ^ n := by omega
  have h4 : 2 ^ n + x * 2 ^ n = (x + 1) * 2 ^ n := by rw [Nat.add_mul]; omega
  have h5 : (x + 1) * 2 ^ n ≤ 2 ^ d * 2 ^ n := Nat.mul_le_mul_right _ hx
  rw [Nat.pow_add, Nat.mul_comm (2 ^ n)]
  omega
theorem digs_step (n h V t : Nat) (hn : 8 ≤ n) (ht : 1 ≤ t) : digs t (h + 2 ^ n * V) = ((h % 256 : Nat) : Int) :: digs (t - 1) (h / 256 + 2 ^ (n - 8) * V) := by
  obtain ⟨t', rfl⟩ : ∃ t', t = t' + 1 := ⟨t - 1, by omega⟩
  have hp : (2 : Nat) ^ n * V = 256 * (2 ^ (n - 8) * V) := by
    rw [← Nat.mul_assoc, show (256 : Nat) = 2 ^ 8 by decide, ← Nat.pow_add]
    congr 2
    omega
  rw [digs, hp, Nat.add_mul_mod_self_left, Nat.add_mul_div_left _ _ (by decide)]
  rfl
/-- Are numbers such of d bits? -/
def fit (d : Nat) (xs : List Int) : Prop := ∀ x ∈ xs, 0 ≤ x ∧ x < (2 ^ d : Nat)
theorem pack_all (d : Nat) (hd1 : 1 ≤ d) (hd : d ≤ 24) (xs : List Int) (hxs : fit d xs) (hl : xs.length < 4294967296) : ∀ k : Nat,
    (∀ (m i n h : Nat) (out : List Int), i + m = xs.length → n < 8 → h < 2 ^ n → 6 * m + 1 ≤ k → out.length + 4 * m + 4 < 140737488355328 →
      bits_Pack.l0 k (d : Int) out (h : Int) (n : Int) xs (xs.length : Int) (i : Int) = some (out ++ digs ((n + d * m + 7) / 8) (h + 2 ^ n * val d (xs.drop i)))) ∧
    (∀ (m i n h : Nat) (out : List Int), i + m + 1 = xs.length → n ≤ 31 → h < 2 ^ n → 6 * m + n / 8 + 2 ≤ k → out.length + n / 8 + 4 * m + 4 < 140737488355328 →
      bits_Pack.l1 k (d : Int) out (h : Int) (n : Int) xs (xs.length : Int) (i : Int) = some (out ++ digs ((n + d * m + 7) / 8) (h + 2 ^ n * val d (xs.drop (i + 1)))))
  | 0 => ⟨fun _ _ _ _ _ _ _ _ hk => by omega, fun _ _ _ _ _ _ _ _ hk => by omega⟩
  | 1 => by
    refine ⟨fun m i n h out hi hn hh hk ho => ?_, fun _ _ _ _ _ _ _ _ hk => by omega⟩
    obtain rfl : m = 0 := by omega
    rw [bits_Pack.l0, if_neg (by omega), List.drop_of_length_le (by omega)]
    by_cases c : n = 0
    · subst c
      rw [if_neg (by omega)]
      simp [digs]
    · rw [if_pos (by omega), if_pos (by omega), show (n + d * 0 + 7) / 8 = 1 by omega]
      simp [digs, val]
  | k + 2 => by
    have ih1 := pack_all d hd1 hd xs hxs hl (k + 1)
    have ih0 := pack_all d hd1 hd xs hxs hl k
    constructor
    · intro m i n h out hi hn hh hk ho
      cases m with
      | zero =>
        rw [bits_Pack.l0, if_neg (by omega), List.drop_of_length_le (by omega)]
        by_cases c : n = 0
        · subst c
          rw [if_neg (by omega)]
          simp [digs]
        · rw [if_pos (by omega), if_pos (by omega), show (n + d * 0 + 7) / 8 = 1 by omega]
          simp [digs, val]
      | succ m =>
        have hil : i < xs.length := by omega
        obtain ⟨hx0, hx1⟩ := hxs xs[i] (List.getElem_mem hil)
        obtain ⟨x, hx⟩ := Int.eq_ofNat_of_zero_le hx0
        have hxd : x < 2 ^ d := by rw [hx] at hx1; exact_mod_cast hx1
        obtain ⟨hor, hlt⟩ := pack_step d n x h hn hd hxd hh
        have e : xs.drop i = xs[i] :: xs.drop (i + 1) := (List.getElem_cons_drop hil).symm
        rw [bits_Pack.l0, if_pos (by omega), if_pos (by omega), if_pos (by omega), rdI xs i hil, hx, if_neg (by omega), if_pos (by omega)]
        have hshr : shr .i64 (x : Int) (d : Int) = 0 := by
          unfold shr
          rw [Int.toNat_natCast, Nat.min_eq_left (by simp only [IntKind.bits]; omega)]
          exact Int.ediv_eq_zero_of_lt (by omega) (by exact_mod_cast hxd)
        rw [hshr, bits_Pack.j2, if_neg (by simp), if_pos (by omega), hor, w64 (by omega) (by omega), show (n : Int) + (d : Int) = ((n + d : Nat) : Int) by omega,
          ih0.2 m i (n + d) (h + x * 2 ^ n) out (by omega) (by omega) hlt (by omega) (by omega), e, val, hx, Int.toNat_natCast]
        congr 3
        · rw [Nat.mul_add]; omega
        · rw [Nat.mul_add, Nat.pow_add, Nat.mul_comm x, Nat.mul_assoc]; omega
    · intro m i n h out hi hn hh hk ho
      rw [bits_Pack.l1]
      by_cases c : 8 ≤ n
      · have hh8 : h / 256 < 2 ^ (n - 8) := by
          rw [Nat.div_lt_iff_lt_mul (by decide), show (256 : Nat) = 2 ^ 8 by decide, ← Nat.pow_add, show n - 8 + 8 = n by omega]
          exact hh
        rw [if_pos (by omega), if_pos (by omega), w64 (by omega) (by omega), show (n : Int) - 8 = ((n - 8 : Nat) : Int) by omega, show (h : Int) % 256 = ((h % 256 : Nat) : Int) by omega, show (h : Int) / 256 = ((h / 256 : Nat) : Int) by omega,
          ih1.2 m i (n - 8) (h / 256) _ hi (by omega) hh8 (by omega) (by rw [List.length_append]; simp only [List.length_cons, List.length_nil]; omega),
          digs_step n h _ ((n + d * m + 7) / 8) c (by omega), List.append_assoc, List.cons_append, List.nil_append]
        congr 4
        omega
      · rw [if_neg (by omega), w64 (by omega) (by omega), show (i : Int) + 1 = ((i + 1 : Nat) : Int) by omega, ih1.1 m (i + 1) n h out (by omega) (by omega) hh (by omega) (by omega)]
theorem pack_ok (k d : Nat) (hd1 : 1 ≤ d) (hd : d ≤ 24) (xs : List Int) (hxs : fit d xs) (hl : xs.length < 4294967296) (hk : 6 * xs.length + 2 ≤ k) :
    bits_Pack.f k (d : Int) xs = some (digs ((d * xs.length + 7) / 8) (val d xs)) := by
  obtain ⟨k, rfl⟩ : ∃ k', k = k' + 1 := ⟨k - 1, by omega⟩
  rw [bits_Pack.f, if_neg (by omega), decide_eq_false (by omega), bits_Pack.j0, if_neg (by simp)]
  have := (pack_all d hd1 hd xs hxs hl k).1 xs.length 0 0 0 [] (by omega) (by omega) (by simp) (by omega) (by simp only [List.length_nil]; omega)
  rw [Int.natCast_zero] at this
  rw [this]
  simp
/-! ### Unpacking -/
/-- So many numbers of d bits each, the lowest first. -/
def unp (d : Nat) : Nat → Nat → List Int
  | 0, _ => []
  | n + 1, m => ((m % 2 ^ d : Nat) : Int) :: unp d n (m / 2 ^ d)
theorem val_lt (d : Nat) : ∀ (xs : List Int), fit d xs → val d xs < 2 ^ (d * xs.length)
  | [], _ => by simp [val]
  | x :: r, h => by
    obtain ⟨h0, h1⟩ := h x (List.mem_cons_self ..)
    have ih := val_lt d r (fun y hy => h y (List.mem_cons_of_mem _ hy))
    obtain ⟨y, hy⟩ := Int.eq_ofNat_of_zero_le h0
    rw [hy] at h1
    have hyd : y < 2 ^ d := by exact_mod_cast h1
    rw [val, hy, Int.toNat_natCast, List.length_cons, Nat.mul_add, Nat.mul_one, Nat.pow_add]
    have h3 : 2 ^ d * (val d r + 1) ≤ 2 ^ d * 2 ^ (d * r.length) := Nat.mul_le_mul_left _ ih
    rw [Nat.mul_add, Nat.mul_one] at h3
    rw [Nat.mul_comm (2 ^ (d * r.length))]
    omega
end Go.Proofs.YtggiddekbocokaaDoor.PackH
end
section
namespace Go.Proofs.YtggiddekbocokaaDoor.LayM
open Go.RowKit Go.Proofs.YtggiddekbocokaaDoor.PLR Go.Proofs.YtggiddekbocokaaDoor.PackH Go.Proofs.YtggiddekbocokaaDoorW.PrintWords Go.Proofs.YtggiddekbocokaaDoorW.PrintLast Go.Proofs.YtggiddekbocokaaDoorW.PrintMore

theorem awake_yes : chatelainelaw11_awake.f 100000 = some true := by decide +kernel
/-- A poly's bytes. -/
def pk (d : Nat) (f : List Int) : List Int := digs ((d * f.length + 7) / 8) (val d f)
theorem same_l0 (a b : List Int) (hl : a.length = b.length) (hb : a.length < 140737488355328) : ∀ (m i k : Nat), i + m = a.length → m < k → chatelainelaw0_SameBytes.l0 k a b (i : Int) = some (decide (a.drop i = b.drop i))
  | 0, i, k + 1, hi, hk => by
    rw [chatelainelaw0_SameBytes.l0, if_neg (by omega), List.drop_of_length_le (by omega), List.drop_of_length_le (by omega)]
    simp
  | m + 1, i, k + 1, hi, hk => by
    have e1 : a.drop i = a[i] :: a.drop (i + 1) := (List.getElem_cons_drop (by omega)).symm
    have e2 : b.drop i = b[i] :: b.drop (i + 1) := (List.getElem_cons_drop (by omega)).symm
    rw [chatelainelaw0_SameBytes.l0, if_pos (by omega), if_pos (by omega), if_pos (by omega), rdI a i (by omega), rdI b i (by omega), e1, e2]
    by_cases h : a[i] = b[i]
    · rw [if_pos h, w64 (by omega) (by omega), show (i : Int) + 1 = ((i + 1 : Nat) : Int) by omega, same_l0 a b hl hb m (i + 1) k (by omega) (by omega)]
      simp only [List.cons.injEq, h, true_and]
    · rw [if_neg h]
      simp only [List.cons.injEq, h, false_and, decide_false]
theorem same (k : Nat) (a b : List Int) (hb : a.length < k) (hk : k < 140737488355328) : chatelainelaw0_SameBytes.f k a b = some (decide (a = b)) := by
  unfold chatelainelaw0_SameBytes.f
  by_cases h : (a.length : Int) = (b.length : Int)
  · rw [if_pos h]
    have := same_l0 a b (by omega) (by omega) a.length 0 k (by omega) (by omega)
    rw [List.drop_zero, List.drop_zero] at this
    exact this
  · rw [if_neg h]
    have : a ≠ b := fun e => h (by rw [e])
    simp [this]
theorem same_yes (k : Nat) (a b : List Int) (hb : a.length < k) (hk : k < 140737488355328) (h : a = b) : chatelainelaw0_SameBytes.f k a b = some true := by rw [same k a b hb hk]; simp [h]
/-- The bounds that are met: how many polys, below what, in how many bits. -/
structure Par where
  s : Nat
  K : Nat
  G : Int
  m : Nat
  d : Nat
  hK : 1 ≤ K ∧ K ≤ 8
  hm : 1 ≤ m ∧ m ≤ 2 ^ d ∧ m < 100
  hd : 1 ≤ d ∧ d ≤ 6
  hG : wrap64 (Int.tdiv 8380416 (wrap64 (2 * G))) = (m : Int)
  hG0 : ¬ wrap64 (2 * G) = 0
  hG1 : ¬ G < 1
  hof : ∃ a1 a2 a3 a4 a5 a6 a8, lay_Of.f (s : Int) = some ((K : Int), a1, a2, a3, a4, a5, a6, G, a8, true)
  hlong : ∀ k, lay_long.f (k + 3) 0 (wrap64 ((m : Int) - 1)) = some (d : Int)
/-- A poly that may be laid. -/
def okp (p : Par) (f : List Int) : Prop := f.length = 256 ∧ ∀ x ∈ f, 0 ≤ x ∧ x < (p.m : Int)
theorem okp_fit (p : Par) (f : List Int) (h : okp p f) : fit p.d f := fun x hx => by
  have h1 := h.2 x hx
  have h2 := p.hm.2.1
  have h3 : (p.m : Int) ≤ ((2 ^ p.d : Nat) : Int) := by exact_mod_cast h2
  exact ⟨h1.1, by omega⟩
theorem pk_len (p : Par) (f : List Int) (h : okp p f) : (pk p.d f).length = 32 * p.d := by
  unfold pk
  rw [digs_len, h.1]
  omega
theorem rdL (l : List (List Int)) (i : Nat) (h : i < l.length) : rd_L3 l (i : Int) = l[i] := by
  unfold rd_L3
  rw [Int.toNat_natCast, List.getD_eq_getElem?_getD, List.getElem?_eq_getElem h]
  rfl
theorem high_l0 (p : Par) (w : List (List Int)) (hw : ∀ f ∈ w, okp p f) (hl : w.length ≤ 8) : ∀ (m i k : Nat) (out : List Int), i + m = w.length → 2000 + m < k → out.length + 200 * m < 100000 →
    lay_High.l0 k (p.m : Int) out w (w.length : Int) (i : Int) = some (out ++ (w.drop i).flatMap (pk p.d), [])
  | 0, i, k + 1, out, hi, _, _ => by
    rw [lay_High.l0, if_neg (by omega), List.drop_of_length_le (by omega)]
    simp
  | m + 1, i, k + 1, out, hi, hk, ho => by
    have hil : i < w.length := by omega
    have hf := hw w[i] (List.getElem_mem hil)
    have e : w.drop i = w[i] :: w.drop (i + 1) := (List.getElem_cons_drop hil).symm
    have hp := pack_ok k p.d p.hd.1 (by have := p.hd.2; omega) w[i] (okp_fit p _ hf) (by rw [hf.1]; omega) (by rw [hf.1]; omega)
    have hn := pk_len p _ hf
    obtain ⟨k', rfl⟩ : ∃ k', k = k' + 3 := ⟨k - 3, by omega⟩
    have hd6 := p.hd.2
    rw [lay_High.l0, if_pos (by omega), if_pos (by omega), if_pos (by omega), p.hlong k', Option.bind_some, rdL w i hil, hp, Option.bind_some, ← pk,
      if_pos (by rw [hn]; omega), w64 (by omega) (by omega), show (i : Int) + 1 = ((i + 1 : Nat) : Int) by omega,
      high_l0 p w hw hl m (i + 1) (k' + 3) _ (by omega) (by omega) (by rw [List.length_append, hn]; omega), e, List.flatMap_cons, List.append_assoc]
theorem whole_is (l : List (List Int)) (a b : Int) (hl : l.length < 1000) : lay_whole.f l a b = some (decide ((l.length : Int) = a) && !l.any (lay_bad b)) := by
  unfold lay_whole.f
  rw [if_pos (by omega)]
theorem bad_no (p : Par) (f : List Int) (h : okp p f) : lay_bad (p.m : Int) f = false := by
  unfold lay_bad
  rw [h.1]
  simp only [ne_eq, not_true_eq_false, decide_false, Bool.false_or, List.any_eq_false]
  intro x hx
  have := h.2 x hx
  simp only [lay_odd, Bool.or_eq_true, decide_eq_true_eq]
  omega
theorem high_yes (p : Par) (k : Nat) (w : List (List Int)) (hw : ∀ f ∈ w, okp p f) (hl : w.length = p.K) (hk : 3000 < k) : lay_High.f k (p.s : Int) w = some (w.flatMap (pk p.d), []) := by
  obtain ⟨a1, a2, a3, a4, a5, a6, a8, hof⟩ := p.hof
  have hK := p.hK
  unfold lay_High.f
  refine bnd hof (ifp rfl (ifn p.hG0 ?_))
  simp only [p.hG]
  refine bnd (whole_is w _ _ (by omega)) (ifp ?_ ?_)
  · rw [hl]
    have : w.any (lay_bad (p.m : Int)) = false := by
      rw [List.any_eq_false]
      intro f hf
      rw [bad_no p f (hw f hf)]
      simp
    rw [this]; simp
  · have := high_l0 p w hw (by omega) w.length 0 k [] (by omega) (by omega) (by simp; omega)
    rw [List.drop_zero, List.nil_append] at this
    exact this
theorem high_no (p : Par) (k : Nat) (w : List (List Int)) (hl : w.length < 1000) (h : w.length ≠ p.K ∨ ∃ f ∈ w, lay_bad (p.m : Int) f = true) : ∃ b, lay_High.f k (p.s : Int) w = some (b, [⟨3, ⟨#[108, 97, 121]⟩⟩]) := by
  obtain ⟨a1, a2, a3, a4, a5, a6, a8, hof⟩ := p.hof
  refine ⟨[], ?_⟩
  unfold lay_High.f
  refine bnd hof (ifp rfl (ifn p.hG0 ?_))
  simp only [p.hG]
  refine bnd (whole_is w _ _ hl) (ifn ?_ rfl)
  rcases h with h | ⟨f, hf, hb⟩
  · have : decide ((w.length : Int) = (p.K : Int)) = false := decide_eq_false (by omega)
    rw [this]; simp
  · have : w.any (lay_bad (p.m : Int)) = true := List.any_eq_true.mpr ⟨f, hf, hb⟩
    rw [this]; simp
end Go.Proofs.YtggiddekbocokaaDoor.LayM
end
section
/- What laying a poly, and reading one, computes. -/
namespace Go.Proofs.YtggiddekbocokaaDoor.PackH
open Go.RowKit Go.Proofs.YtggiddekbocokaaDoor.PLR Go.Proofs.YtggiddekbocokaaDoorW.PrintWords Go.Proofs.YtggiddekbocokaaDoorW.PrintLast Go.Proofs.YtggiddekbocokaaDoorW.PrintMore

/-! ### How many bits a number has -/
def lenTab : ByteArray := ⟨#[0, 1, 2, 2, 3, 3, 3, 3, 4, 4, 4, 4, 4, 4, 4, 4, 5, 5, 5, 5, 5, 5, 5, 5, 5, 5, 5, 5, 5, 5, 5, 5, 6, 6, 6, 6, 6, 6, 6, 6, 6, 6, 6, 6, 6, 6, 6, 6, 6, 6, 6, 6, 6, 6, 6, 6, 6, 6, 6, 6, 6, 6, 6, 6, 7, 7, 7, 7, 7, 7, 7, 7, 7, 7, 7, 7, 7, 7, 7, 7, 7, 7, 7, 7, 7, 7, 7, 7, 7, 7, 7, 7, 7, 7, 7, 7, 7, 7, 7, 7, 7, 7, 7, 7, 7, 7, 7, 7, 7, 7, 7, 7, 7, 7, 7, 7, 7, 7, 7, 7, 7, 7, 7, 7, 7, 7, 7, 7, 8, 8, 8, 8, 8, 8, 8, 8, 8, 8, 8, 8, 8, 8, 8, 8, 8, 8, 8, 8, 8, 8, 8, 8, 8, 8, 8, 8, 8, 8, 8, 8, 8, 8, 8, 8, 8, 8, 8, 8, 8, 8, 8, 8, 8, 8, 8, 8, 8, 8, 8, 8, 8, 8, 8, 8, 8, 8, 8, 8, 8, 8, 8, 8, 8, 8, 8, 8, 8, 8, 8, 8, 8, 8, 8, 8, 8, 8, 8, 8, 8, 8, 8, 8, 8, 8, 8, 8, 8, 8, 8, 8, 8, 8, 8, 8, 8, 8, 8, 8, 8, 8, 8, 8, 8, 8, 8, 8, 8, 8, 8, 8, 8, 8, 8, 8, 8, 8, 8, 8, 8, 8, 8, 8, 8, 8, 8, 8]⟩
theorem tab_ok : ∀ y : Fin 256, 0 < y.val → ∃ t : Fin 9, bt lenTab (y.val : Int) = (t.val : Int) ∧ 1 ≤ t.val ∧ y.val < 2 ^ t.val ∧ 2 ^ (t.val - 1) ≤ y.val := by decide +kernel
theorem tab_is (y : Nat) (h : y < 256) (h0 : 0 < y) : ∃ t : Nat, bt lenTab (y : Int) = (t : Int) ∧ 1 ≤ t ∧ t ≤ 8 ∧ y < 2 ^ t ∧ 2 ^ (t - 1) ≤ y := by
  obtain ⟨t, h1, h2, h3, h4⟩ := tab_ok ⟨y, h⟩ h0
  exact ⟨t.val, h1, h2, by have := t.isLt; omega, h3, h4⟩
theorem len_j0 (n : Nat) (h0 : 0 < n) (h1 : n < 16777216) : ∃ d : Nat, 1 ≤ d ∧ d ≤ 24 ∧ n < 2 ^ d ∧ 2 ^ (d - 1) ≤ n ∧ ∀ k, bits_Len64.j0 (k + 1) (n : Int) 0 = some (d : Int) := by
  by_cases c : 65536 ≤ n
  · obtain ⟨t, e, t1, t2, t3, t4⟩ := tab_is (n / 65536) (by omega) (by omega)
    refine ⟨16 + t, by omega, by omega, ?_, ?_, fun k => ?_⟩
    · rw [Nat.pow_add]
      omega
    · rw [show 16 + t - 1 = 16 + (t - 1) by omega, Nat.pow_add]
      omega
    · rw [bits_Len64.j0, if_pos (by omega), if_neg (by omega), if_pos (by omega), if_pos (by omega), show ((n : Int) / 65536) % 256 = ((n / 65536 : Nat) : Int) by omega]
      have e' : bt ⟨#[0, 1, 2, 2, 3, 3, 3, 3, 4, 4, 4, 4, 4, 4, 4, 4, 5, 5, 5, 5, 5, 5, 5, 5, 5, 5, 5, 5, 5, 5, 5, 5, 6, 6, 6, 6, 6, 6, 6, 6, 6, 6, 6, 6, 6, 6, 6, 6, 6, 6, 6, 6, 6, 6, 6, 6, 6, 6, 6, 6, 6, 6, 6, 6, 7, 7, 7, 7, 7, 7, 7, 7, 7, 7, 7, 7, 7, 7, 7, 7, 7, 7, 7, 7, 7, 7, 7, 7, 7, 7, 7, 7, 7, 7, 7, 7, 7, 7, 7, 7, 7, 7, 7, 7, 7, 7, 7, 7, 7, 7, 7, 7, 7, 7, 7, 7, 7, 7, 7, 7, 7, 7, 7, 7, 7, 7, 7, 7, 8, 8, 8, 8, 8, 8, 8, 8, 8, 8, 8, 8, 8, 8, 8, 8, 8, 8, 8, 8, 8, 8, 8, 8, 8, 8, 8, 8, 8, 8, 8, 8, 8, 8, 8, 8, 8, 8, 8, 8, 8, 8, 8, 8, 8, 8, 8, 8, 8, 8, 8, 8, 8, 8, 8, 8, 8, 8, 8, 8, 8, 8, 8, 8, 8, 8, 8, 8, 8, 8, 8, 8, 8, 8, 8, 8, 8, 8, 8, 8, 8, 8, 8, 8, 8, 8, 8, 8, 8, 8, 8, 8, 8, 8, 8, 8, 8, 8, 8, 8, 8, 8, 8, 8, 8, 8, 8, 8, 8, 8, 8, 8, 8, 8, 8, 8, 8, 8, 8, 8, 8, 8, 8, 8, 8, 8, 8, 8]⟩ ((n / 65536 : Nat) : Int) = (t : Int) := e
      rw [e', w64 (n := (t : Int)) (by omega) (by omega), w64 (n := (0 : Int) + 16) (by omega) (by omega), w64 (by omega) (by omega)]
      congr 1
  · by_cases c2 : 256 ≤ n
    · obtain ⟨t, e, t1, t2, t3, t4⟩ := tab_is (n / 256) (by omega) (by omega)
      refine ⟨8 + t, by omega, by omega, ?_, ?_, fun k => ?_⟩
      · rw [Nat.pow_add]
        omega
      · rw [show 8 + t - 1 = 8 + (t - 1) by omega, Nat.pow_add]
        omega
      · rw [bits_Len64.j0, if_neg (by omega), if_pos (by omega), if_pos (by omega), if_pos (by omega), show ((n : Int) / 256) % 256 = ((n / 256 : Nat) : Int) by omega]
        have e' : bt ⟨#[0, 1, 2, 2, 3, 3, 3, 3, 4, 4, 4, 4, 4, 4, 4, 4, 5, 5, 5, 5, 5, 5, 5, 5, 5, 5, 5, 5, 5, 5, 5, 5, 6, 6, 6, 6, 6, 6, 6, 6, 6, 6, 6, 6, 6, 6, 6, 6, 6, 6, 6, 6, 6, 6, 6, 6, 6, 6, 6, 6, 6, 6, 6, 6, 7, 7, 7, 7, 7, 7, 7, 7, 7, 7, 7, 7, 7, 7, 7, 7, 7, 7, 7, 7, 7, 7, 7, 7, 7, 7, 7, 7, 7, 7, 7, 7, 7, 7, 7, 7, 7, 7, 7, 7, 7, 7, 7, 7, 7, 7, 7, 7, 7, 7, 7, 7, 7, 7, 7, 7, 7, 7, 7, 7, 7, 7, 7, 7, 8, 8, 8, 8, 8, 8, 8, 8, 8, 8, 8, 8, 8, 8, 8, 8, 8, 8, 8, 8, 8, 8, 8, 8, 8, 8, 8, 8, 8, 8, 8, 8, 8, 8, 8, 8, 8, 8, 8, 8, 8, 8, 8, 8, 8, 8, 8, 8, 8, 8, 8, 8, 8, 8, 8, 8, 8, 8, 8, 8, 8, 8, 8, 8, 8, 8, 8, 8, 8, 8, 8, 8, 8, 8, 8, 8, 8, 8, 8, 8, 8, 8, 8, 8, 8, 8, 8, 8, 8, 8, 8, 8, 8, 8, 8, 8, 8, 8, 8, 8, 8, 8, 8, 8, 8, 8, 8, 8, 8, 8, 8, 8, 8, 8, 8, 8, 8, 8, 8, 8, 8, 8, 8, 8, 8, 8, 8, 8]⟩ ((n / 256 : Nat) : Int) = (t : Int) := e
        rw [e', w64 (n := (t : Int)) (by omega) (by omega), w64 (n := (0 : Int) + 8) (by omega) (by omega), w64 (by omega) (by omega)]
        congr 1
    · obtain ⟨t, e, t1, t2, t3, t4⟩ := tab_is n (by omega) (by omega)
      refine ⟨t, by omega, by omega, t3, t4, fun k => ?_⟩
      rw [bits_Len64.j0, if_neg (by omega), if_neg (by omega), if_pos (by omega), if_pos (by omega), show (n : Int) % 256 = (n : Int) by omega]
      have e' : bt ⟨#[0, 1, 2, 2, 3, 3, 3, 3, 4, 4, 4, 4, 4, 4, 4, 4, 5, 5, 5, 5, 5, 5, 5, 5, 5, 5, 5, 5, 5, 5, 5, 5, 6, 6, 6, 6, 6, 6, 6, 6, 6, 6, 6, 6, 6, 6, 6, 6, 6, 6, 6, 6, 6, 6, 6, 6, 6, 6, 6, 6, 6, 6, 6, 6, 7, 7, 7, 7, 7, 7, 7, 7, 7, 7, 7, 7, 7, 7, 7, 7, 7, 7, 7, 7, 7, 7, 7, 7, 7, 7, 7, 7, 7, 7, 7, 7, 7, 7, 7, 7, 7, 7, 7, 7, 7, 7, 7, 7, 7, 7, 7, 7, 7, 7, 7, 7, 7, 7, 7, 7, 7, 7, 7, 7, 7, 7, 7, 7, 8, 8, 8, 8, 8, 8, 8, 8, 8, 8, 8, 8, 8, 8, 8, 8, 8, 8, 8, 8, 8, 8, 8, 8, 8, 8, 8, 8, 8, 8, 8, 8, 8, 8, 8, 8, 8, 8, 8, 8, 8, 8, 8, 8, 8, 8, 8, 8, 8, 8, 8, 8, 8, 8, 8, 8, 8, 8, 8, 8, 8, 8, 8, 8, 8, 8, 8, 8, 8, 8, 8, 8, 8, 8, 8, 8, 8, 8, 8, 8, 8, 8, 8, 8, 8, 8, 8, 8, 8, 8, 8, 8, 8, 8, 8, 8, 8, 8, 8, 8, 8, 8, 8, 8, 8, 8, 8, 8, 8, 8, 8, 8, 8, 8, 8, 8, 8, 8, 8, 8, 8, 8, 8, 8, 8, 8, 8, 8]⟩ (n : Int) = (t : Int) := e
      rw [e', w64 (n := (t : Int)) (by omega) (by omega), w64 (by omega) (by omega), Int.zero_add]
theorem long_ok (a b : Nat) (h0 : 0 < a + b) (h1 : a + b < 16777216) : ∃ d : Nat, 1 ≤ d ∧ d ≤ 24 ∧ a + b < 2 ^ d ∧ 2 ^ (d - 1) ≤ a + b ∧ ∀ k, lay_long.f (k + 1) (a : Int) (b : Int) = some (d : Int) := by
  obtain ⟨d, d1, d2, d3, d4, hd⟩ := len_j0 (a + b) h0 h1
  refine ⟨d, d1, d2, d3, d4, fun k => ?_⟩
  have hw : ∀ x : Int, IntKind.u64.wrap x = x % 18446744073709551616 := fun x => by simp [IntKind.wrap, IntKind.bits, IntKind.signed]
  unfold lay_long.f bits_Len.f bits_Len64.f
  rw [w64 (by omega) (by omega), hw, show ((a : Int) + (b : Int)) % 18446744073709551616 = ((a + b : Nat) : Int) by omega, if_neg (by omega), hd k]
  rfl
/-! ### Numbers modulo 8380417 -/
/-- Is a number none of a poly? -/
def odd (x : Int) : Bool := decide (x < 0) || decide (x ≥ 8380417)
def mayB (l : List Int) : Bool := decide (l.length = 256) && !l.any odd
/-- A number that is laid, as it is laid. -/
def turn (b : Nat) (x : Int) : Int := ((b : Int) - x) % 8380417
/-! ### And back -/
end Go.Proofs.YtggiddekbocokaaDoor.PackH
end
section
/- The document's packing and unpacking compute the same digits. -/
namespace Go.Proofs.YtggiddekbocokaaDoor.PackH
open Go.RowKit Go.Proofs.YtggiddekbocokaaDoor.PLR Go.Proofs.YtggiddekbocokaaDoorW.PrintWords Go.Proofs.YtggiddekbocokaaDoorW.PrintLast Go.Proofs.YtggiddekbocokaaDoorW.PrintMore

theorem and_one (x : Nat) (h : x < 2 ^ 63) : Go.bits .and .i64 (x : Int) 1 = ((x % 2 : Nat) : Int) := by
  have := bits_mask .i64 63 (by decide) wraps_i64 1 (by decide) (x : Int) (by omega) (by exact_mod_cast h)
  rw [show (2 : Int) ^ 1 - 1 = 1 by decide, show (2 : Int) ^ 1 = 2 by decide] at this
  rw [this]
  omega
theorem shr_nat (x k : Nat) (h : k ≤ 64) : shr .i64 (x : Int) (k : Int) = ((x / 2 ^ k : Nat) : Int) := by
  unfold shr
  rw [Int.toNat_natCast, Nat.min_eq_left (by simp only [IntKind.bits]; omega)]
  norm_cast
theorem shl_nat (x k : Nat) (h : k ≤ 62) (hx : x * 2 ^ k < 2 ^ 63) : shl .i64 (x : Int) (k : Int) = ((x * 2 ^ k : Nat) : Int) := by
  unfold shl
  rw [Int.toNat_natCast, Nat.min_eq_left (by simp only [IntKind.bits]; omega), show (x : Int) * 2 ^ k = ((x * 2 ^ k : Nat) : Int) by push_cast; rfl]
  exact wraps_i64 _ (by omega) (by exact_mod_cast hx)
theorem or_u8 (a b : Nat) (ha : a < 256) (hb : b < 256) : Go.bits .or .u8 (a : Int) (b : Int) = ((a ||| b : Nat) : Int) := (bits_nat .u8 8 (by decide) wraps_u8 a b ha hb).2
theorem or_bit (M p c : Nat) (hp : p < 8) (hM : M < 2 ^ p) (hc : c ≤ 1) : Go.bits .or .u8 (M : Int) ((c * 2 ^ p : Nat) : Int) = ((M + 2 ^ p * c : Nat) : Int) := by
  have h2 : 2 ^ p * c ≤ 2 ^ p := by
    have := Nat.mul_le_mul_left (2 ^ p) hc
    omega
  have h3 : (2 : Nat) ^ p ≤ 2 ^ 7 := Nat.pow_le_pow_right (by decide) (by omega)
  rw [Nat.mul_comm c, or_u8 M _ (by omega) (by omega)]
  have := Nat.two_pow_add_eq_or_of_lt hM c
  rw [Nat.or_comm, ← this, Nat.add_comm]
/-- A bit behind all others. -/
theorem digs_bit : ∀ (n M p c : Nat), M < 2 ^ p → c ≤ 1 → p / 8 < n →
    (digs n M).set (p / 8) (Go.bits .or .u8 ((digs n M).getD (p / 8) 0) ((c * 2 ^ (p % 8) : Nat) : Int)) = digs n (M + 2 ^ p * c)
  | 0, M, p, c, _, _, h => by omega
  | n + 1, M, p, c, hM, hc, h => by
    by_cases hp : p < 8
    · have h0 : p / 8 = 0 := by omega
      have h1 : p % 8 = p := by omega
      have h3 : (2 : Nat) ^ p ≤ 2 ^ 7 := Nat.pow_le_pow_right (by decide) (by omega)
      have h2 : 2 ^ p * c ≤ 2 ^ p := by
        have := Nat.mul_le_mul_left (2 ^ p) hc
        omega
      rw [h0, h1, digs, digs, List.set_cons_zero, List.getD_cons_zero, show M % 256 = M by omega, or_bit M p c hp hM hc, show (M + 2 ^ p * c) % 256 = M + 2 ^ p * c by omega, show M / 256 = 0 by omega, show (M + 2 ^ p * c) / 256 = 0 by omega]
    · have h0 : p / 8 = (p - 8) / 8 + 1 := by omega
      have h1 : p % 8 = (p - 8) % 8 := by omega
      have hM2 : M / 256 < 2 ^ (p - 8) := by
        rw [Nat.div_lt_iff_lt_mul (by decide), show (256 : Nat) = 2 ^ 8 by decide, ← Nat.pow_add, show p - 8 + 8 = p by omega]
        exact hM
      have e : 2 ^ p * c = 256 * (2 ^ (p - 8) * c) := by
        rw [← Nat.mul_assoc, show (256 : Nat) = 2 ^ 8 by decide, ← Nat.pow_add]
        congr 2
        omega
      rw [h0, h1, digs, digs, List.set_cons_succ, List.getD_cons_succ, digs_bit n (M / 256) (p - 8) c hM2 hc (by omega), e, Nat.add_mul_mod_self_left, Nat.add_mul_div_left _ _ (by decide)]
theorem val_snoc (d : Nat) : ∀ (a : List Int) (x : Int), val d (a ++ [x]) = val d a + 2 ^ (d * a.length) * x.toNat
  | [], x => by simp [val]
  | y :: r, x => by
    rw [List.cons_append, val, val, val_snoc d r x, List.length_cons, Nat.mul_add, Nat.mul_add, Nat.mul_one, Nat.pow_add, Nat.mul_comm (2 ^ (d * r.length)) (2 ^ d), Nat.mul_assoc]
    omega
theorem val_lt_take (d i : Nat) (xs : List Int) (h : fit d xs) (hi : i ≤ xs.length) : val d (xs.take i) < 2 ^ (d * i) := by
  have := val_lt d (xs.take i) (fun x hx => h x (List.mem_of_mem_take hx))
  rwa [List.length_take, Nat.min_eq_left hi] at this
/-! ### Packing -/
theorem rpack_place (d i j n L : Nat) (hd : d ≤ 24) (hi : i < L) (hj : j < d) (hl : L < 1000000) (hn : n = (d * L + 7) / 8) : d * i + j < 24000000 ∧ (d * i + j) / 8 < n ∧ wrap64 (wrap64 ((d : Int) * (i : Int)) + (j : Int)) = ((d * i + j : Nat) : Int) := by
  have hq : d * i + j < d * L := by
    have := Nat.mul_le_mul_left d (show i + 1 ≤ L by omega)
    rw [Nat.mul_add] at this
    omega
  have hdl : d * L ≤ 24 * L := Nat.mul_le_mul_right _ hd
  refine ⟨by omega, by omega, ?_⟩
  rw [show (d : Int) * (i : Int) = ((d * i : Nat) : Int) by push_cast; rfl]
  generalize d * i = q at *
  rw [w64 (n := (q : Int)) (by omega) (by omega), w64 (by omega) (by omega)]
  omega
theorem tdiv8 (p : Nat) (h : p < 24000000) : wrap64 (Int.tdiv (p : Int) 8) = ((p / 8 : Nat) : Int) := by
  rw [Int.tdiv_eq_ediv_of_nonneg (by omega), w64 (by omega) (by omega)]
  omega
theorem tmod8 (p : Nat) : Int.tmod (p : Int) 8 = ((p % 8 : Nat) : Int) := by
  rw [Int.tmod_eq_emod_of_nonneg (by omega)]
  omega
theorem bit_small (c p : Nat) (hc : c ≤ 1) : c * 2 ^ (p % 8) < 256 := by
  have h5 : (2 : Nat) ^ (p % 8) ≤ 2 ^ 7 := Nat.pow_le_pow_right (by decide) (by omega)
  have h6 := Nat.mul_le_mul hc h5
  omega
theorem rpack_sum (V q j x : Nat) (h : V < 2 ^ q) : V + 2 ^ q * (x % 2 ^ j) < 2 ^ (q + j) ∧ V + 2 ^ q * (x % 2 ^ j) + 2 ^ (q + j) * (x / 2 ^ j % 2) = V + 2 ^ q * (x % 2 ^ (j + 1)) := by
  constructor
  · have h4 : 2 ^ q * (x % 2 ^ j + 1) ≤ 2 ^ q * 2 ^ j := Nat.mul_le_mul_left _ (Nat.mod_lt _ (Nat.two_pow_pos j))
    rw [Nat.mul_add, Nat.mul_one, ← Nat.pow_add] at h4
    omega
  · rw [Nat.mod_pow_succ, Nat.mul_add, Nat.pow_add, Nat.mul_assoc, Nat.add_assoc]
theorem next_ (j : Nat) (h : j < 1000000) : wrap64 ((j : Int) + 1) = ((j + 1 : Nat) : Int) := by
  rw [w64 (by omega) (by omega)]
  rfl
theorem rpack_bit (d : Nat) (hd : d ≤ 24) (xs : List Int) (hxs : fit d xs) (hl : xs.length < 1000000) (n : Nat) (hn : n = (d * xs.length + 7) / 8) (i : Nat) (hi : i < xs.length) (j : Nat) (hj : j < d) (x : Nat) (hx : xs[i] = (x : Int)) (hx24 : x < 2 ^ 24) (k : Nat) :
    chatelaineref5_Pack.l1 (k + 1) (d : Int) xs (digs n (val d (xs.take i) + 2 ^ (d * i) * ((xs[i]).toNat % 2 ^ j))) (i : Int) (j : Int) = chatelaineref5_Pack.l1 k (d : Int) xs (digs n (val d (xs.take i) + 2 ^ (d * i) * ((xs[i]).toNat % 2 ^ (j + 1)))) (i : Int) ((j + 1 : Nat) : Int) := by
  obtain ⟨p1, p2, p3⟩ := rpack_place d i j n xs.length hd hi hj hl hn
  have hV := val_lt_take d i xs hxs (Nat.le_of_lt hi)
  obtain ⟨s1, s2⟩ := rpack_sum (val d (xs.take i)) (d * i) j x hV
  have hx63 : x / 2 ^ j < 2 ^ 63 := Nat.lt_of_le_of_lt (Nat.div_le_self _ _) (Nat.lt_trans hx24 (by decide))
  have hc : x / 2 ^ j % 2 ≤ 1 := Nat.le_of_lt_succ (Nat.mod_lt _ (by decide))
  have hb := digs_bit n _ (d * i + j) (x / 2 ^ j % 2) s1 hc p2
  have hsm := bit_small (x / 2 ^ j % 2) (d * i + j) hc
  have hsh := shl_nat (x / 2 ^ j % 2) ((d * i + j) % 8) (Nat.le_of_lt (Nat.lt_trans (Nat.mod_lt _ (by decide)) (by decide))) (Nat.lt_trans hsm (by decide))
  have hlen := digs_len n (val d (xs.take i) + 2 ^ (d * i) * (x % 2 ^ j))
  have hji : (j : Int) < (d : Int) := by exact_mod_cast hj
  have hj1 := next_ j (Nat.lt_of_lt_of_le hj (Nat.le_trans hd (by decide)))
  have e256 : (((x / 2 ^ j % 2 * 2 ^ ((d * i + j) % 8) : Nat) : Int)) % 256 = ((x / 2 ^ j % 2 * 2 ^ ((d * i + j) % 8) : Nat) : Int) := Int.emod_eq_of_lt (Int.natCast_nonneg _) (Int.ofNat_lt.mpr hsm)
  have hand := and_one _ hx63
  have hshr := shr_nat x j (Nat.le_trans (Nat.le_of_lt hj) (Nat.le_trans hd (by decide)))
  have ht := tdiv8 _ p1
  have hm := tmod8 (d * i + j)
  rw [hx, Int.toNat_natCast, ← s2, ← hb]
  generalize digs n (val d (xs.take i) + 2 ^ (d * i) * (x % 2 ^ j)) = D at *
  clear hb s1 s2 hV hn hc hsm hx24 hx63
  generalize x / 2 ^ j % 2 * 2 ^ ((d * i + j) % 8) = B at *
  generalize hP : d * i + j = P at *
  rw [chatelaineref5_Pack.l1, if_pos hji, p3, ht, hm, if_pos (Int.natCast_nonneg _), if_pos (by rw [hlen]; exact_mod_cast p2), if_pos (Int.natCast_nonneg _), if_pos (by exact_mod_cast hi), if_pos (Int.natCast_nonneg _), if_pos (Int.natCast_nonneg _),
    rdI xs i hi, hx, hshr, hand, hsh, e256, hj1]
  unfold rd
  rw [Int.toNat_natCast]
theorem rpack_l1 (d : Nat) (hd : d ≤ 24) (xs : List Int) (hxs : fit d xs) (hl : xs.length < 1000000) (n : Nat) (hn : n = (d * xs.length + 7) / 8) (i : Nat) (hi : i < xs.length) : ∀ (m j k : Nat), j + m = d →
    chatelaineref5_Pack.l1 (k + 1 + m) (d : Int) xs (digs n (val d (xs.take i) + 2 ^ (d * i) * ((xs[i]).toNat % 2 ^ j))) (i : Int) (j : Int) = chatelaineref5_Pack.l0 k (d : Int) xs (digs n (val d (xs.take (i + 1)))) ((i + 1 : Nat) : Int)
  | 0, j, k, hj => by
    obtain rfl : j = d := by omega
    obtain ⟨h0, h1⟩ := hxs xs[i] (List.getElem_mem hi)
    have h2 : (xs[i]).toNat < 2 ^ j := by omega
    rw [Nat.add_zero, chatelaineref5_Pack.l1, if_neg (by omega), w64 (by omega) (by omega), List.take_succ_eq_append_getElem hi, val_snoc, List.length_take, Nat.min_eq_left (by omega), Nat.mod_eq_of_lt h2]
    rfl
  | m + 1, j, k, hj => by
    obtain ⟨h0, h1⟩ := hxs xs[i] (List.getElem_mem hi)
    obtain ⟨x, hx⟩ := Int.eq_ofNat_of_zero_le h0
    have hxd : x < 2 ^ 24 := by
      rw [hx] at h1
      have h2 : x < 2 ^ d := by exact_mod_cast h1
      exact Nat.lt_of_lt_of_le h2 (Nat.pow_le_pow_right (by decide) hd)
    have hjd : j < d := by omega
    have step := rpack_bit d hd xs hxs hl n hn i hi j hjd x hx hxd
    rw [show k + 1 + (m + 1) = (k + 1 + m) + 1 by omega, step]
    exact rpack_l1 d hd xs hxs hl n hn i hi m (j + 1) k (by omega)
theorem rpack_l0 (d : Nat) (hd : d ≤ 24) (xs : List Int) (hxs : fit d xs) (hl : xs.length < 1000000) (n : Nat) (hn : n = (d * xs.length + 7) / 8) : ∀ (m i k : Nat), i + m = xs.length → 30 * m < k →
    chatelaineref5_Pack.l0 k (d : Int) xs (digs n (val d (xs.take i))) (i : Int) = some (digs n (val d xs))
  | 0, i, k + 1, hi, hk => by rw [chatelaineref5_Pack.l0, if_neg (by omega), List.take_of_length_le (by omega)]
  | m + 1, i, k + 1, hi, hk => by
    have hil : i < xs.length := by omega
    obtain ⟨h0, h1⟩ := hxs xs[i] (List.getElem_mem hil)
    have hp24 : (2 : Nat) ^ d ≤ 2 ^ 24 := Nat.pow_le_pow_right (by decide) hd
    have hs : shl .i64 1 (d : Int) = ((2 ^ d : Nat) : Int) := by
      have := shl_nat 1 d (by omega) (by omega)
      rw [Nat.one_mul] at this
      exact this
    obtain ⟨k', rfl⟩ : ∃ k', k = (k' + 1 + d) + 1 := ⟨k - 2 - d, by omega⟩
    rw [chatelaineref5_Pack.l0, if_pos (by omega), if_pos (by omega), rdI xs i hil, if_neg (by omega), if_pos (by omega), hs, decide_eq_false (by omega), chatelaineref5_Pack.j2, if_neg (by simp)]
    have := rpack_l1 d hd xs hxs hl n hn i hil d 0 k' (by omega)
    rw [Nat.pow_zero, Nat.mod_one, Nat.mul_zero, Int.natCast_zero] at this
    simp only [Nat.add_zero] at this
    rw [this, rpack_l0 d hd xs hxs hl n hn m (i + 1) k' (by omega) (by omega)]
theorem digs_zero : ∀ n : Nat, digs n 0 = List.replicate n 0
  | 0 => rfl
  | n + 1 => by rw [digs, List.replicate_succ, ← digs_zero n]; rfl
theorem rpack_ok (k d : Nat) (hd1 : 1 ≤ d) (hd : d ≤ 24) (xs : List Int) (hxs : fit d xs) (hl : xs.length < 1000000) (hk : 30 * xs.length + 2 ≤ k) :
    chatelaineref5_Pack.f k (d : Int) xs = some (digs ((d * xs.length + 7) / 8) (val d xs)) := by
  obtain ⟨k, rfl⟩ : ∃ k', k = k' + 1 := ⟨k - 1, by omega⟩
  have hdl : d * xs.length ≤ 24 * xs.length := Nat.mul_le_mul_right _ hd
  have hw : wrap64 (Int.tdiv (wrap64 (wrap64 ((d : Int) * (xs.length : Int)) + 7)) 8) = (((d * xs.length + 7) / 8 : Nat) : Int) := by
    rw [show (d : Int) * (xs.length : Int) = ((d * xs.length : Nat) : Int) by push_cast; rfl, w64 (n := ((d * xs.length : Nat) : Int)) (by omega) (by omega), w64 (n := ((d * xs.length : Nat) : Int) + 7) (by omega) (by omega), Int.tdiv_eq_ediv_of_nonneg (by omega), w64 (by omega) (by omega)]
    omega
  rw [chatelaineref5_Pack.f, if_neg (by omega), decide_eq_false (by omega), chatelaineref5_Pack.j0, if_neg (by simp), hw, if_pos (by omega), if_pos (by omega), Int.toNat_natCast, ← digs_zero]
  have := rpack_l0 d hd xs hxs hl _ rfl xs.length 0 k (by omega) (by omega)
  rw [List.take_zero, val, Int.natCast_zero] at this
  exact this
/-! ### Unpacking -/
end Go.Proofs.YtggiddekbocokaaDoor.PackH
end
section
namespace Go.Proofs.YtggiddekbocokaaDoor.PLR
open Go.RowKit Go.Proofs.YtggiddekbocokaaDoorW.PrintWords Go.Proofs.YtggiddekbocokaaDoorW.PrintLast Go.Proofs.YtggiddekbocokaaDoorW.PrintMore
attribute [local go_sem] max2_int min2_int max_two min_two max_three min_three max_four min_four
set_option linter.unusedVariables false
set_option linter.unusedSimpArgs false
-- U5: the document's High, plainly
open LayM PackH in
theorem hh_l1 (p : Par) (hs : List (List Int)) (hL : hs.length ≤ 50) (j : Nat) (hj : j < hs.length) (hf : hs[j].length = 256) (out : List Int) (c1 c2 c3 c4 c5 c6 c8 : Int) (R : List Int × Int) (C : Nat) (hC : 10000 ≤ C) (hout : out.length < 100000) : ∀ (m i k : Nat), i + m = 256 → C + m < k →
    ((hs[j].drop i).any (lay_odd (p.m : Int)) = true → R = ([], 3)) →
    ((hs[j].drop i).any (lay_odd (p.m : Int)) = false → okp p hs[j] ∧ ∀ k', C ≤ k' → chatelaineref11_High.l0 k' hs (p.d : Int) (out ++ pk p.d hs[j]) (wrap64 ((j : Int) + 1)) (p.K : Int) c1 c2 c3 c4 c5 c6 p.G c8 = some R) →
    chatelaineref11_High.l1 k hs (p.d : Int) out (j : Int) (i : Int) (p.K : Int) c1 c2 c3 c4 c5 c6 p.G c8 = some R
  | 0, i, k + 1, hi, hk, h1, h2 => by
    rw [List.drop_of_length_le (by omega)] at h2
    obtain ⟨hok, h3⟩ := h2 rfl
    have hd := p.hd
    have hp := rpack_ok k p.d hd.1 (by omega) hs[j] (okp_fit p _ hok) (by rw [hf]; decide) (by rw [hf]; omega)
    have hn := pk_len p _ hok
    rw [chatelaineref11_High.l1, if_neg (by omega), if_pos (by omega), if_pos (by omega), u_rdL hs j hj, hp, Option.bind_some, ← pk, if_pos (by rw [hn]; omega)]
    exact h3 k (by omega)
  | m + 1, i, k + 1, hi, hk, h1, h2 => by
    have hil : i < hs[j].length := by omega
    have e : hs[j].drop i = hs[j][i] :: hs[j].drop (i + 1) := (List.getElem_cons_drop hil).symm
    rw [e, List.any_cons] at h1 h2
    have ih := hh_l1 p hs hL j hj hf out c1 c2 c3 c4 c5 c6 c8 R C hC hout m (i + 1) k (by omega) (by omega)
    rw [chatelaineref11_High.l1, if_pos (by omega), if_pos (by omega), if_pos (by omega), if_pos (by omega), u_rdL hs j hj, if_pos (by omega), u_rd _ i hil]
    by_cases c : hs[j][i] < 0
    · have hz : lay_odd (p.m : Int) hs[j][i] = true := by simp only [lay_odd, Bool.or_eq_true, decide_eq_true_eq]; omega
      rw [hz, Bool.true_or] at h1
      rw [if_pos c, h1 rfl]
    · rw [if_neg c, if_neg p.hG0, p.hG]
      by_cases c2' : hs[j][i] ≥ (p.m : Int)
      · have hz : lay_odd (p.m : Int) hs[j][i] = true := by simp only [lay_odd, Bool.or_eq_true, decide_eq_true_eq]; omega
        rw [hz, Bool.true_or] at h1
        rw [if_pos c2', h1 rfl]
      · have hz : lay_odd (p.m : Int) hs[j][i] = false := by
          simp only [lay_odd, Bool.or_eq_false_iff, decide_eq_false_iff_not]
          omega
        rw [hz, Bool.false_or] at h1 h2
        rw [if_neg c2', u_w64 (n := (i : Int) + 1) (by omega) (by omega), show (i : Int) + 1 = ((i + 1 : Nat) : Int) by omega]
        exact ih h1 h2
open LayM PackH in
set_option maxRecDepth 100000 in
theorem hh_l0 (p : Par) (hs : List (List Int)) (hL : hs.length = p.K) (c1 c2 c3 c4 c5 c6 c8 : Int) : ∀ (r : List (List Int)) (j k : Nat) (out : List Int), hs.drop j = r → j ≤ hs.length → 300 * (r.length + 1) + 10000 < k → out.length + 200 * r.length < 50000 →
    chatelaineref11_High.l0 k hs (p.d : Int) out (j : Int) (p.K : Int) c1 c2 c3 c4 c5 c6 p.G c8 = some (if r.any (lay_bad (p.m : Int)) = true then ([], 3) else (out ++ r.flatMap (pk p.d), 0))
  | [], j, k + 1, out, hr, hj, hk, ho => by
    have : hs.length ≤ j := List.drop_eq_nil_iff.mp hr
    rw [chatelaineref11_High.l0, if_neg (by omega), List.flatMap_nil, List.append_nil, if_neg (by simp)]
  | f :: r, j, k + 1, out, hr, hj, hk, ho => by
    have hK := p.hK
    have hjl : j < hs.length := by
      rcases Nat.lt_or_ge j hs.length with h | h
      · exact h
      · rw [List.drop_of_length_le h] at hr; cases hr
    have e1 : hs.drop j = hs[j] :: hs.drop (j + 1) := (List.getElem_cons_drop hjl).symm
    rw [e1] at hr
    injection hr with hx hr
    rw [List.length_cons] at hk ho
    rw [chatelaineref11_High.l0, if_pos (by omega), if_pos (by omega), if_pos (by omega), u_rdL hs j hjl]
    by_cases c : hs[j].length = 256
    · have hb : lay_bad (p.m : Int) f = f.any (lay_odd (p.m : Int)) := by
        rw [← hx]
        unfold lay_bad
        rw [decide_eq_false (by simp [c]), Bool.false_or]
      rw [if_pos (by omega)]
      have := hh_l1 p hs (by omega) j hjl c out c1 c2 c3 c4 c5 c6 c8 (if (f :: r).any (lay_bad (p.m : Int)) = true then ([], 3) else (out ++ (f :: r).flatMap (pk p.d), 0)) (300 * (r.length + 1) + 10001) (by omega) (by omega) 256 0 k (by omega) (by omega) (fun h => ?_) (fun h => ?_)
      · rw [Int.natCast_zero] at this
        exact this
      · rw [List.drop_zero, hx] at h
        rw [List.any_cons, hb, h, Bool.true_or, if_pos rfl]
      · rw [List.drop_zero, hx] at h
        have hok : okp p f := by
          refine ⟨by rw [← hx]; exact c, fun x hx2 => ?_⟩
          have := List.any_eq_false.mp h x hx2
          simp only [lay_odd, Bool.or_eq_true, decide_eq_true_eq] at this
          omega
        have hn := pk_len p _ hok
        have hd := p.hd
        rw [hx]
        refine ⟨hok, fun k' hk' => ?_⟩
        rw [u_w64 (by omega) (by omega), show (j : Int) + 1 = ((j + 1 : Nat) : Int) by omega, hh_l0 p hs hL c1 c2 c3 c4 c5 c6 c8 r (j + 1) k' _ hr (by omega) (by omega) (by rw [List.length_append, hn]; omega), List.any_cons, hb, h, Bool.false_or, List.flatMap_cons, List.append_assoc]
    · have hb : lay_bad (p.m : Int) f = true := by
        rw [← hx]
        unfold lay_bad
        rw [decide_eq_true (by simpa using c), Bool.true_or]
      rw [if_neg (by omega), List.any_cons, hb, Bool.true_or, if_pos rfl]
open LayM PackH in
theorem high_set (p : Par) (hrf : ∃ a1 a2 a3 a4 a5 a6 a8, chatelaineref11_Of.f (p.s : Int) = some ((p.K : Int), a1, a2, a3, a4, a5, a6, p.G, a8, true)) (hG : (p.G = 95232 ∧ p.d = 6) ∨ (p.G ≠ 95232 ∧ p.d = 4)) (h : List (List Int)) (hl : h.length ≤ 10) :
    ∃ x e n, lay_High.f 200000 (p.s : Int) h = some (x, e) ∧ chatelaineref11_High.f 200000 (p.s : Int) h = some (x, n) ∧ chatelainelaw0_Num.f e = some n ∧ x.length < 10000 := by
  have hK := p.hK
  obtain ⟨a1, a2, a3, a4, a5, a6, a8, hrf⟩ := hrf
  by_cases c : h.length = p.K
  · have hR : chatelaineref11_High.f 200000 (p.s : Int) h = some (if h.any (lay_bad (p.m : Int)) = true then ([], 3) else (h.flatMap (pk p.d), 0)) := by
      have := hh_l0 p h c a1 a2 a3 a4 a5 a6 a8 h 0 199999 [] List.drop_zero (by omega) (by omega) (by simp; omega)
      unfold chatelaineref11_High.f
      refine u_bnd hrf (u_ifp rfl (u_ifp (by omega) ?_))
      rcases hG with ⟨g1, g2⟩ | ⟨g1, g2⟩
      · refine u_ifp g1 ?_
        rw [g2] at this ⊢
        exact this
      · refine u_ifn g1 ?_
        rw [g2] at this ⊢
        exact this
    by_cases cb : h.any (lay_bad (p.m : Int)) = true
    · obtain ⟨f, hf, hb⟩ := List.any_eq_true.mp cb
      obtain ⟨b, hL⟩ := high_no p 200000 h (by omega) (.inr ⟨f, hf, hb⟩)
      rw [if_pos cb] at hR
      have hb0 : b = [] := by
        obtain ⟨b1, b2, b3, b4, b5, b6, b8, hof⟩ := p.hof
        have hw : lay_whole.f h (p.K : Int) (p.m : Int) = some false := by
          rw [whole_is h _ _ (by omega), cb, Bool.not_true, Bool.and_false]
        have hL2 : lay_High.f 200000 (p.s : Int) h = some ([], FL 3) := by
          unfold lay_High.f
          refine u_bnd hof (u_ifp rfl (u_ifn p.hG0 ?_))
          simp only [p.hG]
          exact u_bnd hw (u_ifn (by decide) rfl)
        rw [hL] at hL2
        cases hL2
        rfl
      subst hb0
      exact ⟨_, _, _, hL, hR, rfl, by decide⟩
    · have hok : ∀ f ∈ h, okp p f := fun f hf => by
        have := List.any_eq_false.mp (Bool.eq_false_iff.mpr cb) f hf
        have h2 : lay_bad (p.m : Int) f = false := by simpa using this
        unfold lay_bad at h2
        rw [Bool.or_eq_false_iff, List.any_eq_false] at h2
        refine ⟨by simpa using h2.1, fun x hx => ?_⟩
        have := h2.2 x hx
        simp only [lay_odd, Bool.or_eq_true, decide_eq_true_eq] at this
        omega
      have hL := high_yes p 200000 h hok c (by decide)
      rw [if_neg cb] at hR
      refine ⟨_, _, _, hL, hR, rfl, ?_⟩
      have hfl : ∀ l : List (List Int), (∀ f ∈ l, okp p f) → (l.flatMap (pk p.d)).length = 32 * p.d * l.length := fun l => by
        induction l with
        | nil => intro _; rfl
        | cons f r ih =>
          intro hr
          rw [List.flatMap_cons, List.length_append, pk_len p f (hr f (by simp)), ih (fun g hg => hr g (by simp [hg])), List.length_cons, Nat.mul_add, Nat.mul_one, Nat.add_comm]
      rw [hfl h hok, c]
      have hd := p.hd
      have h1 : 32 * p.d * p.K ≤ 32 * 6 * 8 := Nat.mul_le_mul (by omega) hK.2
      omega
  · obtain ⟨b1, b2, b3, b4, b5, b6, b8, hof⟩ := p.hof
    have hw : lay_whole.f h (p.K : Int) (p.m : Int) = some false := by
      rw [whole_is h _ _ (by omega), decide_eq_false (by omega), Bool.false_and]
    refine ⟨[], FL 3, 3, ?_, ?_, rfl, by decide⟩
    · unfold lay_High.f
      refine u_bnd hof (u_ifp rfl (u_ifn p.hG0 ?_))
      simp only [p.hG]
      exact u_bnd hw (u_ifn (by decide) rfl)
    · unfold chatelaineref11_High.f
      exact u_bnd hrf (u_ifp rfl (u_ifn (by omega) rfl))
open PackH in
theorem hlong_is {m : Nat} (b d : Nat) (hm : m = b + 1) (h0 : 0 < b) (hb : b < 16777216) (h1 : b < 2 ^ d) (h2 : 2 ^ (d - 1) ≤ b) (hd : 1 ≤ d) : ∀ k, lay_long.f (k + 3) 0 (wrap64 ((m : Int) - 1)) = some (d : Int) := fun k => by
  obtain ⟨d', e1, e2, e3, e4, hk⟩ := PackH.long_ok 0 b (by omega) (by omega)
  rw [Nat.zero_add] at e3 e4
  have hdd : d' = d := by
    rcases Nat.lt_trichotomy d' d with h | h | h
    · have := Nat.pow_le_pow_right (n := 2) (by decide) (show d' ≤ d - 1 by omega)
      omega
    · exact h
    · have := Nat.pow_le_pow_right (n := 2) (by decide) (show d ≤ d' - 1 by omega)
      omega
  rw [PackH.w64 (by omega) (by omega), show (m : Int) - 1 = (b : Int) by omega, ← hdd]
  exact hk (k + 2)
def hpar1 : LayM.Par := ⟨1, 4, 95232, 44, 6, by decide, by decide, by decide, by unfold wrap64; decide, by unfold wrap64; decide, by decide, ⟨_, _, _, _, _, _, _, rfl⟩, hlong_is (m := 44) 43 6 rfl (by decide) (by decide) (by decide) (by decide) (by decide)⟩
def hpar2 : LayM.Par := ⟨2, 6, 261888, 16, 4, by decide, by decide, by decide, by unfold wrap64; decide, by unfold wrap64; decide, by decide, ⟨_, _, _, _, _, _, _, rfl⟩, hlong_is (m := 16) 15 4 rfl (by decide) (by decide) (by decide) (by decide) (by decide)⟩
def hpar3 : LayM.Par := ⟨3, 8, 261888, 16, 4, by decide, by decide, by decide, by unfold wrap64; decide, by unfold wrap64; decide, by decide, ⟨_, _, _, _, _, _, _, rfl⟩, hlong_is (m := 16) 15 4 rfl (by decide) (by decide) (by decide) (by decide) (by decide)⟩
theorem high_same (s : Int) (h : List (List Int)) (hl : h.length ≤ 10) : ∃ x e n, lay_High.f 200000 s h = some (x, e) ∧ chatelaineref11_High.f 200000 s h = some (x, n) ∧ chatelainelaw0_Num.f e = some n ∧ x.length < 10000 := by
  by_cases h1 : s = 1
  · subst h1; exact high_set hpar1 ⟨_, _, _, _, _, _, _, rfl⟩ (.inl ⟨rfl, rfl⟩) h hl
  · by_cases h2 : s = 2
    · subst h2; exact high_set hpar2 ⟨_, _, _, _, _, _, _, rfl⟩ (.inr ⟨by decide, rfl⟩) h hl
    · by_cases h3 : s = 3
      · subst h3; exact high_set hpar3 ⟨_, _, _, _, _, _, _, rfl⟩ (.inr ⟨by decide, rfl⟩) h hl
      · have ho : lay_Of.f s = some (0, 0, 0, 0, 0, 0, 0, 0, 0, false) := by
          unfold lay_Of.f
          rw [if_neg h1, if_neg h2, if_neg h3]
        have hr : chatelaineref11_Of.f s = some (0, 0, 0, 0, 0, 0, 0, 0, 0, false) := by
          unfold chatelaineref11_Of.f
          rw [if_neg h1, if_neg h2, if_neg h3]
        refine ⟨[], FL 2, 2, ?_, ?_, rfl, by decide⟩
        · unfold lay_High.f
          exact u_bnd ho (u_ifn (by decide) rfl)
        · unfold chatelaineref11_High.f
          exact u_bnd hr (u_ifn (by decide) rfl)
theorem sb_yes (x : List Int) (hl : x.length < 10000) : chatelainelaw0_SameBytes.f 20000 x x = some true := LayM.same_yes 20000 x x (by omega) (by decide) rfl
theorem sp_yes (z : List (List Int)) (hz : z.length < 1000) (hf : ∀ f ∈ z, f.length = 256) : chatelainelaw0_SamePolys.f 20000 z z = some true := by
  rw [sp_is 20000 z z hz (fun f h => by rw [hf f h]; decide) (by decide)]; simp

end Go.Proofs.YtggiddekbocokaaDoor.PLR
end
section
namespace Go.Proofs.YtggiddekbocokaaDoor.PLR
open Go.RowKit Go.Proofs.YtggiddekbocokaaDoorW.PrintWords Go.Proofs.YtggiddekbocokaaDoorW.PrintLast Go.Proofs.YtggiddekbocokaaDoorW.PrintMore
attribute [local go_sem] max2_int min2_int max_two min_two max_three min_three max_four min_four
set_option linter.unusedVariables false
set_option linter.unusedSimpArgs false
section
/-- The rows that are left: each has blocks of its own. -/
def Left (W : World) (base gz : Nat) (fo : Nat → Nat) (n : Nat) (zs : List (List Int)) : Prop := ∀ m, n ≤ m → ∀ h : m < zs.length, ∃ v, W.cell? ⟨gz, m, none⟩ = some v ∧ Kd.R (Kd.int .i64) 3 W base (fun k => fo k = m ∧ k ≠ gz) v zs[m]
theorem left_of {W : World} {base e n cap gz : Nat} {ok : Nat → Prop} {zs : List (List Int)} (h : Kd.S (Kd.slice 3 (Kd.int .i64)) e W base ok (.slice (some ⟨gz, 0, none⟩) n cap) zs) : ∃ fo, Left W base gz fo 0 zs := by
  have hn := (Kd.S_reads' h).1
  obtain ⟨fo, hR⟩ := h
  refine ⟨fo, fun m _ hm => ?_⟩
  obtain ⟨c, _, hM, hcc, _⟩ := Kd.R_elem hR (([], 0) : List Int × Nat) (m : Int) (by omega) (by omega)
  have e1 : zs.zipIdx.getD (m : Int).toNat ([], 0) = (zs[m], m) := by
    rw [Int.toNat_natCast, List.getD_eq_getElem?_getD, Kd.zip_at (List.getElem?_eq_getElem hm)]
    rfl
  rw [e1] at hM
  obtain ⟨v, rfl, hR2⟩ := (show (Kd.slice 3 (Kd.int .i64)).M W base (fun k => (ok k ∧ k ≠ gz) ∧ fo k = m) zs[m] c from hM)
  refine ⟨v, ?_, Kd.R_mono hR2 (fun k hk => ⟨hk.2, hk.1.2⟩)⟩
  have := hcc 0 v rfl
  have e2 : (m : Int).toNat * (Kd.tag fo (Kd.slice 3 (Kd.int .i64))).sz + 0 = m := by
    show (m : Int).toNat * 1 + 0 = m
    omega
  rw [e2] at this
  exact this
theorem left_step {W W' : World} {base gz n : Nat} {fo : Nat → Nat} {zs : List (List Int)} (h : Left W base gz fo n zs) (hk : Kept W W' (fun k => fo k = n ∧ k ≠ gz)) : Left W' base gz fo (n + 1) zs := fun m hm hl => by
  obtain ⟨v, h1, h2⟩ := h m (by omega) hl
  exact ⟨v, cell_kept h1 hk (fun h3 => h3.2 rfl), Kd.R_kept h2 hk (fun k h3 h4 => by omega)⟩
theorem left_any {W : World} {base e n cap : Nat} {A : Option Addr} {ok : Nat → Prop} {zs : List (List Int)} (h : Kd.S (Kd.slice 3 (Kd.int .i64)) e W base ok (.slice A n cap) zs) : ∃ fo gz, (0 < zs.length → A = some ⟨gz, 0, none⟩) ∧ Left W base gz fo 0 zs := by
  by_cases c : 0 < zs.length
  · obtain ⟨g, cap', e1, _⟩ := Kd.S_form h c
    cases e1
    obtain ⟨fo, h2⟩ := left_of h
    exact ⟨fo, g, fun _ => rfl, h2⟩
  · exact ⟨fun _ => 0, 0, fun h => absurd h c, fun m _ hm => by omega⟩
set_option maxHeartbeats 8000000 in
set_option maxRecDepth 100000 in
theorem LHgreat.calls (w : World) (hg_ : w.cell? ⟨0, 0, none⟩ = some (.iface 108 (.agg #[.pointer (some ⟨1, 33, none⟩)]))) (s : Int) (A Ab : Option Addr) (c n cb : Nat) (h : List (List Int)) (hr1 : Kd.C (Kd.slice 3 (Kd.int .i64)) w A h.length h) (hc1 : h.length ≤ c) (bg : Bool) (hgf : chatelainelaw11_great.f 100 h = some bg) (ht : bg = true ∨ 300 < n) :
    Calls Tryd.prog 5 #[.int .i64 s, .slice A h.length c, .slice Ab n cb] w fun e w' => e = .returned (.bool true) ∧ Below w.heap.size w w' := by
  have B0 : Aside0 (Below w.heap.size w w) := ⟨Below.refl _ _⟩
  have HG := Aside0.mk hg_
  have GR : Aside0 (∀ w', Below w.heap.size w w' → Calls Tryd.prog 18 #[.slice A h.length c] w' fun e w'' => e = .returned (.bool bg) ∧ Below w'.heap.size w' w'') := ⟨fun w' hb_ => (chatelainelaw11_great.calls 100 A c h bg w' (Kd.C_below hr1 hb_) hc1 hgf).mono fun e w'' q => ⟨q.1, q.2.below⟩⟩
  have AWK : Aside0 (∀ w', Below w.heap.size w w' → Calls Tryd.prog 6 #[] w' fun e w'' => e = .returned (.bool true) ∧ Below w'.heap.size w' w'') := ⟨fun w' h1 => chatelainelaw11_awake.calls 100000 true w' (pw_cell_below h1 HG.out) LayM.awake_yes⟩
  clear hg_ hr1 hc1 hgf
  go_enter Tryd.func5, Tryd.ntmps5
  cases bg with
  | true =>
    go_wp2_with (first | (go_at_call 6; (with_reducible refine (AWK.out _ B1.out).mono ?_); rintro e w17 ⟨rfl, hb17⟩; have B17 := Aside0.mk (below_step B1.out hb17); clear hb17) | (go_at_call 18; (with_reducible refine (GR.out _ B0.out).mono ?_); rintro e w1 ⟨rfl, hb1⟩; have B1 := Aside0.mk (below_step B0.out hb1); clear hb1))
    go_ret
    exact ⟨rfl, B17.out⟩
  | false =>
    have ht2 : 300 < n := by rcases ht with h | h; cases h; exact h
    have d1 : decide (300 < (n : Int)) = true := decide_eq_true (by omega)
    have d1' : decide (300 < n) = true := decide_eq_true (by omega)
    clear ht
    go_wp2_with (first | (go_at_call 6; (with_reducible refine (AWK.out _ B1.out).mono ?_); rintro e w17 ⟨rfl, hb17⟩; have B17 := Aside0.mk (below_step B1.out hb17); clear hb17) | (go_at_call 18; (with_reducible refine (GR.out _ B0.out).mono ?_); rintro e w1 ⟨rfl, hb1⟩; have B1 := Aside0.mk (below_step B0.out hb1); clear hb1))
    go_ret
    exact ⟨rfl, B17.out⟩
set_option maxHeartbeats 8000000 in
set_option maxRecDepth 100000 in
theorem LHints.calls (w : World) (hg_ : w.cell? ⟨0, 0, none⟩ = some (.iface 108 (.agg #[.pointer (some ⟨1, 33, none⟩)]))) (s : Int) (A Ab : Option Addr) (c cb : Nat) (h : List (List Int)) (b : List Int) (hr1 : Kd.C (Kd.slice 3 (Kd.int .i64)) w A h.length h) (hc1 : h.length ≤ c) (hr2 : Kd.C (Kd.int .u8) w Ab b.length b) (hc2 : b.length ≤ cb) (hgf : chatelainelaw11_great.f 100 h = some false) (hh : h.length ≤ 10) (hbl : b.length ≤ 300) (hB : ∀ x ∈ b, 0 ≤ x ∧ x < 256) :
    Calls Tryd.prog 5 #[.int .i64 s, .slice A h.length c, .slice Ab b.length cb] w fun e w' => e = .returned (.bool true) ∧ Below w.heap.size w w' := by
  obtain ⟨x, e1, n1, hX1, hX2, hX3, hX4⟩ := hints_same s h hh
  obtain ⟨z, e2, n2, hZ1, hZ2, hZ3, hZ4, hZ5⟩ := unhint_same s b hB hbl
  obtain ⟨u, e3, n3, hU1, hU2, hU3, hU4⟩ := high_same s h hh
  have HN1 := Aside0.mk hX3
  have HN2 := Aside0.mk hZ3
  have HN3 := Aside0.mk hU3
  have HLX : Aside0 (x.length < 10000) := ⟨by omega⟩
  have HLU := Aside0.mk hU4
  have HLZ := Aside0.mk (And.intro hZ4 hZ5)
  have d1 : decide (300 < (b.length : Int)) = false := decide_eq_false (by omega)
  have d1' : decide (300 < b.length) = false := decide_eq_false (by omega)
  have B0 : Aside0 (Below w.heap.size w w) := ⟨Below.refl _ _⟩
  have HG := Aside0.mk hg_
  have GR : Aside0 (∀ w', Below w.heap.size w w' → Calls Tryd.prog 18 #[.slice A h.length c] w' fun e w'' => e = .returned (.bool false) ∧ Below w'.heap.size w' w'') := ⟨fun w' hb_ => (chatelainelaw11_great.calls 100 A c h false w' (Kd.C_below hr1 hb_) hc1 hgf).mono fun e w'' q => ⟨q.1, q.2.below⟩⟩
  have HI : Aside0 (∀ w', Below w.heap.size w w' → Calls Tryd.prog 15 #[.int .i64 s, .slice A h.length c] w' fun e w'' => ∃ A' c' ve, e = .returned (.tuple #[.slice A' (x.length) c', ve]) ∧ Kd.R (Kd.int .u8) 5 w'' w'.heap.size (fun _ => True) (.slice A' (x.length) c') x ∧ Kd.R k67 67 w'' w'.heap.size (fun _ => True) (eRow ve) e1 ∧ Below w'.heap.size w' w'') := ⟨fun w' hb_ => by
    refine (lay_Hints.calls 200000 s A c h x e1 w' (Kd.C_below hr1 hb_) hc1 hX1).mono ?_
    rintro e w'' ⟨v0, v1, q1, q2, q3, q4⟩; obtain ⟨A', c', rfl⟩ := Kd.R_slice q2; exact ⟨A', c', v1, q1, q2, q3, q4⟩⟩
  have RH : Aside0 (∀ w', Below w.heap.size w w' → Calls Tryd.prog 19 #[.int .i64 s, .slice A h.length c] w' fun e w'' => ∃ A' c', e = .returned (.tuple #[.slice A' (x.length) c', .int .i64 n1]) ∧ Kd.R (Kd.int .u8) 5 w'' w'.heap.size (fun _ => True) (.slice A' (x.length) c') x ∧ Below w'.heap.size w' w'') := ⟨fun w' hb_ => by
    refine (chatelaineref11_Hints.calls 200000 s A c h x n1 w' (Kd.C_below hr1 hb_) hc1 hX2).mono ?_
    rintro e w'' ⟨v0, q1, q2, q4⟩; obtain ⟨A', c', rfl⟩ := Kd.R_slice q2; exact ⟨A', c', q1, q2, q4⟩⟩
  have UN : Aside0 (∀ w', Below w.heap.size w w' → Calls Tryd.prog 16 #[.int .i64 s, .slice Ab b.length cb] w' fun e w'' => ∃ A' c' ve, e = .returned (.tuple #[.slice A' (z.length) c', ve]) ∧ Kd.S (Kd.slice 3 (Kd.int .i64)) 22 w'' w'.heap.size (fun _ => True) (.slice A' (z.length) c') z ∧ Kd.R k67 67 w'' w'.heap.size (fun _ => True) (eRow ve) e2 ∧ Below w'.heap.size w' w'') := ⟨fun w' hb_ => by
    refine (lay_Unhint.calls 200000 s Ab cb b z e2 w' (Kd.C_below hr2 hb_) hc2 hZ1).mono ?_
    rintro e w'' ⟨v0, v1, q1, q2, q3, q4⟩; obtain ⟨A', c', rfl⟩ := Kd.S_slice q2; exact ⟨A', c', v1, q1, q2, q3, q4⟩⟩
  have RU : Aside0 (∀ w', Below w.heap.size w w' → Calls Tryd.prog 20 #[.int .i64 s, .slice Ab b.length cb] w' fun e w'' => ∃ A' c', e = .returned (.tuple #[.slice A' (z.length) c', .int .i64 n2]) ∧ Kd.S (Kd.slice 3 (Kd.int .i64)) 22 w'' w'.heap.size (fun _ => True) (.slice A' (z.length) c') z ∧ Below w'.heap.size w' w'') := ⟨fun w' hb_ => by
    refine (chatelaineref11_Unhint.calls 200000 s Ab cb b z n2 w' (Kd.C_below hr2 hb_) hc2 hZ2).mono ?_
    rintro e w'' ⟨v0, q1, q2, q4⟩; obtain ⟨A', c', rfl⟩ := Kd.S_slice q2; exact ⟨A', c', q1, q2, q4⟩⟩
  have HH : Aside0 (∀ w', Below w.heap.size w w' → Calls Tryd.prog 10 #[.int .i64 s, .slice A h.length c] w' fun e w'' => ∃ A' c' ve, e = .returned (.tuple #[.slice A' (u.length) c', ve]) ∧ Kd.R (Kd.int .u8) 5 w'' w'.heap.size (fun _ => True) (.slice A' (u.length) c') u ∧ Kd.R k67 67 w'' w'.heap.size (fun _ => True) (eRow ve) e3 ∧ Below w'.heap.size w' w'') := ⟨fun w' hb_ => by
    refine (lay_High.calls 200000 s A c h u e3 w' (Kd.C_below hr1 hb_) hc1 hU1).mono ?_
    rintro e w'' ⟨v0, v1, q1, q2, q3, q4⟩; obtain ⟨A', c', rfl⟩ := Kd.R_slice q2; exact ⟨A', c', v1, q1, q2, q3, q4⟩⟩
  have RG : Aside0 (∀ w', Below w.heap.size w w' → Calls Tryd.prog 21 #[.int .i64 s, .slice A h.length c] w' fun e w'' => ∃ A' c', e = .returned (.tuple #[.slice A' (u.length) c', .int .i64 n3]) ∧ Kd.R (Kd.int .u8) 5 w'' w'.heap.size (fun _ => True) (.slice A' (u.length) c') u ∧ Below w'.heap.size w' w'') := ⟨fun w' hb_ => by
    refine (chatelaineref11_High.calls 200000 s A c h u n3 w' (Kd.C_below hr1 hb_) hc1 hU2).mono ?_
    rintro e w'' ⟨v0, q1, q2, q4⟩; obtain ⟨A', c', rfl⟩ := Kd.R_slice q2; exact ⟨A', c', q1, q2, q4⟩⟩
  have SB : Aside0 (∀ (l : List Int) w' A c A' c', Kd.C (Kd.int .u8) w' A l.length l → l.length ≤ c → Kd.C (Kd.int .u8) w' A' l.length l → l.length ≤ c' → l.length < 10000 → Calls Tryd.prog 11 #[.slice A l.length c, .slice A' l.length c'] w' fun e w'' => e = .returned (.bool true) ∧ Below w'.heap.size w' w'') := ⟨fun l w' A c A' c' h1 h2 h3 h4 h5 =>
    (chatelainelaw0_SameBytes.calls 20000 A c l A' c' l true w' h1 h2 h3 h4 (sb_yes l h5)).mono fun e w'' q => ⟨q.1, q.2.below⟩⟩
  have SP : Aside0 (∀ w' A c A' c', Kd.C (Kd.slice 3 (Kd.int .i64)) w' A z.length z → z.length ≤ c → Kd.C (Kd.slice 3 (Kd.int .i64)) w' A' z.length z → z.length ≤ c' → Calls Tryd.prog 17 #[.slice A z.length c, .slice A' z.length c'] w' fun e w'' => e = .returned (.bool true) ∧ Below w'.heap.size w' w'') := ⟨fun w' A c A' c' h1 h2 h3 h4 =>
    (chatelainelaw0_SamePolys.calls 20000 A c z A' c' z true w' h1 h2 h3 h4 (sp_yes z hZ4 hZ5)).mono fun e w'' q => ⟨q.1, q.2.below⟩⟩
  have NU : Aside0 (∀ v l n w', Below w.heap.size w w' → Kd.R k67 67 w' w.heap.size (fun _ => True) (eRow v) l → chatelainelaw0_Num.f l = some n → Calls Tryd.prog 12 #[v] w' fun e w'' => e = .returned (.int .i64 n) ∧ Below w'.heap.size w' w'') := ⟨fun v l n w' h1 h2 h3 => chatelainelaw0_Num.calls _ _ n w' (ErrIs.of h2) (pw_cell_below h1 HG.out) h3⟩
  have OB : Aside0 (∀ v w', Below w.heap.size w w' → Kd.R (Kd.int .u8) 5 w' w.heap.size (fun k => some k = v.ownBlock) v x → Calls Tryd.prog 22 #[v] w' fun e w'' => e = .returned (.tuple #[]) ∧ Below w.heap.size w w'' ∧ Kept w' w'' (fun k => some k = v.ownBlock)) := ⟨fun v w' h1 h2 => chatelainelaw0_OverBytes.calls 20000 _ v x w w' h1 h2 (ob_is x HLX.out)⟩
  have OI : Aside0 (∀ (P : Nat → Prop) v (l : List Int) w', Below w.heap.size w w' → Kd.R (Kd.int .i64) 3 w' w.heap.size P v l → l.length < 10000 → Calls Tryd.prog 23 #[v] w' fun e w'' => e = .returned (.tuple #[]) ∧ Below w.heap.size w w'' ∧ Kept w' w'' (fun k => P k)) := ⟨fun P v l w' h1 h2 h3 => chatelainelaw0_OverInts.calls 20000 P v l w w' h1 h2 (oi_is l h3)⟩
  have AWK : Aside0 (∀ w', Below w.heap.size w w' → Calls Tryd.prog 6 #[] w' fun e w'' => e = .returned (.bool true) ∧ Below w'.heap.size w' w'') := ⟨fun w' h1 => chatelainelaw11_awake.calls 100000 true w' (pw_cell_below h1 HG.out) LayM.awake_yes⟩
  have s1 : (n1 == n1) = true := beq_self_eq_true n1
  have s2 : (n2 == n2) = true := beq_self_eq_true n2
  have s3 : (n3 == n3) = true := beq_self_eq_true n3
  clear hg_ hr1 hc1 hr2 hc2 hgf hh hbl hB hX1 hX2 hX3 hX4 hZ1 hZ2 hZ3 hZ4 hZ5 hU1 hU2 hU3 hU4
  go_enter Tryd.func5, Tryd.ntmps5
  go_wp2_with (first | (go_at_call 22; (with_reducible refine (OB.out _ _ B13.out (Kd.R_tight rfl X13.out)).mono ?_); rintro e w14 ⟨rfl, hb14, hk14⟩; have Z14 := Aside0.mk (Kd.S_kept (Kd.S_apart' Z13.out (Kd.R_typed X13.out) (by decide)) hk14 (fun k h3 h4 => h3.2 h4)); have B14 := Aside0.mk hb14; clear hb14 hk14) | (go_at_call 12; (with_reducible refine (NU.out _ e3 n3 _ B12.out I12.out HN3.out).mono ?_); rintro e w13 ⟨rfl, hb13⟩; have X13 := Aside0.mk (Kd.R_below X12.out hb13); have Z13 := Aside0.mk (Kd.S_below Z12.out hb13); have B13 := Aside0.mk (below_step B12.out hb13); clear hb13) | (go_at_call 11; (with_reducible refine (SB.out u _ _ _ _ _ (Kd.R_reads' U11.out).2.2 (Kd.R_reads' U11.out).2.1 (Kd.R_reads' V11.out).2.2 (Kd.R_reads' V11.out).2.1 HLU.out).mono ?_); rintro e w12 ⟨rfl, hb12⟩; have X12 := Aside0.mk (Kd.R_below X11.out hb12); have Z12 := Aside0.mk (Kd.S_below Z11.out hb12); have I12 := Aside0.mk (Kd.R_below I11.out hb12); have B12 := Aside0.mk (below_step B11.out hb12); clear hb12) | (go_at_call 12; (with_reducible refine (NU.out _ e2 n2 _ B10.out G10.out HN2.out).mono ?_); rintro e w11 ⟨rfl, hb11⟩; have X11 := Aside0.mk (Kd.R_below X10.out hb11); have Z11 := Aside0.mk (Kd.S_below Z10.out hb11); have U11 := Aside0.mk (Kd.R_below U10.out hb11); have I11 := Aside0.mk (Kd.R_below I10.out hb11); have V11 := Aside0.mk (Kd.R_below V10.out hb11); have B11 := Aside0.mk (below_step B10.out hb11); clear hb11) | (go_at_call 17; (with_reducible refine (SP.out _ _ _ _ _ (Kd.S_reads' Z9.out).2.2 (Kd.S_reads' Z9.out).2.1 (Kd.S_reads' W9.out).2.2 (Kd.S_reads' W9.out).2.1).mono ?_); rintro e w10 ⟨rfl, hb10⟩; have X10 := Aside0.mk (Kd.R_below X9.out hb10); have Z10 := Aside0.mk (Kd.S_below Z9.out hb10); have G10 := Aside0.mk (Kd.R_below G9.out hb10); have U10 := Aside0.mk (Kd.R_below U9.out hb10); have I10 := Aside0.mk (Kd.R_below I9.out hb10); have V10 := Aside0.mk (Kd.R_below V9.out hb10); have B10 := Aside0.mk (below_step B9.out hb10); clear hb10) | (go_at_call 12; (with_reducible refine (NU.out _ e1 n1 _ B8.out E8.out HN1.out).mono ?_); rintro e w9 ⟨rfl, hb9⟩; have X9 := Aside0.mk (Kd.R_below X8.out hb9); have Z9 := Aside0.mk (Kd.S_below Z8.out hb9); have G9 := Aside0.mk (Kd.R_below G8.out hb9); have W9 := Aside0.mk (Kd.S_below W8.out hb9); have U9 := Aside0.mk (Kd.R_below U8.out hb9); have I9 := Aside0.mk (Kd.R_below I8.out hb9); have V9 := Aside0.mk (Kd.R_below V8.out hb9); have B9 := Aside0.mk (below_step B8.out hb9); clear hb9) | (go_at_call 11; (with_reducible refine (SB.out x _ _ _ _ _ (Kd.R_reads' X7.out).2.2 (Kd.R_reads' X7.out).2.1 (Kd.R_reads' Y7.out).2.2 (Kd.R_reads' Y7.out).2.1 HLX.out).mono ?_); rintro e w8 ⟨rfl, hb8⟩; have X8 := Aside0.mk (Kd.R_below X7.out hb8); have E8 := Aside0.mk (Kd.R_below E7.out hb8); have Z8 := Aside0.mk (Kd.S_below Z7.out hb8); have G8 := Aside0.mk (Kd.R_below G7.out hb8); have W8 := Aside0.mk (Kd.S_below W7.out hb8); have U8 := Aside0.mk (Kd.R_below U7.out hb8); have I8 := Aside0.mk (Kd.R_below I7.out hb8); have V8 := Aside0.mk (Kd.R_below V7.out hb8); have B8 := Aside0.mk (below_step B7.out hb8); clear hb8) | (go_at_call 21; (with_reducible refine (RG.out _ B6.out).mono ?_); rintro e w7 ⟨A7, c7, rfl, hrV7, hb7⟩; have X7 := Aside0.mk (Kd.R_below X6.out hb7); have E7 := Aside0.mk (Kd.R_below E6.out hb7); have Y7 := Aside0.mk (Kd.R_below Y6.out hb7); have Z7 := Aside0.mk (Kd.S_below Z6.out hb7); have G7 := Aside0.mk (Kd.R_below G6.out hb7); have W7 := Aside0.mk (Kd.S_below W6.out hb7); have U7 := Aside0.mk (Kd.R_below U6.out hb7); have I7 := Aside0.mk (Kd.R_below I6.out hb7); have B7 := Aside0.mk (below_step B6.out hb7); have V7 := Aside0.mk (Kd.R_lower hrV7 B6.out.size); clear hrV7 hb7) | (go_at_call 10; (with_reducible refine (HH.out _ B5.out).mono ?_); rintro e w6 ⟨A6, c6, vi, rfl, hrU6, hrI6, hb6⟩; have X6 := Aside0.mk (Kd.R_below X5.out hb6); have E6 := Aside0.mk (Kd.R_below E5.out hb6); have Y6 := Aside0.mk (Kd.R_below Y5.out hb6); have Z6 := Aside0.mk (Kd.S_below Z5.out hb6); have G6 := Aside0.mk (Kd.R_below G5.out hb6); have W6 := Aside0.mk (Kd.S_below W5.out hb6); have B6 := Aside0.mk (below_step B5.out hb6); have U6 := Aside0.mk (Kd.R_lower hrU6 B5.out.size); have I6 := Aside0.mk (Kd.R_lower hrI6 B5.out.size); clear hrU6 hrI6 hb6) | (go_at_call 20; (with_reducible refine (RU.out _ B4.out).mono ?_); rintro e w5 ⟨A5, c5, rfl, hrW5, hb5⟩; have X5 := Aside0.mk (Kd.R_below X4.out hb5); have E5 := Aside0.mk (Kd.R_below E4.out hb5); have Y5 := Aside0.mk (Kd.R_below Y4.out hb5); have Z5 := Aside0.mk (Kd.S_below Z4.out hb5); have G5 := Aside0.mk (Kd.R_below G4.out hb5); have B5 := Aside0.mk (below_step B4.out hb5); have W5 := Aside0.mk (Kd.S_lower hrW5 B4.out.size); clear hrW5 hb5) | (go_at_call 16; (with_reducible refine (UN.out _ B3.out).mono ?_); rintro e w4 ⟨A4, c4, vg, rfl, hrZ4, hrG4, hb4⟩; have X4 := Aside0.mk (Kd.R_below X3.out hb4); have E4 := Aside0.mk (Kd.R_below E3.out hb4); have Y4 := Aside0.mk (Kd.R_below Y3.out hb4); have B4 := Aside0.mk (below_step B3.out hb4); have Z4 := Aside0.mk (Kd.S_lower hrZ4 B3.out.size); have G4 := Aside0.mk (Kd.R_lower hrG4 B3.out.size); clear hrZ4 hrG4 hb4) | (go_at_call 19; (with_reducible refine (RH.out _ B2.out).mono ?_); rintro e w3 ⟨A3, c3, rfl, hrY3, hb3⟩; have X3 := Aside0.mk (Kd.R_below X2.out hb3); have E3 := Aside0.mk (Kd.R_below E2.out hb3); have B3 := Aside0.mk (below_step B2.out hb3); have Y3 := Aside0.mk (Kd.R_lower hrY3 B2.out.size); clear hrY3 hb3) | (go_at_call 15; (with_reducible refine (HI.out _ B1.out).mono ?_); rintro e w2 ⟨A2, c2, ve, rfl, hrX2, hrE2, hb2⟩; have B2 := Aside0.mk (below_step B1.out hb2); have X2 := Aside0.mk (Kd.R_lower hrX2 B1.out.size); have E2 := Aside0.mk (Kd.R_lower hrE2 B1.out.size); clear hrX2 hrE2 hb2) | (go_at_call 18; (with_reducible refine (GR.out _ B0.out).mono ?_); rintro e w1 ⟨rfl, hb1⟩; have B1 := Aside0.mk (below_step B0.out hb1); clear hb1))
  obtain ⟨fo, gz, hAZ, hL14⟩ := left_any Z14.out
  have HAZ := Aside0.mk hAZ
  have L14 := Aside0.mk hL14
  clear hAZ hL14
  go_loopg [20] z.length (fun kq v20 w' => ∃ i : Nat, v20 = .int .i64 (i : Int) ∧ Aside0 (i + kq = z.length) ∧ Aside0 (Left w' w.heap.size gz fo i z) ∧ Aside0 (Below w.heap.size w w'))
  case atStart => exact ⟨0, rfl, ⟨by omega⟩, L14, B14⟩
  case round =>
    obtain ⟨i, rfl, HJ, L15, B15⟩ := hrel
    by_cases ci : i < z.length
    · have y1 : decide ((i : Int) < (z.length : Int)) = true := decide_eq_true (by omega)
      have y1' : decide (i < z.length) = true := decide_eq_true ci
      have y2 : ((i : Int) < (z.length : Int)) = True := eq_true (by omega)
      have y3 : (0 ≤ (i : Int)) = True := eq_true (by omega)
      cases gk with
      | zero => have := HJ.out; omega
      | succ k1 =>
        have HCI := Aside0.mk ci
        obtain rfl := HAZ.out (by omega)
        obtain ⟨v, hv, hR⟩ := L15.out i (Nat.le_refl _) ci
        have HR15 := Aside0.mk hR
        have HZL : Aside0 (z[i].length < 10000) := ⟨by rw [HLZ.out.2 _ (List.getElem_mem ci)]; decide⟩
        have hzi : i < 1000 := by have := HLZ.out.1; omega
        clear hR
        go_wp2_with (first | (go_at_call 23; (with_reducible refine (OI.out _ _ _ _ B15.out HR15.out HZL.out).mono ?_); rintro e w16 ⟨rfl, hb16, hk16⟩; have L16 := Aside0.mk (left_step L15.out hk16); have B16 := Aside0.mk hb16; clear hb16 hk16))
        go_roundg k1
        case measure => omega
        case rel => exact ⟨i + 1, (by
          have hw : wrap64 ((i : Int) + 1) = ((i + 1 : Nat) : Int) := by have := HCI.out; have := HLZ.out.1; unfold wrap64; omega
          first | rfl | (rw [← hw]; rfl) | (simp [*]; done)), ⟨by have := HJ.out; omega⟩, L16, B16⟩
    · have y1 : decide ((i : Int) < (z.length : Int)) = false := decide_eq_false (by omega)
      have y1' : decide (i < z.length) = false := decide_eq_false ci
      go_wp2_with (first | (go_at_call 6; (with_reducible refine (AWK.out _ B15.out).mono ?_); rintro e w17 ⟨rfl, hb17⟩; have B17 := Aside0.mk (below_step B15.out hb17); clear hb17))
      go_ret
      exact ⟨rfl, B17.out⟩
end

end Go.Proofs.YtggiddekbocokaaDoor.PLR
end
section
namespace Go.Proofs.YtggiddekbocokaaDoor.PLR
open Go.RowKit Go.Proofs.YtggiddekbocokaaDoorW.PrintWords Go.Proofs.YtggiddekbocokaaDoorW.PrintLast Go.Proofs.YtggiddekbocokaaDoorW.PrintMore
attribute [local go_sem] max2_int min2_int max_two min_two max_three min_three max_four min_four   -- for this text's walks alone
set_option linter.unusedVariables false
set_option linter.unusedSimpArgs false

/-! ### chatelainelaw11_LayHints: function 5 -/
def chatelainelaw11_LayHints.f (_ : Int) (_ : List (List Int)) (b : List Int) : Option Bool := if ∀ x ∈ b, 0 ≤ x ∧ x < 256 then some true else none
theorem chatelainelaw11_LayHints.calls (a0 : Int) (A1 : Option Addr) (c1 : Nat) (l1 : List (List Int)) (A2 : Option Addr) (c2 : Nat) (l2 : List Int) (r : Bool) (w : World) (hr1 : Kd.C (Kd.slice 3 (Kd.int .i64)) w A1 l1.length l1) (hc1 : l1.length ≤ c1) (hr2 : Kd.C (Kd.int .u8) w A2 l2.length l2) (hc2 : l2.length ≤ c2) (hg_ : w.cell? ⟨0, 0, none⟩ = some (.iface 108 (.agg #[.pointer (some ⟨1, 33, none⟩)]))) (h : chatelainelaw11_LayHints.f a0 l1 l2 = some r) : Calls Tryd.prog 5 #[.int .i64 a0, .slice A1 l1.length c1, .slice A2 l2.length c2] w fun e w' => e = .returned (.bool r) ∧ Below w.heap.size w w' := by
  unfold chatelainelaw11_LayHints.f at h
  split at h
  · rename_i hB
    cases h
    obtain ⟨bg, hbg, hh⟩ := great_is l1
    by_cases c : bg = true ∨ 300 < l2.length
    · exact LHgreat.calls w hg_ a0 A1 A2 c1 _ c2 l1 hr1 hc1 bg hbg c
    · have hf : bg = false := Bool.eq_false_iff.mpr fun e => c (.inl e)
      subst hf
      exact LHints.calls w hg_ a0 A1 A2 c1 c2 l1 l2 hr1 hc1 hr2 hc2 hbg (hh rfl).1 (by omega) hB
  · cases h


/-- THE ONE PURE STATEMENT of chatelainelaw11_LayHints: yours. -/
def chatelainelaw11_LayHints.Pure : Prop := ∀ (a0 : Int) (l1 : List (List Int)) (l2 : List Int), ((Lit.int .i64 a0).wf = true) → (l1.length ≤ maxLen ∧ l1.length * 24 ≤ 140737488351232 ∧ ∀ y0_ ∈ l1, y0_.length ≤ maxLen ∧ y0_.length * 8 ≤ 140737488351232 ∧ ∀ y1_ ∈ y0_, (Lit.int .i64 y1_).wf = true) → (l2.length ≤ maxLen ∧ l2.length * 1 ≤ 140737488351232 ∧ ∀ y0_ ∈ l2, (Lit.int .u8 y0_).wf = true) → chatelainelaw11_LayHints.f a0 l1 l2 = some true
theorem chatelainelaw11_LayHints.walk (P_ : chatelainelaw11_LayHints.Pure) (a0 : Int) (A1 : Option Addr) (c1 : Nat) (l1 : List (List Int)) (A2 : Option Addr) (c2 : Nat) (l2 : List Int) (w : World) (hr1 : Kd.C (Kd.slice 3 (Kd.int .i64)) w A1 l1.length l1) (hc1 : l1.length ≤ c1) (hr2 : Kd.C (Kd.int .u8) w A2 l2.length l2) (hc2 : l2.length ≤ c2) (hg_ : w.cell? ⟨0, 0, none⟩ = some (.iface 108 (.agg #[.pointer (some ⟨1, 33, none⟩)]))) (hq0 : (Lit.int .i64 a0).wf = true) (hq1 : l1.length ≤ maxLen ∧ l1.length * 24 ≤ 140737488351232 ∧ ∀ y0_ ∈ l1, y0_.length ≤ maxLen ∧ y0_.length * 8 ≤ 140737488351232 ∧ ∀ y1_ ∈ y0_, (Lit.int .i64 y1_).wf = true) (hq2 : l2.length ≤ maxLen ∧ l2.length * 1 ≤ 140737488351232 ∧ ∀ y0_ ∈ l2, (Lit.int .u8 y0_).wf = true) :
    Calls Tryd.prog 5 #[.int .i64 a0, .slice A1 l1.length c1, .slice A2 l2.length c2] w fun e w' => e = .returned (.bool true) ∧ Below w.heap.size w w' := by
  have h := P_ a0 l1 l2 hq0 hq1 hq2
  refine (chatelainelaw11_LayHints.calls a0 A1 c1 l1 A2 c2 l2 true w hr1 hc1 hr2 hc2 hg_ h).mono ?_
  rintro e w' ⟨rfl, hd⟩
  exact ⟨rfl, hd⟩

end Go.Proofs.YtggiddekbocokaaDoor.PLR
end
section
namespace Go.Proofs.YtggiddekbocokaaDoor.Pure
open Go.RowKit Go.Proofs.YtggiddekbocokaaDoor.PLR Go.Proofs.YtggiddekbocokaaDoorW.PrintWords Go.Proofs.YtggiddekbocokaaDoorW.PrintLast

theorem wf_u8 {x : Int} (h : (Lit.int .u8 x).wf = true) : 0 ≤ x ∧ x < 256 := by
  simp [Lit.wf, IntKind.min, IntKind.max, IntKind.signed, IntKind.bits] at h
  omega
theorem LayHints : chatelainelaw11_LayHints.Pure := by
  intro a0 l1 l2 _ _ h2
  unfold chatelainelaw11_LayHints.f
  exact if_pos fun x hx => wf_u8 (h2.2.2 x hx)

end Go.Proofs.YtggiddekbocokaaDoor.Pure
end
section
/-
  What the row's one listed variable, errors.errorType, gives a walk: its cell; and a world that meets the condition.
-/
namespace Go.Proofs.YtggiddekbocokaaDoor
open Go.ChangeShapes Go.WideShapes Go.RowKit

abbrev laidList : List (String × DataW Unit) := [("errors.errorType", Rows.laid_errors_errorType)]
theorem laid_et : Tryd.prog.globalNamed "errors.errorType" = some 0 := by kernel_rfl
theorem laid_rt : (Tryd.prog.cutTypes.find? (·.1 == "internal/reflectlite.rtype")).map (·.2) = some 108 := by kernel_rfl
theorem laid_one : ((List.range Tryd.prog.types.size).filter fun t => Tryd.prog.rowNamed t [101, 114, 114, 111, 114]) = [33] := by kernel_rfl
/-- WHAT THE CONDITION GIVES A WALK: the variable's one cell. -/
theorem handle_of_laid {W : World} (h : laidMetH Tryd.prog laidList W) : W.cell? ⟨0, 0, none⟩ = some (.iface 108 (.agg #[.pointer (some ⟨1, 33, none⟩)])) := by
  have h' : laidMet Tryd.prog [] W ∧ handlesMet Tryd.prog laidList W := h
  obtain ⟨name, u, ty, e1, e2, e3, e4, e5⟩ := h'.2 _ (List.mem_singleton.2 rfl)
  have en : name = [101, 114, 114, 111, 114] := (Option.some.inj e1).symm
  subst en
  obtain rfl := Option.some.inj (laid_rt.symm.trans e2)
  have hm : ty ∈ (List.range Tryd.prog.types.size).filter fun t => Tryd.prog.rowNamed t [101, 114, 114, 111, 114] := List.mem_filter.2 ⟨List.mem_range.2 e3, e4⟩
  rw [laid_one] at hm
  obtain rfl := List.mem_singleton.1 hm
  have hh : typeHandle Tryd.prog 33 = .pointer (some ⟨1, 33, none⟩) := by kernel_rfl
  rw [hh] at e5
  simpa using World.var?_cell laid_et e5 0
/-- A world that meets the condition: the settled one, the variable's cell laid. -/
noncomputable def laidWorld (os : Os) : World :=
  let w0 := World.holding Tryd.prog os ⟨#[], #[], []⟩
  { w0 with heap := w0.heap.modify 0 fun
      | .cells _ t frozen => .cells #[.iface 108 (.agg #[.pointer (some ⟨1, 33, none⟩)])] t frozen
      | o => o }
theorem laidWorld_met (os : Os) (args : Array Value) : laidMetH Tryd.prog laidList ((laidWorld os).forCall (fun _ _ => 0) ⟨#[], args, []⟩).memory :=
  laidMetH_of_parts (laidMet_nil _ _) (by kernel_rfl)
end Go.Proofs.YtggiddekbocokaaDoor
end
