import Derived.Test.YtkdfcgihgndnnaaDoorPZ0
import Derived.Test.YtkdfcgihgndnnaaDoorPZ2
import Derived.Test.YtkdfcgihgndnnaaDoorPZ3
import Derived.KernelRfl
section
namespace Go.Proofs.YtkdfcgihgndnnaaDoor.PPA
open Go.RowKit Go.Proofs.YtkdfcgihgndnnaaDoorW.PrintWords Go.Proofs.YtkdfcgihgndnnaaDoorW.PrintLast Go.Proofs.YtkdfcgihgndnnaaDoorW.PrintMore Go.Proofs.YtkdfcgihgndnnaaDoorW.PrintZip
attribute [local go_sem] max2_int min2_int max_two min_two max_three min_three max_four min_four   -- for this text's walks alone
set_option linter.unusedVariables false
set_option linter.unusedSimpArgs false

/-! ### pke_Seal: function 33 -/
mutual
def pke_Seal.j0 : Nat → Int → List Int → List Int → List Int → Bool → Option (List Int × (List (S70)))
 | 0, _, _, _, _, _ => none
 | k + 1, x0, x1, x2, x3, x34 => if x34 = true then ((pke_fault.f 3).bind fun t391 => (some (([] : List Int), t391))) else ((pke_Of.f x0).bind fun bt394 => ((pke_read.f k 12 bt394.1 x1).bind fun bt401 => ((pke_lean.f k bt394.2.1 x3 0 bt394.1).bind fun t405 => ((pke_over.f k t405).bind fun t408 => ((pke_lean.f k bt394.2.2.1 x3 bt394.1 (wrap64 (bt394.1 + 1))).bind fun t411 => (if 0 ≤ (wrap64 (384 * bt394.1)) then (if (wrap64 (384 * bt394.1)) ≤ (x1.length : Int) then ((pke_even.f k bt394.1 bt394.2.1 bt394.2.2.1 bt394.2.2.2.1 bt394.2.2.2.2.1 (x1.drop ((wrap64 (384 * bt394.1)) : Int).toNat) true).bind fun t415 => (pke_Seal.l0 k x2 bt401.1 t408 t411 ([] : List Int) t415 (t415.length : Int) 0 bt394.1 bt394.2.1 bt394.2.2.1 bt394.2.2.2.1 bt394.2.2.2.2.1)) else (none)) else (none)))))))
def pke_Seal.l0 : Nat → List Int → List (List Int) → List (List Int) → List (List Int) → List Int → List (List (List Int)) → Int → Int → Int → Int → Int → Int → Int → Option (List Int × (List (S70)))
 | 0, _, _, _, _, _, _, _, _, _, _, _, _, _ => none
 | k + 1, x2, x13, x15, x16, x17, x70, x71, x72, x401000, x401001, x401002, x401003, x401004 => if x72 < x71 then (if 0 ≤ x72 then (if x72 < (x70.length : Int) then ((poly_Dot.f k (rd_L6 x70 x72) x15).bind fun t419 => ((poly_Back.f k t419).bind fun t422 => (if x72 < (x16.length : Int) then ((poly_Add.f k t422 (rd_L3 x16 x72)).bind fun t426 => ((pke_squash.f k x401003 t426).bind fun t429 => (if x17.length + t429.length < 140737488355328 then (pke_Seal.l0 k x2 x13 x15 x16 (x17 ++ t429) x70 x71 (wrap64 (x72 + 1)) x401000 x401001 x401002 x401003 x401004) else (none)))) else (none)))) else (none)) else (none)) else ((poly_Dot.f k x13 x15).bind fun t435 => ((poly_Back.f k t435).bind fun t438 => (if 0 ≤ x401000 then (if x401000 < (x16.length : Int) then ((poly_Add.f k t438 (rd_L3 x16 x401000)).bind fun t442 => ((pke_message.f k x2).bind fun t445 => ((poly_Add.f k t442 t445).bind fun t448 => ((pke_squash.f k x401004 t448).bind fun t451 => (if x17.length + t451.length < 140737488355328 then (some ((x17 ++ t451), ([] : List (S70)))) else (none)))))) else (none)) else (none))))
end
def pke_Seal.f (k : Nat) (a0 : Int) (l1 : List Int) (l2 : List Int) (l3 : List Int) : Option (List Int × (List (S70))) := (pke_May.f k a0 l1).bind fun t388 => (if t388.isEmpty = true then (if (l2.length : Int) = 32 then (pke_Seal.j0 k a0 l1 l2 l3 ((l3.length : Int) != 32)) else (pke_Seal.j0 k a0 l1 l2 l3 true)) else (some (([] : List Int), t388)))
def pke_Seal.T8 : Bool × List (List Nat × List Nat) := (true, [([], []), ([0], [0]), ([], []), ([], []), ([3], [3]), ([1, 2, 4], [1, 2, 4]), ([5, 5], [5]), ([], []), ([7], [7]), ([], []), ([], []), ([10], [10]), ([], []), ([12], [12]), ([13], [13]), ([8, 9, 11, 14, 6], [8, 9, 11, 14]), ([6, 15, 0, 1, 2, 3, 4, 5, 6], [6]), ([15, 16, 0, 1, 2, 3, 4, 5, 6, 7, 8, 9, 10, 11, 12, 13, 14, 15, 16], [15])])
def pke_Seal.B8 : List Nat := [0, 1, 0, 0, 8, 31, 63, 0, 128, 0, 0, 1024, 0, 4096, 12288, 32767, 65535, 131071]
theorem pke_Seal.tab8 : rtab .any (opsOf Tryd.f33 8) = pke_Seal.T8 := by kernel_rfl
theorem pke_Seal.bits8 : waitsOk pke_Seal.T8.2 pke_Seal.B8 = true := by kernel_rfl
def pke_Seal.T10 : Bool × List (List Nat × List Nat) := (true, [([], []), ([], []), ([], []), ([2], [2]), ([3], [3]), ([1, 4], [1, 4]), ([0, 5], [0, 5]), ([6], [6]), ([], [])])
def pke_Seal.B10 : List Nat := [0, 0, 0, 4, 12, 30, 63, 127, 0]
theorem pke_Seal.tab10 : rtab .any (opsOf Tryd.f33 10) = pke_Seal.T10 := by kernel_rfl
theorem pke_Seal.bits10 : waitsOk pke_Seal.T10.2 pke_Seal.B10 = true := by kernel_rfl
def pke_Seal.T13 : Bool × List (List Nat × List Nat) := (true, [([], []), ([], []), ([1], [1]), ([], []), ([], []), ([3, 4], [3, 4]), ([5, 5], [5]), ([], []), ([], []), ([7, 8], [7, 8]), ([9], [9]), ([6, 10, 6], [6, 10]), ([2, 11, 11], [2, 11]), ([0, 12, 12], [0, 12]), ([13, 13, 0, 1, 2, 3, 4, 5, 6, 7, 8, 9, 10, 11, 12, 13], [0, 13])])
def pke_Seal.B13 : List Nat := [0, 0, 2, 0, 0, 24, 56, 0, 0, 384, 896, 2040, 4094, 8191, 16383]
theorem pke_Seal.tab13 : rtab .any (opsOf Tryd.f33 13) = pke_Seal.T13 := by kernel_rfl
theorem pke_Seal.bits13 : waitsOk pke_Seal.T13.2 pke_Seal.B13 = true := by kernel_rfl
def pke_Seal.T15 : Bool × List (List Nat × List Nat) := (true, [([], []), ([], []), ([0, 1], [0, 1]), ([2, 2], [2]), ([], []), ([], []), ([5], [5]), ([4, 6], [4, 6]), ([7], [7]), ([3, 8, 3], [3, 8]), ([], []), ([10, 9], [10]), ([9, 11, 11], [9, 11]), ([12, 12, 0, 1, 2, 3, 4, 5, 6, 7, 8, 9, 10, 11, 12], [12])])
def pke_Seal.B15 : List Nat := [0, 0, 3, 7, 0, 0, 32, 112, 240, 511, 0, 2047, 4095, 8191]
theorem pke_Seal.tab15 : rtab .any (opsOf Tryd.f33 15) = pke_Seal.T15 := by kernel_rfl
theorem pke_Seal.bits15 : waitsOk pke_Seal.T15.2 pke_Seal.B15 = true := by kernel_rfl
set_option maxHeartbeats 8000000 in
set_option maxRecDepth 100000 in
theorem pke_Seal.calls (k : Nat) (a0 : Int) (A1 : Option Addr) (c1 : Nat) (l1 : List Int) (A2 : Option Addr) (c2 : Nat) (l2 : List Int) (A3 : Option Addr) (c3 : Nat) (l3 : List Int) (r1 : List Int) (r2 : List (S70)) (w : World) (hr1 : Kd.C (Kd.int .u8) w A1 l1.length l1) (hc1 : l1.length ≤ c1) (hr2 : Kd.C (Kd.int .u8) w A2 l2.length l2) (hc2 : l2.length ≤ c2) (hr3 : Kd.C (Kd.int .u8) w A3 l3.length l3) (hc3 : l3.length ≤ c3) (h : pke_Seal.f k a0 l1 l2 l3 = some (r1, r2)) :
  Calls Tryd.prog 33 #[.int .i64 a0, .slice A1 l1.length c1, .slice A2 l2.length c2, .slice A3 l3.length c3] w fun e w' => ∃ v0_ v1_ : Value, e = .returned (.tuple #[v0_, v1_]) ∧ Kd.R (Kd.int .u8) 5 w' w.heap.size (fun _ => True) v0_ r1 ∧ Kd.R k70 70 w' w.heap.size (fun _ => True) (eRow v1_) r2 ∧ Below w.heap.size w w' := by
 have hu34 := Tryd.underlying34
 have HR1 := Aside0.mk hr1
 have HC1 := Aside0.mk hc1
 clear hr1 hc1
 have HR2 := Aside0.mk hr2
 have HC2 := Aside0.mk hc2
 clear hr2 hc2
 have HR3 := Aside0.mk hr3
 have HC3 := Aside0.mk hc3
 clear hr3 hc3
 have HB := Aside0.mk (Below.refl w.heap.size w)
 have H := h
 unfold pke_Seal.f at H
 clear h
 replace H := Option.bind_eq_some_iff.mp H
 obtain ⟨t388, A50, H⟩ := H
 try dsimp only at H
 have A5 := Aside0.mk A50
 clear A50
 go_enter Tryd.func33, Tryd.ntmps33
 repeat (first | (go_big_may; go_says (first | ((with_reducible refine gate_callee (f := 19) rfl ?_); refine goesL_ (some 23) rfl rfl Tryd.func19 (by kernel_rfl) rfl #[.int .i64 a0, .slice A1 l1.length c1] rfl Mq ?_; (with_reducible refine (pke_May.calls k a0 _ _ l1 t388 _ ?side1 ?side2 A5.out).mono ?_); (case side1 => exact Cq (HR1.out)); (case side2 => exact HC1.out); rintro e w6 ⟨v389, rfl, ho0, hb⟩; refine ⟨_, rfl, ?_⟩; have HO390 := Aside0.mk (Kd.R_lower ho0 (below_size Bq)); replace HB := Aside0.mk (below_step Bq hb); clear hb ho0; (try clear A5)))) | go_values | go_skip | go_guarded | ((with_reducible refine own_cond ?_); (first | refine own_condT rfl ?_ | refine own_condF rfl ?_)) | ((with_reducible refine own_ite ?_); (first | rw [own_iteT] | rw [own_iteF])) | ((fail_if_success (with_reducible refine own_ite ?_)); (fail_if_success (with_reducible refine own_cond ?_)); (first | (go_step; (first | (fail_if_success (with_reducible refine own_upon ?_)) | go_step | go_upon); (fail_if_success ((case' isTrue => skip); (case' isFalse => skip)))) | go_upon | ((with_reducible refine own_upon ?_); go_simp) | dsimp only)))
 by_cases c7 : t388.isEmpty = true
 ·rw [if_pos c7] at H
  replace c7 := Aside0.mk c7
  have HC8 := Aside0.mk H
  clear H
  obtain rfl := eRow_none HO390.out c7.out
  go_upto_region 4 with (fail)
  go_cut [34] (fun v34 wc => ∃ (kq : Nat) (x34_7 : Bool), v34 = .bool x34_7 ∧ Aside0 (pke_Seal.j0 kq a0 l1 l2 l3 x34_7 = some (r1, r2)) ∧ Aside0 (kq ≤ k) ∧ Aside0 (Below w.heap.size w wc))
  case first =>
   have H := HC8.out
   clear HC8
   by_cases c9 : (l2.length : Int) = 32
   ·rw [if_pos c9] at H
    (first | rw [if_pos c9] | rw [if_pos (eq_of_beq c9)] | skip)
    have c9b0 : ((l2.length : Int) == 32) = true := beq_iff_eq.mpr c9
    have c9b1 : ((l2.length : Int) != 32) = false := bne_eq_false_iff_eq.mpr c9
    clear c9
    (first | rw [c9b0] | rw [c9b1] | (simp only [i64_w, i32_w]; rw [c9b0]) | skip)
    have H' := Aside0.mk H
    clear H
    go_wp2
    go_meet
    case rel => exact ⟨_, (((l3.length : Int) != 32)), Rq, H', ⟨by first | omega | exact Nat.le_refl _⟩, ⟨Bq⟩⟩
   ·rw [if_neg c9] at H
    (first | rw [if_neg c9] | rw [if_neg (fun e_ => c9 (beq_iff_eq.mpr e_))] | skip)
    have c9b0 : ((l2.length : Int) == 32) = false := beq_eq_false_iff_ne.mpr c9
    have c9b1 : ((l2.length : Int) != 32) = true := bne_iff_ne.mpr c9
    (first | rw [c9b0] | rw [c9b1] | (simp only [i64_w, i32_w]; rw [c9b0]) | skip)
    have H' := Aside0.mk H
    clear H
    go_wp2
    go_meet
    case rel => exact ⟨_, (true), Rq, H', ⟨by first | omega | exact Nat.le_refl _⟩, ⟨Bq⟩⟩
  case rest =>
   clear HC8
   try clear c1
   try clear c2
   try clear p2
   try clear c3
   try clear c7
   try clear c9
   try clear c9b0
   try clear c9b1
   obtain ⟨kq, x34_7, rfl, HA, HJ7, HB⟩ := hcut
   cases kq with
   | zero => exact absurd HA.out (by simp [pke_Seal.j0])
   | succ kj7 =>
    have H := HA.out
    clear HA
    simp only [pke_Seal.j0] at H
    by_cases c10 : x34_7 = true
    ·subst c10
     rw [if_pos rfl] at H
     replace H := Option.bind_eq_some_iff.mp H
     obtain ⟨t391, A110, H⟩ := H
     try dsimp only at H
     have A11 := Aside0.mk A110
     clear A110
     simp only [Option.some.injEq, Prod.mk.injEq] at H
     obtain ⟨rfl, rfl⟩ := H
     go_wp2_with (first | ((with_reducible refine gate_callee (f := 26) rfl ?_); refine goesL_ (some 35) rfl rfl Tryd.func26 (by kernel_rfl) rfl #[.int .i64 3] rfl Mq ?_; (with_reducible refine (pke_fault.calls 3 t391 _ A11.out).mono ?_); rintro e w12 ⟨v392, rfl, ho0, hb⟩; refine ⟨_, rfl, ?_⟩; have HO393 := Aside0.mk (Kd.R_lower ho0 (below_size Bq)); replace HB := Aside0.mk (below_step Bq hb); clear hb ho0; (try clear A11)))
     go_ret2
     exact ⟨_, _, by first | rfl | (simp [errW_none, errW_some] <;> rfl) | (simp [*, errW_none, errW_some] <;> rfl), by first | exact Kd.R_nil _ _ _ _ _ | exact Kd.N_nil _ _ _ _ _ | exact Kd.V_nil _ _ _ _ _ | exact Kd.Q_nil _ _ _ _ _ | exact Kd.S_nil _ _ _ _ _, Wq HO393, Bq⟩
    ·replace c10 := Bool.eq_false_iff.mpr c10
     subst c10
     rw [if_neg nf] at H
     replace H := Option.bind_eq_some_iff.mp H
     obtain ⟨⟨t394, t395, t396, t397, t398, t399⟩, A130, H⟩ := H
     try dsimp only at H
     have A13 := Aside0.mk A130
     clear A130
     replace H := Option.bind_eq_some_iff.mp H
     obtain ⟨⟨t401, t402⟩, A140, H⟩ := H
     try dsimp only at H
     have A14 := Aside0.mk A140
     clear A140
     replace H := Option.bind_eq_some_iff.mp H
     obtain ⟨t405, A150, H⟩ := H
     try dsimp only at H
     have A15 := Aside0.mk A150
     clear A150
     replace H := Option.bind_eq_some_iff.mp H
     obtain ⟨t408, A160, H⟩ := H
     try dsimp only at H
     have A16 := Aside0.mk A160
     clear A160
     replace H := Option.bind_eq_some_iff.mp H
     obtain ⟨t411, A170, H⟩ := H
     try dsimp only at H
     have A17 := Aside0.mk A170
     clear A170
     obtain ⟨ji18, hji18⟩ : ∃ j_ : Int, (wrap64 (384 * t394)) = j_ := ⟨_, rfl⟩
     replace H : (if 0 ≤ (ji18) then (if (ji18) ≤ (l1.length : Int) then ((pke_even.f kj7 t394 t395 t396 t397 t398 (l1.drop ((ji18) : Int).toNat) true).bind fun t415 => (pke_Seal.l0 kj7 l2 t401 t408 t411 ([] : List Int) t415 (t415.length : Int) 0 t394 t395 t396 t397 t398)) else (none)) else (none)) = some (r1, r2) := by first | (rw [hji18] at H; exact H) | (simp only [hji18] at H ⊢; exact H)
     (try rw [hji18] at A13)
     (try rw [hji18] at A14)
     (try rw [hji18] at A15)
     (try rw [hji18] at A16)
     (try rw [hji18] at A17)
     have hji18w : (IntKind.i64.wrap (384 * t394)) = ji18 := (i64_w _).trans hji18
     by_cases c19 : 0 ≤ (ji18)
     ·rw [if_pos c19] at H
      have c19b0 := eq_true c19
      have c19b1 : decide (0 ≤ (ji18)) = true := decide_eq_true c19
      clear c19
      by_cases c20 : (ji18) ≤ (l1.length : Int)
      ·rw [if_pos c20] at H
       have c20b0 := eq_true c20
       have c20b1 : decide ((ji18) ≤ (l1.length : Int)) = true := decide_eq_true c20
       clear c20
       replace H := Option.bind_eq_some_iff.mp H
       obtain ⟨t415, A210, H⟩ := H
       try dsimp only at H
       have A21 := Aside0.mk A210
       clear A210
       have H' := Aside0.mk H
       clear H
       try go_wp2_with (first | ((with_reducible refine gate_callee (f := 13) rfl ?_); refine goesL_ (some 38) rfl rfl Tryd.func13 (by kernel_rfl) rfl #[.int .i64 a0] rfl Mq ?_; (with_reducible refine (pke_Of.calls a0 t394 t395 t396 t397 t398 t399 _ A13.out).mono ?_); rintro e w22 ⟨rfl, hb⟩; refine ⟨_, rfl, ?_⟩; replace HB := Aside0.mk (below_step Bq hb); clear hb; (try clear A13)) | ((with_reducible refine gate_dst (N := 11) rfl ?_); (try (refine gate_guard (by rfl) ?_; dsimp only)); refine box_event ?hg (N := 11) ?hd (cs := #[.int .i64 0, .int .i64 0, .int .i64 0, .int .i64 0, .int .i64 0]) (t := 34) ?hr ?_; (case hd => rfl); (case hg => rfl); (case hr => first | (go_simp; done) | (go_simp; rfl)); intro gb400 hg w23 hbox hb; have BK400 := Aside0.mk (hbox); have GW400 := Aside0.mk ((by rw [hg]; exact (below_size Bq) : w.heap.size ≤ gb400)); have GE400 := Aside0.mk ((by rw [hg]; exact (below_size Bq) : w.heap.size ≤ gb400)); replace HB := Aside0.mk (below_step Bq hb); clear hb hbox hg; have hcz24_0 : w23.cell? ⟨gb400, 0, none⟩ = some (.int .i64 0) := (blk_cell BK400.out 0).trans rfl; have hcz24_1 : w23.cell? ⟨gb400, 1, none⟩ = some (.int .i64 0) := (blk_cell BK400.out 1).trans rfl; have hcz24_2 : w23.cell? ⟨gb400, 2, none⟩ = some (.int .i64 0) := (blk_cell BK400.out 2).trans rfl; have hcz24_3 : w23.cell? ⟨gb400, 3, none⟩ = some (.int .i64 0) := (blk_cell BK400.out 3).trans rfl; have hcz24_4 : w23.cell? ⟨gb400, 4, none⟩ = some (.int .i64 0) := (blk_cell BK400.out 4).trans rfl; have hfz24_0 := blk_frozen BK400.out 0; have hfz24_1 := blk_frozen BK400.out 1; have hfz24_2 := blk_frozen BK400.out 2; have hfz24_3 := blk_frozen BK400.out 3; have hfz24_4 := blk_frozen BK400.out 4) | ((with_reducible refine gate_callee (f := 38) rfl ?_); refine goesL_ (some 45) rfl rfl Tryd.func38 (by kernel_rfl) rfl #[.int .i64 12, .int .i64 t394, .slice A1 l1.length c1] rfl Mq ?_; (with_reducible refine (pke_read.calls kj7 12 t394 _ _ l1 t401 t402 _ ?side1 ?side2 A14.out).mono ?_); (case side1 => exact Kd.C_below HR1.out Bq); (case side2 => exact HC1.out); rintro e w25 ⟨v403, rfl, ho0, hb⟩; refine ⟨_, rfl, ?_⟩; have HO404 := Aside0.mk (Kd.S_lower ho0 (below_size Bq)); replace BK400 := Aside0.mk (blk_below (g := gb400) (o := .cells #[.int .i64 t394, .int .i64 t395, .int .i64 t396, .int .i64 t397, .int .i64 t398] 34 (0, 0)) (by (with_reducible repeat (first | refine blk_drewN ?_ _ | refine blk_drew ?_ | refine blk_alloc ?_ _)); refine blk_put (cs := #[.int .i64 t394, .int .i64 t395, .int .i64 t396, .int .i64 t397, .int .i64 0]) ?_ 4 _ rfl; (with_reducible repeat (first | refine blk_drewN ?_ _ | refine blk_drew ?_ | refine blk_alloc ?_ _)); refine blk_put (cs := #[.int .i64 t394, .int .i64 t395, .int .i64 t396, .int .i64 0, .int .i64 0]) ?_ 3 _ rfl; (with_reducible repeat (first | refine blk_drewN ?_ _ | refine blk_drew ?_ | refine blk_alloc ?_ _)); refine blk_put (cs := #[.int .i64 t394, .int .i64 t395, .int .i64 0, .int .i64 0, .int .i64 0]) ?_ 2 _ rfl; (with_reducible repeat (first | refine blk_drewN ?_ _ | refine blk_drew ?_ | refine blk_alloc ?_ _)); refine blk_put (cs := #[.int .i64 t394, .int .i64 0, .int .i64 0, .int .i64 0, .int .i64 0]) ?_ 1 _ rfl; (with_reducible repeat (first | refine blk_drewN ?_ _ | refine blk_drew ?_ | refine blk_alloc ?_ _)); refine blk_put (cs := #[.int .i64 0, .int .i64 0, .int .i64 0, .int .i64 0, .int .i64 0]) ?_ 0 _ rfl; (with_reducible repeat (first | refine blk_drewN ?_ _ | refine blk_drew ?_ | refine blk_alloc ?_ _)); exact BK400.out) hb); replace HB := Aside0.mk (below_step Bq hb); clear hb ho0; (try clear A14)))
       replace HO404 := Aside0.mk (Kd.S_drew HO404.out)
       replace BK400 := Aside0.mk (blk_drew BK400.out)
       replace HB := Aside0.mk (below_drew1 HB.out)
       refine start_ (n := 18) (S := fun w' => w'.cell? ⟨gb400, 0, none⟩ = some (.int .i64 t394) ∧ w'.cell? ⟨gb400, 1, none⟩ = some (.int .i64 t395) ∧ w'.cell? ⟨gb400, 2, none⟩ = some (.int .i64 t396) ∧ w'.cell? ⟨gb400, 3, none⟩ = some (.int .i64 t397) ∧ w'.cell? ⟨gb400, 4, none⟩ = some (.int .i64 t398)) (ds := []) (bl 18 0) (by kernel_rfl) rfl rfl ⟨(blk_cell BK400.out 0).trans rfl, (blk_cell BK400.out 1).trans rfl, (blk_cell BK400.out 2).trans rfl, (blk_cell BK400.out 3).trans rfl, (blk_cell BK400.out 4).trans rfl⟩ (fun hHeld => ?_); refine with_tabW pke_Seal.tab8 pke_Seal.bits8 (fun HT_ HW_ => ?_)
       generalize w25.drew = w26 at HO404 BK400 HB hHeld ⊢
       refine pq 0 (some 48) (bl 18 1) ?_
       refine pq 2 (some 50) (bl 18 5) ?_
       refine pq 3 (some 51) (bl 18 13) ?_
       refine pq 7 (some 55) (bl 18 141) ?_
       refine pq 9 (some 57) (bl 18 653) ?_
       refine pq 10 (some 58) (bl 18 1677) ?_
       refine pq 12 (some 60) (bl 18 5773) ?_
       refine tq 1 (some 49) (bl 18 5775) ?_
       refine tq 4 (some 52) (bl 18 5791) ?_
       refine tq 8 (some 56) (bl 18 6047) ?_
       refine tq 11 (some 59) (bl 18 8095) ?_
       refine tq 13 (some 61) (bl 18 16287) ?_
       refine pq 14 (some 62) (bl 18 32671) ?_
       refine one_ (i := 5) (N := some 53) (bl 18 32703) rfl rfl (one_of HT_.out (by kernel_rfl)) (by decide) (fun K hK => ?_)
       refine goes_ Tryd.func28 (by kernel_rfl) rfl #[.int .i64 t395, .slice A3 l3.length c3, .int .i64 0, .int .i64 t394] (by rfl) rfl rfl Mq ?_
       with_reducible refine (pke_lean.calls kj7 t395 _ _ l3 0 t394 t405 _ ?side1 ?side2 A15.out).mono ?_
       (case side1 => exact Cq (Kd.C_below HR3.out HB.out))
       (case side2 => exact HC3.out)
       rintro e w27 ⟨v406, rfl, ho0, hb⟩
       refine ⟨_, rfl, ?_⟩
       have HO407 := Aside0.mk (Kd.S_lower (Kd.S_new' ho0 (Kd.S_lt (Wq HO404))) (below_size Bq))
       replace HO404 := Aside0.mk (Kd.S_elder' (Wq HO404) (Kd.S_base ho0) hb)
       replace BK400 := Aside0.mk (blk_below (g := gb400) (o := .cells #[.int .i64 t394, .int .i64 t395, .int .i64 t396, .int .i64 t397, .int .i64 t398] 34 (0, 0)) (Kq BK400) hb)
       replace HB := Aside0.mk (below_step Bq hb)
       clear hb ho0; (try clear A15)
       obtain ⟨Ao28, co28, eo28⟩ := Kd.S_slice HO407.out
       (first | subst eo28 | (injection eo28 with f1_ f2_ f3_; have f4_ := f1_.symm; have f5_ := f3_.symm; clear f1_ f2_ f3_; subst f4_; subst f5_))
       refine hK.out _ _ ⟨(blk_cell BK400.out 0).trans rfl, (blk_cell BK400.out 1).trans rfl, (blk_cell BK400.out 2).trans rfl, (blk_cell BK400.out 3).trans rfl, (blk_cell BK400.out 4).trans rfl⟩ (fun hHeld => ?_)
       clear hK K
       refine norm_ (a' := ?_) ?_ ?_
       rotate_left
       ·show Act.put _ (some 53) _ = _
        simp only [Act.put, List.setIfInBounds_toArray, List.set_cons_zero, List.set_cons_succ, i64_w, i32_w]
        rfl
       refine one_ (i := 6) (N := some 54) (bl 18 32767) rfl rfl (one_of HT_.out (by kernel_rfl)) (by decide) (fun K hK => ?_)
       refine goes_ Tryd.func27 (by kernel_rfl) rfl #[.slice Ao28 t405.length co28] (by rfl) rfl rfl Mq ?_
       with_reducible refine (pke_over.calls kj7 _ _ t405 t408 _ ?side1 ?side2 A16.out).mono ?_
       (case side1 => repeat (first | exact (Kd.S_reads' HO407.out).2.2 | (with_reducible refine Kd.C_alloc ?_ _) | (with_reducible refine Kd.C_drewN ?_ _) | (with_reducible refine Kd.C_drew ?_)))
       (case side2 => exact (Kd.S_reads' HO407.out).2.1)
       rintro e w29 ⟨v409, rfl, ho0, hb⟩
       refine ⟨_, rfl, ?_⟩
       have HO410 := Aside0.mk (Kd.S_lower (Kd.S_new' (Kd.S_new' ho0 (Kd.S_lt (Wq HO404))) (Kd.S_lt (Wq HO407))) (below_size Bq))
       replace HO404 := Aside0.mk (Kd.S_elder' (Wq HO404) (Kd.S_base ho0) hb)
       replace HO407 := Aside0.mk (Kd.S_elder' (Wq HO407) (Kd.S_base ho0) hb)
       replace BK400 := Aside0.mk (blk_below (g := gb400) (o := .cells #[.int .i64 t394, .int .i64 t395, .int .i64 t396, .int .i64 t397, .int .i64 t398] 34 (0, 0)) (Kq BK400) hb)
       replace HB := Aside0.mk (below_step Bq hb)
       clear hb ho0; (try clear A16)
       refine hK.out _ _ ⟨(blk_cell BK400.out 0).trans rfl, (blk_cell BK400.out 1).trans rfl, (blk_cell BK400.out 2).trans rfl, (blk_cell BK400.out 3).trans rfl, (blk_cell BK400.out 4).trans rfl⟩ (fun hHeld => ?_)
       clear hK K
       refine norm_ (a' := ?_) ?_ ?_
       rotate_left
       ·show Act.put _ (some 54) _ = _
        simp only [Act.put, List.setIfInBounds_toArray, List.set_cons_zero, List.set_cons_succ, i64_w, i32_w]
        rfl
       refine one_ (i := 15) (N := some 63) (bl 18 65535) rfl rfl (one_of HT_.out (by kernel_rfl)) (by decide) (fun K hK => ?_)
       refine goes_ Tryd.func28 (by kernel_rfl) rfl #[.int .i64 t396, .slice A3 l3.length c3, .int .i64 t394, .int .i64 (wrap64 (t394 + 1))] (by rfl) rfl rfl Mq ?_
       with_reducible refine (pke_lean.calls kj7 t396 _ _ l3 t394 (wrap64 (t394 + 1)) t411 _ ?side1 ?side2 A17.out).mono ?_
       (case side1 => exact Cq (Kd.C_below HR3.out HB.out))
       (case side2 => exact HC3.out)
       rintro e w30 ⟨v412, rfl, ho0, hb⟩
       refine ⟨_, rfl, ?_⟩
       have HO413 := Aside0.mk (Kd.S_lower (Kd.S_new' (Kd.S_new' (Kd.S_new' ho0 (Kd.S_lt (Wq HO404))) (Kd.S_lt (Wq HO407))) (Kd.S_lt (Wq HO410))) (below_size Bq))
       replace HO404 := Aside0.mk (Kd.S_elder' (Wq HO404) (Kd.S_base ho0) hb)
       replace HO407 := Aside0.mk (Kd.S_elder' (Wq HO407) (Kd.S_base ho0) hb)
       replace HO410 := Aside0.mk (Kd.S_elder' (Wq HO410) (Kd.S_base ho0) hb)
       replace BK400 := Aside0.mk (blk_below (g := gb400) (o := .cells #[.int .i64 t394, .int .i64 t395, .int .i64 t396, .int .i64 t397, .int .i64 t398] 34 (0, 0)) (Kq BK400) hb)
       replace HB := Aside0.mk (below_step Bq hb)
       clear hb ho0; (try clear A17)
       refine hK.out _ _ ⟨(blk_cell BK400.out 0).trans rfl, (blk_cell BK400.out 1).trans rfl, (blk_cell BK400.out 2).trans rfl, (blk_cell BK400.out 3).trans rfl, (blk_cell BK400.out 4).trans rfl⟩ (fun hHeld => ?_)
       clear hK K
       refine norm_ (a' := ?_) ?_ ?_
       rotate_left
       ·show Act.put _ (some 63) _ = _
        simp only [Act.put, List.setIfInBounds_toArray, List.set_cons_zero, List.set_cons_succ, i64_w, i32_w]
        rfl
       refine pq 16 (some 15) (bl 18 131071) ?_
       refine pq 17 (some 16) (bl 18 262143) ?_
       refine done_ (done_of HT_.out (by kernel_rfl)) ?_
       try go_wp2
       replace HO404 := Aside0.mk (Kd.S_drew HO404.out)
       replace HO407 := Aside0.mk (Kd.S_drew HO407.out)
       replace HO410 := Aside0.mk (Kd.S_drew HO410.out)
       replace HO413 := Aside0.mk (Kd.S_drew HO413.out)
       replace BK400 := Aside0.mk (blk_drew BK400.out)
       replace HB := Aside0.mk (below_drew1 HB.out)
       obtain ⟨i032, hi032, _, hsz32, _⟩ := info_parts info5
       obtain ⟨A32, hcut32, hA32, hC32⟩ := print_drop_of (P := Tryd.prog) (Value.int .u8) 0 22 5 .i64 Tryd.underlying22 hi032 hsz32 A1 c1 l1 (ji18) (of_decide_eq_true Aq) (of_decide_eq_true Aq) HC1.out
       have HR414 := Aside0.mk (Kd.C_of_reads (h1 := fun _ => rfl) (hA32 _ (Kd.reads_of_C HR1.out)))
       have HC414 := Aside0.mk hC32
       clear hA32 hC32 hi032 hsz32
       refine start_ (n := 9) (S := fun w' => w'.cell? ⟨gb400, 0, none⟩ = some (.int .i64 t394) ∧ w'.cell? ⟨gb400, 1, none⟩ = some (.int .i64 t395) ∧ w'.cell? ⟨gb400, 2, none⟩ = some (.int .i64 t396) ∧ w'.cell? ⟨gb400, 3, none⟩ = some (.int .i64 t397) ∧ w'.cell? ⟨gb400, 4, none⟩ = some (.int .i64 t398)) (ds := []) (bl 9 0) (by kernel_rfl) rfl rfl ⟨(blk_cell BK400.out 0).trans rfl, (blk_cell BK400.out 1).trans rfl, (blk_cell BK400.out 2).trans rfl, (blk_cell BK400.out 3).trans rfl, (blk_cell BK400.out 4).trans rfl⟩ (fun hHeld => ?_); refine with_tabW pke_Seal.tab10 pke_Seal.bits10 (fun HT_ HW_ => ?_)
       generalize w30.drew = w31 at HO404 HO407 HO410 HO413 BK400 HB HR414 hHeld ⊢
       refine pq 1 (some 65) (bl 9 2) ?_
       refine pq 2 (some 66) (bl 9 6) ?_
       refine pq 8 (some 72) (bl 9 262) ?_
       refine tq 0 (some 64) (bl 9 263) ?_
       refine tq 3 (some 67) (bl 9 271) ?_
       refine pq 4 (some 68) (bl 9 287) ?_
       refine pq 5 (some 69) (bl 9 319) ?_
       refine one_ (i := 6) (N := some 70) (bl 9 383) rfl rfl (one_of HT_.out (by kernel_rfl)) (by decide) (fun K hK => ?_)
       refine goes_ Tryd.func29 (by kernel_rfl) rfl #[.agg #[.int .i64 t394, .int .i64 t395, .int .i64 t396, .int .i64 t397, .int .i64 t398], .slice A32 (l1.drop ((ji18) : Int).toNat).length (c1 - (ji18).toNat), .bool true] (by rfl) rfl rfl (by (try simp only [List.map_toArray, List.map_cons, List.map_nil]); first | done | (rw [show (l1.drop ((ji18) : Int).toNat).length = (l1.length - (ji18).toNat) from List.length_drop] <;> rfl) | (simp only [hji18]; rfl) | rfl | (simp only [List.length_drop, List.length_take]; rfl)) ?_
       with_reducible refine (pke_even.calls kj7 t394 t395 t396 t397 t398 _ _ (l1.drop ((ji18) : Int).toNat) true t415 _ ?side1 ?side2 A21.out).mono ?_
       (case side1 => exact Cq (Kd.C_below HR414.out HB.out))
       (case side2 => exact HC414.out)
       rintro e w33 ⟨v416, rfl, ho0, hb⟩
       refine ⟨_, rfl, ?_⟩
       have HO417 := Aside0.mk (Kd.R_lower (Kd.R_new' (Kd.R_new' (Kd.R_new' (Kd.R_new' ho0 (Kd.S_lt (Wq HO404))) (Kd.S_lt (Wq HO407))) (Kd.S_lt (Wq HO410))) (Kd.S_lt (Wq HO413))) (below_size Bq))
       replace HO404 := Aside0.mk (Kd.S_below (Wq HO404) hb)
       replace HO407 := Aside0.mk (Kd.S_below (Wq HO407) hb)
       replace HO410 := Aside0.mk (Kd.S_below (Wq HO410) hb)
       replace HO413 := Aside0.mk (Kd.S_below (Wq HO413) hb)
       replace BK400 := Aside0.mk (blk_below (g := gb400) (o := .cells #[.int .i64 t394, .int .i64 t395, .int .i64 t396, .int .i64 t397, .int .i64 t398] 34 (0, 0)) (Kq BK400) hb)
       replace HB := Aside0.mk (below_step Bq hb)
       clear hb ho0; (try clear A21)
       obtain ⟨Ao34, co34, eo34⟩ := Kd.R_slice HO417.out
       (first | subst eo34 | (injection eo34 with f1_ f2_ f3_; have f4_ := f1_.symm; have f5_ := f3_.symm; clear f1_ f2_ f3_; subst f4_; subst f5_))
       refine hK.out _ _ ⟨(blk_cell BK400.out 0).trans rfl, (blk_cell BK400.out 1).trans rfl, (blk_cell BK400.out 2).trans rfl, (blk_cell BK400.out 3).trans rfl, (blk_cell BK400.out 4).trans rfl⟩ (fun hHeld => ?_)
       clear hK K
       refine norm_ (a' := ?_) ?_ ?_
       rotate_left
       ·show Act.put _ (some 70) _ = _
        simp only [Act.put, List.setIfInBounds_toArray, List.set_cons_zero, List.set_cons_succ, i64_w, i32_w]
        rfl
       refine pq 7 (some 71) (bl 9 511) ?_
       refine done_ (done_of HT_.out (by kernel_rfl)) ?_
       try go_wp2
       go_loopg [17, 72] kj7 (fun kq v17 v72 w' => ∃ (x17_2 : List Int) (x72_2 : Int), v72 = .int .i64 x72_2 ∧ Aside0 (pke_Seal.l0 kq l2 t401 t408 t411 x17_2 t415 (t415.length : Int) x72_2 t394 t395 t396 t397 t398 = some (r1, r2)) ∧ Aside0 (kq ≤ kj7) ∧ Aside0 (Kd.S (Kd.slice 3 (Kd.int .i64)) 40 w' w.heap.size (fun k_ => some k_ ≠ (v409 : Value).ownBlock ∧ some k_ ≠ (v412 : Value).ownBlock) v403 t401) ∧ Aside0 (Kd.S (Kd.slice 3 (Kd.int .i64)) 40 w' w.heap.size (fun k_ => some k_ ≠ (v403 : Value).ownBlock ∧ some k_ ≠ (v412 : Value).ownBlock) v409 t408) ∧ Aside0 (Kd.S (Kd.slice 3 (Kd.int .i64)) 40 w' w.heap.size (fun k_ => some k_ ≠ (v403 : Value).ownBlock ∧ some k_ ≠ (v409 : Value).ownBlock) v412 t411) ∧ Aside0 (Kd.R (Kd.int .u8) 5 w' w.heap.size (fun _ => True) v17 x17_2) ∧ Aside0 (Kd.R (Kd.slice 40 (Kd.slice 3 (Kd.int .i64))) 49 w' w.heap.size (fun k_ => some k_ ≠ (v403 : Value).ownBlock ∧ some k_ ≠ (v409 : Value).ownBlock ∧ some k_ ≠ (v412 : Value).ownBlock) (.slice Ao34 t415.length co34) t415) ∧ Aside0 (w'.heap[gb400]? = some (.cells #[.int .i64 t394, .int .i64 t395, .int .i64 t396, .int .i64 t397, .int .i64 t398] 34 (0, 0))) ∧ Aside0 (Below w.heap.size w w'))
       case atStart => exact ⟨(([] : List Int)), (0), Rq, H', ⟨Nat.le_refl _⟩, ⟨by (with_reducible repeat (first | apply Kd.S_alloc | apply Kd.S_drewN | apply Kd.S_drew)); exact Kd.S_mono HO404.out (fun _ hk => ⟨hk.1.2, hk.2⟩)⟩, ⟨by (with_reducible repeat (first | apply Kd.S_alloc | apply Kd.S_drewN | apply Kd.S_drew)); exact Kd.S_mono HO410.out (fun _ hk => ⟨hk.1.1.2, hk.2⟩)⟩, ⟨by (with_reducible repeat (first | apply Kd.S_alloc | apply Kd.S_drewN | apply Kd.S_drew)); exact Kd.S_mono HO413.out (fun _ hk => ⟨hk.1.1.2, hk.2⟩)⟩, ⟨by first | exact Kd.R_nil _ _ _ _ _ | exact Kd.N_nil _ _ _ _ _ | exact Kd.V_nil _ _ _ _ _ | exact Kd.Q_nil _ _ _ _ _ | exact Kd.S_nil _ _ _ _ _⟩, ⟨by (with_reducible repeat (first | apply Kd.R_alloc | apply Kd.R_drewN | apply Kd.R_drew)); exact Kd.R_mono HO417.out (fun _ hk => ⟨hk.1.1.1.2, ⟨hk.1.2, hk.2⟩⟩)⟩, ⟨by (with_reducible repeat (first | refine blk_drewN ?_ _ | refine blk_drew ?_ | refine blk_alloc ?_ _)); exact BK400.out⟩, ⟨Bq⟩⟩
       case round =>
        clear H'
        try clear c1
        try clear c2
        try clear p2
        try clear c3
        try clear p6
        try clear c7
        try clear c9
        try clear c9b0
        try clear c9b1
        try clear c10
        try clear c13
        try clear c19
        try clear c19b0
        try clear c19b1
        try clear c20
        try clear c20b0
        try clear c20b1
        try clear c26
        try clear c27
        try clear c28
        try clear c29
        try clear c33
        try clear hcz24_0
        try clear hcz24_1
        try clear hcz24_2
        try clear hcz24_3
        try clear hcz24_4
        try clear hfz24_0
        try clear hfz24_1
        try clear hfz24_2
        try clear hfz24_3
        try clear hfz24_4
        try clear p2
        obtain ⟨x17_2, x72_2, rfl, HA, HK2, HO_13, HO_15, HO_16, HO_17, HO_70, BK400, HB⟩ := hrel
        cases gk with
        | zero => exact absurd HA.out (by simp [pke_Seal.l0])
        | succ k2 =>
         have H := HA.out
         clear HA
         simp only [pke_Seal.l0] at H
         by_cases c35 : x72_2 < (t415.length : Int)
         ·rw [if_pos c35] at H
          have c35b0 : decide (x72_2 < (t415.length : Int)) = true := decide_eq_true c35
          clear c35
          by_cases c36 : 0 ≤ x72_2
          ·rw [if_pos c36] at H
           have c36b0 : decide (0 ≤ x72_2) = true := decide_eq_true c36
           clear c36
           by_cases c37 : x72_2 < (t415.length : Int)
           ·rw [if_pos c37] at H
            have c37b0 : decide (x72_2 < (t415.length : Int)) = true := decide_eq_true c37
            clear c37
            replace H := Option.bind_eq_some_iff.mp H
            obtain ⟨t419, A380, H⟩ := H
            try dsimp only at H
            have A38 := Aside0.mk A380
            clear A380
            replace H := Option.bind_eq_some_iff.mp H
            obtain ⟨t422, A390, H⟩ := H
            try dsimp only at H
            have A39 := Aside0.mk A390
            clear A390
            by_cases c40 : x72_2 < (t411.length : Int)
            ·rw [if_pos c40] at H
             have c40b0 : decide (x72_2 < (t411.length : Int)) = true := decide_eq_true c40
             clear c40
             replace H := Option.bind_eq_some_iff.mp H
             obtain ⟨t426, A410, H⟩ := H
             try dsimp only at H
             have A41 := Aside0.mk A410
             clear A410
             replace H := Option.bind_eq_some_iff.mp H
             obtain ⟨t429, A420, H⟩ := H
             try dsimp only at H
             have A42 := Aside0.mk A420
             clear A420
             by_cases c43 : x17_2.length + t429.length < 140737488355328
             ·rw [if_pos c43] at H
              have LMc43 := Aside0.mk c43
              clear c43
              obtain ⟨y432, Ny432⟩ : ∃ y_ : List Int, Aside0 (y_ = (x17_2 ++ t429)) := ⟨_, ⟨rfl⟩⟩
              first | rw [Option.bind_some, ← Ny432.out] at H | rw [← Ny432.out] at H
              have H' := Aside0.mk H
              clear H
              have p418 : 0 ≤ (x72_2 : Int) := of_decide_eq_true Aq
              have q418 : x72_2 < (t415.length : Int) := of_decide_eq_true Aq
              obtain ⟨ad418, A418_0, c418_0, e418, hx418_0, hl418_0, hi418_0⟩ := at_L6 (Kd.R_reads' HO_70.out).2.2 x72_2 p418 q418
              cases e418
              obtain ⟨ce418, hce418, hMe418, hcc418⟩ := Kd.R_get HO_70.out [] x72_2 p418 (by first | exact q418 | exact of_decide_eq_true Aq | (have e_ := (Kd.R_reads' HO_70.out).1; omega))
              obtain ⟨ve418_0, rfl, ge418_0⟩ := hMe418
              have hv418_0 := hcc418 0 _ rfl
              rw [Nat.add_zero, show ((Kd.slice 40 (Kd.slice 3 (Kd.int .i64)))).sz = 1 from rfl, Nat.mul_one] at hv418_0
              replace hv418_0 := Option.some.inj (hv418_0.symm.trans hx418_0)
              rw [hv418_0] at ge418_0
              have HL418_0 := Aside0.mk (show Kd.R (Kd.slice 3 (Kd.int .i64)) 40 _ _ _ _ (rd_L6 t415 x72_2) from ge418_0)
              clear hv418_0 ge418_0
              clear hcc418 hce418
              have HR418_0 := Aside0.mk hi418_0
              have HC418_0 := Aside0.mk hl418_0
              clear hi418_0 hl418_0
              replace p418 := eq_true p418
              replace q418 := eq_true q418
              try go_wp2
              replace HO_13 := Aside0.mk (Kd.S_drew HO_13.out)
              replace HO_15 := Aside0.mk (Kd.S_drew HO_15.out)
              replace HO_16 := Aside0.mk (Kd.S_drew HO_16.out)
              replace HO_17 := Aside0.mk (Kd.R_drew HO_17.out)
              replace HO_70 := Aside0.mk (Kd.R_drew HO_70.out)
              replace HL418_0 := Aside0.mk (Kd.R_drew HL418_0.out)
              replace BK400 := Aside0.mk (blk_drew BK400.out)
              replace HR418_0 := Aside0.mk (Kd.C_drew HR418_0.out)
              replace HB := Aside0.mk (below_drew1 HB.out)
              obtain ⟨Ao45, co45, eo45⟩ := Kd.S_slice HO_16.out
              (first | subst eo45 | (injection eo45 with f1_ f2_ f3_; have f4_ := f1_.symm; have f5_ := f3_.symm; clear f1_ f2_ f3_; subst f4_; subst f5_))
              have p425 : 0 ≤ (x72_2 : Int) := of_decide_eq_true Aq
              have q425 : x72_2 < (t411.length : Int) := of_decide_eq_true Aq
              obtain ⟨ad425, A425_0, c425_0, e425, hx425_0, hl425_0, hi425_0⟩ := at_L3 (Kd.S_reads' HO_16.out).2.2 x72_2 p425 q425
              cases e425
              obtain ⟨ce425, hce425, hMe425, hcc425⟩ := Kd.S_get HO_16.out [] x72_2 p425 (by first | exact q425 | exact of_decide_eq_true Aq | (have e_ := (Kd.S_reads' HO_16.out).1; omega))
              obtain ⟨ve425_0, rfl, ge425_0⟩ := hMe425
              have hv425_0 := hcc425 0 _ rfl
              rw [Nat.add_zero, show ((Kd.slice 3 (Kd.int .i64))).sz = 1 from rfl, Nat.mul_one] at hv425_0
              replace hv425_0 := Option.some.inj (hv425_0.symm.trans hx425_0)
              rw [hv425_0] at ge425_0
              have HL425_0 := Aside0.mk (show Kd.R (Kd.int .i64) 3 _ _ _ _ (rd_L3 t411 x72_2) from ge425_0)
              clear hv425_0 ge425_0
              clear hcc425 hce425
              have HR425_0 := Aside0.mk hi425_0
              have HC425_0 := Aside0.mk hl425_0
              clear hi425_0 hl425_0
              replace p425 := eq_true p425
              replace q425 := eq_true q425
              obtain ⟨Ao46, co46, eo46⟩ := Kd.S_slice HO_15.out
              (first | subst eo46 | (injection eo46 with f1_ f2_ f3_; have f4_ := f1_.symm; have f5_ := f3_.symm; clear f1_ f2_ f3_; subst f4_; subst f5_))
              refine start_ (n := 15) (S := fun w' => w'.cell? ⟨gb400, 0, none⟩ = some (.int .i64 t394) ∧ w'.cell? ⟨gb400, 1, none⟩ = some (.int .i64 t395) ∧ w'.cell? ⟨gb400, 2, none⟩ = some (.int .i64 t396) ∧ w'.cell? ⟨gb400, 3, none⟩ = some (.int .i64 t397) ∧ w'.cell? ⟨gb400, 4, none⟩ = some (.int .i64 t398) ∧ w'.cell? (ad425.add (x72_2).toNat) = some (.slice A425_0 (rd_L3 t411 x72_2).length c425_0)) (ds := [13]) (bl 15 0) (by kernel_rfl) rfl rfl ⟨(blk_cell BK400.out 0).trans rfl, (blk_cell BK400.out 1).trans rfl, (blk_cell BK400.out 2).trans rfl, (blk_cell BK400.out 3).trans rfl, (blk_cell BK400.out 4).trans rfl, hx425_0⟩ (fun hHeld => ?_); refine with_tabW pke_Seal.tab13 pke_Seal.bits13 (fun HT_ HW_ => ?_)
              generalize wr.drew = w44 at HO_13 HO_15 HO_16 HO_17 HO_70 HL418_0 BK400 HR418_0 HB HL425_0 HR425_0 hx425_0 hHeld ⊢
              refine pq 0 (some 77) (bl 15 1) ?_
              refine pq 1 (some 78) (bl 15 3) ?_
              refine pq 3 (some 80) (bl 15 11) ?_
              refine pq 4 (some 81) (bl 15 27) ?_
              refine pq 7 (some 84) (bl 15 155) ?_
              refine pq 8 (some 85) (bl 15 411) ?_
              refine pq 9 (some 86) (bl 15 923) ?_
              refine tq 2 (some 79) (bl 15 927) ?_
              refine tq 10 (some 87) (bl 15 1951) ?_
              refine one_ (i := 5) (N := some 82) (bl 15 1983) rfl rfl (one_of HT_.out (by kernel_rfl)) (by decide) (fun K hK => ?_)
              refine goes_ Tryd.func31 (by kernel_rfl) rfl #[.slice A418_0 (rd_L6 t415 x72_2).length c418_0, .slice Ao46 t408.length co46] (by rfl) rfl rfl Mq ?_
              with_reducible refine (poly_Dot.calls k2 _ _ (rd_L6 t415 x72_2) _ _ t408 t419 _ ?side1 ?side2 ?side3 ?side4 A38.out).mono ?_
              (case side1 => repeat (first | exact (by repeat (first | (with_reducible exact HR418_0.out) | (with_reducible refine Kd.C_alloc ?_ _) | (with_reducible refine Kd.C_drewN ?_ _) | (with_reducible refine Kd.C_drew ?_) | exact HR418_0.out)) | (with_reducible refine Kd.C_alloc ?_ _) | (with_reducible refine Kd.C_drewN ?_ _) | (with_reducible refine Kd.C_drew ?_)))
              (case side2 => exact HC418_0.out)
              (case side3 => repeat (first | exact (Kd.S_reads' HO_15.out).2.2 | (with_reducible refine Kd.C_alloc ?_ _) | (with_reducible refine Kd.C_drewN ?_ _) | (with_reducible refine Kd.C_drew ?_)))
              (case side4 => exact (Kd.S_reads' HO_15.out).2.1)
              rintro e w47 ⟨v420, rfl, ho0, hb⟩
              have HS5_ := (hb.cell (World.block_lt_of_cell? _ _ (hHeld.2.2.2.2.2))).trans (hHeld.2.2.2.2.2)
              refine ⟨_, rfl, ?_⟩
              replace HO_13 := Aside0.mk (Kd.S_elder' (Wq HO_13) (Kd.R_base ho0) hb)
              replace HO_15 := Aside0.mk (Kd.S_elder' (Wq HO_15) (Kd.R_base ho0) hb)
              replace HO_16 := Aside0.mk (Kd.S_elder' (Wq HO_16) (Kd.R_base ho0) hb)
              replace HO_17 := Aside0.mk (Kd.R_below (Wq HO_17) hb)
              replace HO_70 := Aside0.mk (Kd.R_elder' (Wq HO_70) (Kd.R_base ho0) hb)
              replace HL418_0 := Aside0.mk (Kd.R_elder' (Wq HL418_0) (Kd.R_base ho0) hb)
              have HO421 := Aside0.mk (Kd.R_lower (Kd.R_new' ho0 (Kd.R_lt (Wq HL425_0))) (below_size Bq))
              replace HL425_0 := Aside0.mk (Kd.R_elder' (Wq HL425_0) (Kd.R_base ho0) hb)
              replace BK400 := Aside0.mk (blk_below (g := gb400) (o := .cells #[.int .i64 t394, .int .i64 t395, .int .i64 t396, .int .i64 t397, .int .i64 t398] 34 (0, 0)) (Kq BK400) hb)
              replace HR418_0 := Aside0.mk (Kd.C_below (by repeat (first | (with_reducible exact HR418_0.out) | (with_reducible refine Kd.C_alloc ?_ _) | (with_reducible refine Kd.C_drewN ?_ _) | (with_reducible refine Kd.C_drew ?_) | exact HR418_0.out)) hb)
              replace HR425_0 := Aside0.mk (Kd.C_below (by repeat (first | (with_reducible exact HR425_0.out) | (with_reducible refine Kd.C_alloc ?_ _) | (with_reducible refine Kd.C_drewN ?_ _) | (with_reducible refine Kd.C_drew ?_) | exact HR425_0.out)) hb)
              replace HB := Aside0.mk (below_step Bq hb)
              clear hb ho0; (try clear A38)
              obtain ⟨Ao48, co48, eo48⟩ := Kd.R_slice HO421.out
              (first | subst eo48 | (injection eo48 with f1_ f2_ f3_; have f4_ := f1_.symm; have f5_ := f3_.symm; clear f1_ f2_ f3_; subst f4_; subst f5_))
              refine hK.out _ _ ⟨(blk_cell BK400.out 0).trans rfl, (blk_cell BK400.out 1).trans rfl, (blk_cell BK400.out 2).trans rfl, (blk_cell BK400.out 3).trans rfl, (blk_cell BK400.out 4).trans rfl, HS5_⟩ (fun hHeld => ?_)
              clear hK K
              refine norm_ (a' := ?_) ?_ ?_
              rotate_left
              ·show Act.put _ (some 82) _ = _
               simp only [Act.put, List.setIfInBounds_toArray, List.set_cons_zero, List.set_cons_succ, i64_w, i32_w]
               rfl
              refine one_ (i := 6) (N := some 83) (bl 15 2047) rfl rfl (one_of HT_.out (by kernel_rfl)) (by decide) (fun K hK => ?_)
              refine goes_ Tryd.func52 (by kernel_rfl) rfl #[.slice Ao48 t419.length co48] (by rfl) rfl rfl Mq ?_
              with_reducible refine (poly_Back.calls k2 _ _ t419 t422 _ ?side1 ?side2 A39.out).mono ?_
              (case side1 => repeat (first | exact (Kd.R_reads' HO421.out).2.2 | (with_reducible refine Kd.C_alloc ?_ _) | (with_reducible refine Kd.C_drewN ?_ _) | (with_reducible refine Kd.C_drew ?_)))
              (case side2 => exact (Kd.R_reads' HO421.out).2.1)
              rintro e w49 ⟨v423, rfl, ho0, hb⟩
              have HS5_ := (hb.cell (World.block_lt_of_cell? _ _ (hHeld.2.2.2.2.2))).trans (hHeld.2.2.2.2.2)
              refine ⟨_, rfl, ?_⟩
              replace HO_13 := Aside0.mk (Kd.S_elder' (Wq HO_13) (Kd.R_base ho0) hb)
              replace HO_15 := Aside0.mk (Kd.S_elder' (Wq HO_15) (Kd.R_base ho0) hb)
              replace HO_16 := Aside0.mk (Kd.S_elder' (Wq HO_16) (Kd.R_base ho0) hb)
              replace HO_17 := Aside0.mk (Kd.R_below (Wq HO_17) hb)
              replace HO_70 := Aside0.mk (Kd.R_elder' (Wq HO_70) (Kd.R_base ho0) hb)
              replace HL418_0 := Aside0.mk (Kd.R_elder' (Wq HL418_0) (Kd.R_base ho0) hb)
              have HO424 := Aside0.mk (Kd.R_lower (Kd.R_new' (Kd.R_new' ho0 (Kd.R_lt (Wq HL425_0))) (Kd.R_lt (Wq HO421))) (below_size Bq))
              replace HL425_0 := Aside0.mk (Kd.R_elder' (Wq HL425_0) (Kd.R_base ho0) hb)
              replace HO421 := Aside0.mk (Kd.R_elder' (Wq HO421) (Kd.R_base ho0) hb)
              replace BK400 := Aside0.mk (blk_below (g := gb400) (o := .cells #[.int .i64 t394, .int .i64 t395, .int .i64 t396, .int .i64 t397, .int .i64 t398] 34 (0, 0)) (Kq BK400) hb)
              replace HR418_0 := Aside0.mk (Kd.C_below (by repeat (first | (with_reducible exact HR418_0.out) | (with_reducible refine Kd.C_alloc ?_ _) | (with_reducible refine Kd.C_drewN ?_ _) | (with_reducible refine Kd.C_drew ?_) | exact HR418_0.out)) hb)
              replace HR425_0 := Aside0.mk (Kd.C_below (by repeat (first | (with_reducible exact HR425_0.out) | (with_reducible refine Kd.C_alloc ?_ _) | (with_reducible refine Kd.C_drewN ?_ _) | (with_reducible refine Kd.C_drew ?_) | exact HR425_0.out)) hb)
              replace HB := Aside0.mk (below_step Bq hb)
              clear hb ho0; (try clear A39)
              obtain ⟨Ao50, co50, eo50⟩ := Kd.R_slice HO424.out
              (first | subst eo50 | (injection eo50 with f1_ f2_ f3_; have f4_ := f1_.symm; have f5_ := f3_.symm; clear f1_ f2_ f3_; subst f4_; subst f5_))
              refine hK.out _ _ ⟨(blk_cell BK400.out 0).trans rfl, (blk_cell BK400.out 1).trans rfl, (blk_cell BK400.out 2).trans rfl, (blk_cell BK400.out 3).trans rfl, (blk_cell BK400.out 4).trans rfl, HS5_⟩ (fun hHeld => ?_)
              clear hK K
              refine norm_ (a' := ?_) ?_ ?_
              rotate_left
              ·show Act.put _ (some 83) _ = _
               simp only [Act.put, List.setIfInBounds_toArray, List.set_cons_zero, List.set_cons_succ, i64_w, i32_w]
               rfl
              refine one_ (i := 11) (N := some 88) (bl 15 4095) rfl rfl (one_of HT_.out (by kernel_rfl)) (by decide) (fun K hK => ?_)
              refine goes_ Tryd.func30 (by kernel_rfl) rfl #[.slice Ao50 t422.length co50, .slice A425_0 (rd_L3 t411 x72_2).length c425_0] (by rfl) rfl rfl Mq ?_
              with_reducible refine (poly_Add.calls k2 _ _ t422 _ _ (rd_L3 t411 x72_2) t426 _ ?side1 ?side2 ?side3 ?side4 A41.out).mono ?_
              (case side1 => repeat (first | exact (Kd.R_reads' HO424.out).2.2 | (with_reducible refine Kd.C_alloc ?_ _) | (with_reducible refine Kd.C_drewN ?_ _) | (with_reducible refine Kd.C_drew ?_)))
              (case side2 => exact (Kd.R_reads' HO424.out).2.1)
              (case side3 => repeat (first | exact (by repeat (first | (with_reducible exact HR425_0.out) | (with_reducible refine Kd.C_alloc ?_ _) | (with_reducible refine Kd.C_drewN ?_ _) | (with_reducible refine Kd.C_drew ?_) | exact HR425_0.out)) | (with_reducible refine Kd.C_alloc ?_ _) | (with_reducible refine Kd.C_drewN ?_ _) | (with_reducible refine Kd.C_drew ?_)))
              (case side4 => exact HC425_0.out)
              rintro e w51 ⟨v427, rfl, ho0, hb⟩
              have HS5_ := (hb.cell (World.block_lt_of_cell? _ _ (hHeld.2.2.2.2.2))).trans (hHeld.2.2.2.2.2)
              refine ⟨_, rfl, ?_⟩
              replace HO_13 := Aside0.mk (Kd.S_elder' (Wq HO_13) (Kd.R_base ho0) hb)
              replace HO_15 := Aside0.mk (Kd.S_elder' (Wq HO_15) (Kd.R_base ho0) hb)
              replace HO_16 := Aside0.mk (Kd.S_elder' (Wq HO_16) (Kd.R_base ho0) hb)
              replace HO_17 := Aside0.mk (Kd.R_below (Wq HO_17) hb)
              replace HO_70 := Aside0.mk (Kd.R_elder' (Wq HO_70) (Kd.R_base ho0) hb)
              replace HL418_0 := Aside0.mk (Kd.R_elder' (Wq HL418_0) (Kd.R_base ho0) hb)
              have HO428 := Aside0.mk (Kd.R_lower (Kd.R_new' (Kd.R_new' (Kd.R_new' ho0 (Kd.R_lt (Wq HL425_0))) (Kd.R_lt (Wq HO421))) (Kd.R_lt (Wq HO424))) (below_size Bq))
              replace HL425_0 := Aside0.mk (Kd.R_elder' (Wq HL425_0) (Kd.R_base ho0) hb)
              replace HO421 := Aside0.mk (Kd.R_elder' (Wq HO421) (Kd.R_base ho0) hb)
              replace HO424 := Aside0.mk (Kd.R_elder' (Wq HO424) (Kd.R_base ho0) hb)
              replace BK400 := Aside0.mk (blk_below (g := gb400) (o := .cells #[.int .i64 t394, .int .i64 t395, .int .i64 t396, .int .i64 t397, .int .i64 t398] 34 (0, 0)) (Kq BK400) hb)
              replace HR418_0 := Aside0.mk (Kd.C_below (by repeat (first | (with_reducible exact HR418_0.out) | (with_reducible refine Kd.C_alloc ?_ _) | (with_reducible refine Kd.C_drewN ?_ _) | (with_reducible refine Kd.C_drew ?_) | exact HR418_0.out)) hb)
              replace HR425_0 := Aside0.mk (Kd.C_below (by repeat (first | (with_reducible exact HR425_0.out) | (with_reducible refine Kd.C_alloc ?_ _) | (with_reducible refine Kd.C_drewN ?_ _) | (with_reducible refine Kd.C_drew ?_) | exact HR425_0.out)) hb)
              replace HB := Aside0.mk (below_step Bq hb)
              clear hb ho0; (try clear A41)
              obtain ⟨Ao52, co52, eo52⟩ := Kd.R_slice HO428.out
              (first | subst eo52 | (injection eo52 with f1_ f2_ f3_; have f4_ := f1_.symm; have f5_ := f3_.symm; clear f1_ f2_ f3_; subst f4_; subst f5_))
              refine hK.out _ _ ⟨(blk_cell BK400.out 0).trans rfl, (blk_cell BK400.out 1).trans rfl, (blk_cell BK400.out 2).trans rfl, (blk_cell BK400.out 3).trans rfl, (blk_cell BK400.out 4).trans rfl, HS5_⟩ (fun hHeld => ?_)
              clear hK K
              refine norm_ (a' := ?_) ?_ ?_
              rotate_left
              ·show Act.put _ (some 88) _ = _
               simp only [Act.put, List.setIfInBounds_toArray, List.set_cons_zero, List.set_cons_succ, i64_w, i32_w]
               rfl
              refine one_ (i := 12) (N := some 89) (bl 15 8191) rfl rfl (one_of HT_.out (by kernel_rfl)) (by decide) (fun K hK => ?_)
              refine goes_ Tryd.func51 (by kernel_rfl) rfl #[.int .i64 t397, .slice Ao52 t426.length co52] (by rfl) rfl rfl Mq ?_
              with_reducible refine (pke_squash.calls k2 t397 _ _ t426 t429 _ ?side1 ?side2 A42.out).mono ?_
              (case side1 => repeat (first | exact (Kd.R_reads' HO428.out).2.2 | (with_reducible refine Kd.C_alloc ?_ _) | (with_reducible refine Kd.C_drewN ?_ _) | (with_reducible refine Kd.C_drew ?_)))
              (case side2 => exact (Kd.R_reads' HO428.out).2.1)
              rintro e w53 ⟨v430, rfl, ho0, hb⟩
              have HS5_ := (hb.cell (World.block_lt_of_cell? _ _ (hHeld.2.2.2.2.2))).trans (hHeld.2.2.2.2.2)
              refine ⟨_, rfl, ?_⟩
              replace HO_13 := Aside0.mk (Kd.S_below (Wq HO_13) hb)
              replace HO_15 := Aside0.mk (Kd.S_below (Wq HO_15) hb)
              replace HO_16 := Aside0.mk (Kd.S_below (Wq HO_16) hb)
              replace HO_70 := Aside0.mk (Kd.R_below (Wq HO_70) hb)
              replace HL418_0 := Aside0.mk (Kd.R_below (Wq HL418_0) hb)
              replace HL425_0 := Aside0.mk (Kd.R_below (Wq HL425_0) hb)
              replace HO421 := Aside0.mk (Kd.R_below (Wq HO421) hb)
              replace HO424 := Aside0.mk (Kd.R_below (Wq HO424) hb)
              replace HO428 := Aside0.mk (Kd.R_below (Wq HO428) hb)
              have HO431 := Aside0.mk (Kd.R_lower (Kd.R_new' ho0 (Kd.R_lt (Wq HO_17))) (below_size Bq))
              replace HO_17 := Aside0.mk (Kd.R_elder' (Wq HO_17) (Kd.R_base ho0) hb)
              replace BK400 := Aside0.mk (blk_below (g := gb400) (o := .cells #[.int .i64 t394, .int .i64 t395, .int .i64 t396, .int .i64 t397, .int .i64 t398] 34 (0, 0)) (Kq BK400) hb)
              replace HR418_0 := Aside0.mk (Kd.C_below (by repeat (first | (with_reducible exact HR418_0.out) | (with_reducible refine Kd.C_alloc ?_ _) | (with_reducible refine Kd.C_drewN ?_ _) | (with_reducible refine Kd.C_drew ?_) | exact HR418_0.out)) hb)
              replace HR425_0 := Aside0.mk (Kd.C_below (by repeat (first | (with_reducible exact HR425_0.out) | (with_reducible refine Kd.C_alloc ?_ _) | (with_reducible refine Kd.C_drewN ?_ _) | (with_reducible refine Kd.C_drew ?_) | exact HR425_0.out)) hb)
              replace HB := Aside0.mk (below_step Bq hb)
              clear hb ho0; (try clear A42)
              obtain ⟨Ao55, co55, eo55⟩ := Kd.R_slice HO431.out
              (first | subst eo55 | (injection eo55 with f1_ f2_ f3_; have f4_ := f1_.symm; have f5_ := f3_.symm; clear f1_ f2_ f3_; subst f4_; subst f5_))
              refine hK.out _ _ ⟨(blk_cell BK400.out 0).trans rfl, (blk_cell BK400.out 1).trans rfl, (blk_cell BK400.out 2).trans rfl, (blk_cell BK400.out 3).trans rfl, (blk_cell BK400.out 4).trans rfl, HS5_⟩ (fun hHeld => ?_)
              clear hK K
              refine norm_ (a' := ?_) ?_ ?_
              rotate_left
              ·show Act.put _ (some 89) _ = _
               simp only [Act.put, List.setIfInBounds_toArray, List.set_cons_zero, List.set_cons_succ, i64_w, i32_w]
               rfl
              refine last_ (i := 13) (N := some 90) (bl 15 16383) rfl rfl (one_of HT_.out (by kernel_rfl)) (by decide) (fun K hK => ?_)
              refine Kd.R_append_rows_step (Kd.int .u8) (w0 := w) w.heap.size (by rfl) (.tmp 77) (.tmp 89) 22 5 (.int .u8 0) 1 rfl Tryd.underlying22 info5 rfl (by decide) (by omega) u17 x17_2 t429 _ _ _ (fun k_ => some k_ ≠ (.slice Ao55 t429.length co55 : Value).ownBlock) (fun _ => False) rfl rfl ?aO ?aR (fun _ _ h => h) (fun _ h => h.elim) ?aF ?aB ?aS ?aL ?_
              (case aR => repeat (first | exact (Kd.R_reads' HO431.out).2.2 | (with_reducible refine Kd.C_alloc ?_ _) | (with_reducible refine Kd.C_drewN ?_ _) | (with_reducible refine Kd.C_drew ?_)))
              (case aB => exact Bq)
              (case aF => exact (fun k_ hk => Kd.fresh' (Kd.R_lt (Wq HO431)) k_ hk))
              (case aO => exact (by (with_reducible repeat (first | apply Kd.R_alloc | apply Kd.R_drewN | apply Kd.R_drew)); exact Kd.R_mono HO_17.out (fun _ hk => hk.2)))
              (case aS => exact (below_size Bq))
              (case aL => have := LMc43.out; omega)
              intro v433 w54 ho hb hg hat
              rw [← Ny432.out] at ho
              replace HO_13 := Aside0.mk (Kd.S_over' (Wq HO_13) (Kd.R_typed (Wq HO_17)) (by decide) hg)
              replace HO_15 := Aside0.mk (Kd.S_over' (Wq HO_15) (Kd.R_typed (Wq HO_17)) (by decide) hg)
              replace HO_16 := Aside0.mk (Kd.S_over' (Wq HO_16) (Kd.R_typed (Wq HO_17)) (by decide) hg)
              replace HO_70 := Aside0.mk (Kd.R_over' (Wq HO_70) (Kd.R_typed (Wq HO_17)) (by decide) hg)
              replace BK400 := Aside0.mk (blk_grown (g := gb400) (o := .cells #[.int .i64 t394, .int .i64 t395, .int .i64 t396, .int .i64 t397, .int .i64 t398] 34 (0, 0)) (Kq BK400) hg (Kd.R_ne HO_17.out BK400.out (by decide)))
              replace HL418_0 := Aside0.mk (Kd.R_over' (Wq HL418_0) (Kd.R_typed (Wq HO_17)) (by decide) hg)
              replace HL425_0 := Aside0.mk (Kd.R_over' (Wq HL425_0) (Kd.R_typed (Wq HO_17)) (by decide) hg)
              replace HO421 := Aside0.mk (Kd.R_over' (Wq HO421) (Kd.R_typed (Wq HO_17)) (by decide) hg)
              replace HO424 := Aside0.mk (Kd.R_over' (Wq HO424) (Kd.R_typed (Wq HO_17)) (by decide) hg)
              replace HO428 := Aside0.mk (Kd.R_over' (Wq HO428) (Kd.R_typed (Wq HO_17)) (by decide) hg)
              replace HO431 := Aside0.mk (Kd.R_after (ok := (fun _ => True)) (Wq HO431) hg hat)
              replace HB := Aside0.mk (hb)
              have HO434 := Aside0.mk (ho)
              clear HO_17
              clear ho hb hg hat
              refine hK.out _ _ ?_
              clear hK K
              refine norm_ (a' := ?_) ?_ ?_
              rotate_left
              ·show Act.put _ (some 90) _ = _
               simp only [Act.put, List.setIfInBounds_toArray, List.set_cons_zero, List.set_cons_succ, i64_w, i32_w]
               rfl
              refine pq 14 (some 17) (bl 15 32767) ?_
              refine done_ (done_of HT_.out (by kernel_rfl)) ?_
              try go_wp2
              go_roundg k2
              case measure => have := HJ7.out; have := HK2.out; omega
              case rel => exact ⟨(y432), (wrap64 (x72_2 + 1)), Rq, H', ⟨by have := HJ7.out; have := HK2.out; omega⟩, ⟨by (with_reducible repeat (first | apply Kd.S_alloc | apply Kd.S_drewN | apply Kd.S_drew)); exact Kd.S_mono HO_13.out (fun _ hk => ⟨hk.1.1.1.1, hk.1.1.1.2⟩)⟩, ⟨by (with_reducible repeat (first | apply Kd.S_alloc | apply Kd.S_drewN | apply Kd.S_drew)); exact Kd.S_mono HO_15.out (fun _ hk => ⟨hk.1.1.1.1, hk.1.1.1.2⟩)⟩, ⟨by (with_reducible repeat (first | apply Kd.S_alloc | apply Kd.S_drewN | apply Kd.S_drew)); exact Kd.S_mono HO_16.out (fun _ hk => ⟨hk.1.1.1.1, hk.1.1.1.2⟩)⟩, ⟨by (with_reducible repeat (first | apply Kd.R_alloc | apply Kd.R_drewN | apply Kd.R_drew)); exact Kd.R_mono HO434.out (fun _ hk => trivial)⟩, ⟨by (with_reducible repeat (first | apply Kd.R_alloc | apply Kd.R_drewN | apply Kd.R_drew)); exact Kd.R_mono HO_70.out (fun _ hk => ⟨hk.1.1.1.1, ⟨hk.1.1.1.2.1, hk.1.1.1.2.2⟩⟩)⟩, ⟨by (with_reducible repeat (first | refine blk_drewN ?_ _ | refine blk_drew ?_ | refine blk_alloc ?_ _)); exact BK400.out⟩, ⟨Bq⟩⟩
             ·rw [if_neg c43] at H
              exact absurd H (by simp)
            ·rw [if_neg c40] at H
             exact absurd H (by simp)
           ·rw [if_neg c37] at H
            exact absurd H (by simp)
          ·rw [if_neg c36] at H
           exact absurd H (by simp)
         ·rw [if_neg c35] at H
          have c35b0 : decide (x72_2 < (t415.length : Int)) = false := decide_eq_false c35
          clear c35
          replace H := Option.bind_eq_some_iff.mp H
          obtain ⟨t435, A560, H⟩ := H
          try dsimp only at H
          have A56 := Aside0.mk A560
          clear A560
          replace H := Option.bind_eq_some_iff.mp H
          obtain ⟨t438, A570, H⟩ := H
          try dsimp only at H
          have A57 := Aside0.mk A570
          clear A570
          by_cases c58 : 0 ≤ t394
          ·rw [if_pos c58] at H
           have c58b0 : decide (0 ≤ t394) = true := decide_eq_true c58
           clear c58
           by_cases c59 : t394 < (t411.length : Int)
           ·rw [if_pos c59] at H
            have c59b0 : decide (t394 < (t411.length : Int)) = true := decide_eq_true c59
            clear c59
            replace H := Option.bind_eq_some_iff.mp H
            obtain ⟨t442, A600, H⟩ := H
            try dsimp only at H
            have A60 := Aside0.mk A600
            clear A600
            replace H := Option.bind_eq_some_iff.mp H
            obtain ⟨t445, A610, H⟩ := H
            try dsimp only at H
            have A61 := Aside0.mk A610
            clear A610
            replace H := Option.bind_eq_some_iff.mp H
            obtain ⟨t448, A620, H⟩ := H
            try dsimp only at H
            have A62 := Aside0.mk A620
            clear A620
            replace H := Option.bind_eq_some_iff.mp H
            obtain ⟨t451, A630, H⟩ := H
            try dsimp only at H
            have A63 := Aside0.mk A630
            clear A630
            by_cases c64 : x17_2.length + t451.length < 140737488355328
            ·rw [if_pos c64] at H
             have LMc64 := Aside0.mk c64
             clear c64
             obtain ⟨y454, Ny454⟩ : ∃ y_ : List Int, Aside0 (y_ = (x17_2 ++ t451)) := ⟨_, ⟨rfl⟩⟩
             first | rw [Option.bind_some, ← Ny454.out] at H | rw [← Ny454.out] at H
             simp only [Option.some.injEq, Prod.mk.injEq] at H
             obtain ⟨rfl, rfl⟩ := H
             try go_wp2
             replace HO_13 := Aside0.mk (Kd.S_drew HO_13.out)
             replace HO_15 := Aside0.mk (Kd.S_drew HO_15.out)
             replace HO_16 := Aside0.mk (Kd.S_drew HO_16.out)
             replace HO_17 := Aside0.mk (Kd.R_drew HO_17.out)
             replace HO_70 := Aside0.mk (Kd.R_drew HO_70.out)
             replace BK400 := Aside0.mk (blk_drew BK400.out)
             replace HB := Aside0.mk (below_drew1 HB.out)
             obtain ⟨Ao66, co66, eo66⟩ := Kd.S_slice HO_16.out
             (first | subst eo66 | (injection eo66 with f1_ f2_ f3_; have f4_ := f1_.symm; have f5_ := f3_.symm; clear f1_ f2_ f3_; subst f4_; subst f5_))
             have p441 : 0 ≤ (t394 : Int) := of_decide_eq_true Aq
             have q441 : t394 < (t411.length : Int) := of_decide_eq_true Aq
             obtain ⟨ad441, A441_0, c441_0, e441, hx441_0, hl441_0, hi441_0⟩ := at_L3 (Kd.S_reads' HO_16.out).2.2 t394 p441 q441
             cases e441
             obtain ⟨ce441, hce441, hMe441, hcc441⟩ := Kd.S_get HO_16.out [] t394 p441 (by first | exact q441 | exact of_decide_eq_true Aq | (have e_ := (Kd.S_reads' HO_16.out).1; omega))
             obtain ⟨ve441_0, rfl, ge441_0⟩ := hMe441
             have hv441_0 := hcc441 0 _ rfl
             rw [Nat.add_zero, show ((Kd.slice 3 (Kd.int .i64))).sz = 1 from rfl, Nat.mul_one] at hv441_0
             replace hv441_0 := Option.some.inj (hv441_0.symm.trans hx441_0)
             rw [hv441_0] at ge441_0
             have HL441_0 := Aside0.mk (show Kd.R (Kd.int .i64) 3 _ _ _ _ (rd_L3 t411 t394) from ge441_0)
             clear hv441_0 ge441_0
             clear hcc441 hce441
             have HR441_0 := Aside0.mk hi441_0
             have HC441_0 := Aside0.mk hl441_0
             clear hi441_0 hl441_0
             replace p441 := eq_true p441
             replace q441 := eq_true q441
             obtain ⟨Ao67, co67, eo67⟩ := Kd.S_slice HO_13.out
             (first | subst eo67 | (injection eo67 with f1_ f2_ f3_; have f4_ := f1_.symm; have f5_ := f3_.symm; clear f1_ f2_ f3_; subst f4_; subst f5_))
             obtain ⟨Ao68, co68, eo68⟩ := Kd.S_slice HO_15.out
             (first | subst eo68 | (injection eo68 with f1_ f2_ f3_; have f4_ := f1_.symm; have f5_ := f3_.symm; clear f1_ f2_ f3_; subst f4_; subst f5_))
             refine start_ (n := 14) (S := fun w' => w'.cell? ⟨gb400, 0, none⟩ = some (.int .i64 t394) ∧ w'.cell? ⟨gb400, 1, none⟩ = some (.int .i64 t395) ∧ w'.cell? ⟨gb400, 2, none⟩ = some (.int .i64 t396) ∧ w'.cell? ⟨gb400, 3, none⟩ = some (.int .i64 t397) ∧ w'.cell? ⟨gb400, 4, none⟩ = some (.int .i64 t398) ∧ w'.cell? (ad441.add (t394).toNat) = some (.slice A441_0 (rd_L3 t411 t394).length c441_0)) (ds := []) (bl 14 0) (by kernel_rfl) rfl rfl ⟨(blk_cell BK400.out 0).trans rfl, (blk_cell BK400.out 1).trans rfl, (blk_cell BK400.out 2).trans rfl, (blk_cell BK400.out 3).trans rfl, (blk_cell BK400.out 4).trans rfl, hx441_0⟩ (fun hHeld => ?_); refine with_tabW pke_Seal.tab15 pke_Seal.bits15 (fun HT_ HW_ => ?_)
             generalize wr.drew = w65 at HO_13 HO_15 HO_16 HO_17 HO_70 BK400 HB HL441_0 HR441_0 hx441_0 hHeld ⊢
             refine pq 0 (some 92) (bl 14 1) ?_
             refine pq 1 (some 93) (bl 14 3) ?_
             refine pq 4 (some 96) (bl 14 19) ?_
             refine pq 5 (some 97) (bl 14 51) ?_
             refine pq 10 (some 102) (bl 14 1075) ?_
             refine tq 6 (some 98) (bl 14 1139) ?_
             refine pq 7 (some 99) (bl 14 1267) ?_
             refine tq 8 (some 100) (bl 14 1523) ?_
             refine one_ (i := 2) (N := some 94) (bl 14 1527) rfl rfl (one_of HT_.out (by kernel_rfl)) (by decide) (fun K hK => ?_)
             refine goes_ Tryd.func31 (by kernel_rfl) rfl #[.slice Ao67 t401.length co67, .slice Ao68 t408.length co68] (by rfl) rfl rfl Mq ?_
             with_reducible refine (poly_Dot.calls k2 _ _ t401 _ _ t408 t435 _ ?side1 ?side2 ?side3 ?side4 A56.out).mono ?_
             (case side1 => repeat (first | exact (Kd.S_reads' HO_13.out).2.2 | (with_reducible refine Kd.C_alloc ?_ _) | (with_reducible refine Kd.C_drewN ?_ _) | (with_reducible refine Kd.C_drew ?_)))
             (case side2 => exact (Kd.S_reads' HO_13.out).2.1)
             (case side3 => repeat (first | exact (Kd.S_reads' HO_15.out).2.2 | (with_reducible refine Kd.C_alloc ?_ _) | (with_reducible refine Kd.C_drewN ?_ _) | (with_reducible refine Kd.C_drew ?_)))
             (case side4 => exact (Kd.S_reads' HO_15.out).2.1)
             rintro e w69 ⟨v436, rfl, ho0, hb⟩
             have HS5_ := (hb.cell (World.block_lt_of_cell? _ _ (hHeld.2.2.2.2.2))).trans (hHeld.2.2.2.2.2)
             refine ⟨_, rfl, ?_⟩
             replace HO_13 := Aside0.mk (Kd.S_elder' (Wq HO_13) (Kd.R_base ho0) hb)
             replace HO_15 := Aside0.mk (Kd.S_elder' (Wq HO_15) (Kd.R_base ho0) hb)
             replace HO_16 := Aside0.mk (Kd.S_elder' (Wq HO_16) (Kd.R_base ho0) hb)
             replace HO_17 := Aside0.mk (Kd.R_below (Wq HO_17) hb)
             replace HO_70 := Aside0.mk (Kd.R_elder' (Wq HO_70) (Kd.R_base ho0) hb)
             have HO437 := Aside0.mk (Kd.R_lower (Kd.R_new' ho0 (Kd.R_lt (Wq HL441_0))) (below_size Bq))
             replace HL441_0 := Aside0.mk (Kd.R_elder' (Wq HL441_0) (Kd.R_base ho0) hb)
             replace BK400 := Aside0.mk (blk_below (g := gb400) (o := .cells #[.int .i64 t394, .int .i64 t395, .int .i64 t396, .int .i64 t397, .int .i64 t398] 34 (0, 0)) (Kq BK400) hb)
             replace HR441_0 := Aside0.mk (Kd.C_below (by repeat (first | (with_reducible exact HR441_0.out) | (with_reducible refine Kd.C_alloc ?_ _) | (with_reducible refine Kd.C_drewN ?_ _) | (with_reducible refine Kd.C_drew ?_) | exact HR441_0.out)) hb)
             replace HB := Aside0.mk (below_step Bq hb)
             clear hb ho0; (try clear A56)
             obtain ⟨Ao70, co70, eo70⟩ := Kd.R_slice HO437.out
             (first | subst eo70 | (injection eo70 with f1_ f2_ f3_; have f4_ := f1_.symm; have f5_ := f3_.symm; clear f1_ f2_ f3_; subst f4_; subst f5_))
             refine hK.out _ _ ⟨(blk_cell BK400.out 0).trans rfl, (blk_cell BK400.out 1).trans rfl, (blk_cell BK400.out 2).trans rfl, (blk_cell BK400.out 3).trans rfl, (blk_cell BK400.out 4).trans rfl, HS5_⟩ (fun hHeld => ?_)
             clear hK K
             refine norm_ (a' := ?_) ?_ ?_
             rotate_left
             ·show Act.put _ (some 94) _ = _
              simp only [Act.put, List.setIfInBounds_toArray, List.set_cons_zero, List.set_cons_succ, i64_w, i32_w]
              rfl
             refine one_ (i := 3) (N := some 95) (bl 14 1535) rfl rfl (one_of HT_.out (by kernel_rfl)) (by decide) (fun K hK => ?_)
             refine goes_ Tryd.func52 (by kernel_rfl) rfl #[.slice Ao70 t435.length co70] (by rfl) rfl rfl Mq ?_
             with_reducible refine (poly_Back.calls k2 _ _ t435 t438 _ ?side1 ?side2 A57.out).mono ?_
             (case side1 => repeat (first | exact (Kd.R_reads' HO437.out).2.2 | (with_reducible refine Kd.C_alloc ?_ _) | (with_reducible refine Kd.C_drewN ?_ _) | (with_reducible refine Kd.C_drew ?_)))
             (case side2 => exact (Kd.R_reads' HO437.out).2.1)
             rintro e w71 ⟨v439, rfl, ho0, hb⟩
             have HS5_ := (hb.cell (World.block_lt_of_cell? _ _ (hHeld.2.2.2.2.2))).trans (hHeld.2.2.2.2.2)
             refine ⟨_, rfl, ?_⟩
             replace HO_13 := Aside0.mk (Kd.S_elder' (Wq HO_13) (Kd.R_base ho0) hb)
             replace HO_15 := Aside0.mk (Kd.S_elder' (Wq HO_15) (Kd.R_base ho0) hb)
             replace HO_16 := Aside0.mk (Kd.S_elder' (Wq HO_16) (Kd.R_base ho0) hb)
             replace HO_17 := Aside0.mk (Kd.R_below (Wq HO_17) hb)
             replace HO_70 := Aside0.mk (Kd.R_elder' (Wq HO_70) (Kd.R_base ho0) hb)
             have HO440 := Aside0.mk (Kd.R_lower (Kd.R_new' (Kd.R_new' ho0 (Kd.R_lt (Wq HL441_0))) (Kd.R_lt (Wq HO437))) (below_size Bq))
             replace HL441_0 := Aside0.mk (Kd.R_elder' (Wq HL441_0) (Kd.R_base ho0) hb)
             replace HO437 := Aside0.mk (Kd.R_elder' (Wq HO437) (Kd.R_base ho0) hb)
             replace BK400 := Aside0.mk (blk_below (g := gb400) (o := .cells #[.int .i64 t394, .int .i64 t395, .int .i64 t396, .int .i64 t397, .int .i64 t398] 34 (0, 0)) (Kq BK400) hb)
             replace HR441_0 := Aside0.mk (Kd.C_below (by repeat (first | (with_reducible exact HR441_0.out) | (with_reducible refine Kd.C_alloc ?_ _) | (with_reducible refine Kd.C_drewN ?_ _) | (with_reducible refine Kd.C_drew ?_) | exact HR441_0.out)) hb)
             replace HB := Aside0.mk (below_step Bq hb)
             clear hb ho0; (try clear A57)
             obtain ⟨Ao72, co72, eo72⟩ := Kd.R_slice HO440.out
             (first | subst eo72 | (injection eo72 with f1_ f2_ f3_; have f4_ := f1_.symm; have f5_ := f3_.symm; clear f1_ f2_ f3_; subst f4_; subst f5_))
             refine hK.out _ _ ⟨(blk_cell BK400.out 0).trans rfl, (blk_cell BK400.out 1).trans rfl, (blk_cell BK400.out 2).trans rfl, (blk_cell BK400.out 3).trans rfl, (blk_cell BK400.out 4).trans rfl, HS5_⟩ (fun hHeld => ?_)
             clear hK K
             refine norm_ (a' := ?_) ?_ ?_
             rotate_left
             ·show Act.put _ (some 95) _ = _
              simp only [Act.put, List.setIfInBounds_toArray, List.set_cons_zero, List.set_cons_succ, i64_w, i32_w]
              rfl
             refine one_ (i := 9) (N := some 101) (bl 14 2047) rfl rfl (one_of HT_.out (by kernel_rfl)) (by decide) (fun K hK => ?_)
             refine goes_ Tryd.func30 (by kernel_rfl) rfl #[.slice Ao72 t438.length co72, .slice A441_0 (rd_L3 t411 t394).length c441_0] (by rfl) rfl rfl Mq ?_
             with_reducible refine (poly_Add.calls k2 _ _ t438 _ _ (rd_L3 t411 t394) t442 _ ?side1 ?side2 ?side3 ?side4 A60.out).mono ?_
             (case side1 => repeat (first | exact (Kd.R_reads' HO440.out).2.2 | (with_reducible refine Kd.C_alloc ?_ _) | (with_reducible refine Kd.C_drewN ?_ _) | (with_reducible refine Kd.C_drew ?_)))
             (case side2 => exact (Kd.R_reads' HO440.out).2.1)
             (case side3 => repeat (first | exact (by repeat (first | (with_reducible exact HR441_0.out) | (with_reducible refine Kd.C_alloc ?_ _) | (with_reducible refine Kd.C_drewN ?_ _) | (with_reducible refine Kd.C_drew ?_) | exact HR441_0.out)) | (with_reducible refine Kd.C_alloc ?_ _) | (with_reducible refine Kd.C_drewN ?_ _) | (with_reducible refine Kd.C_drew ?_)))
             (case side4 => exact HC441_0.out)
             rintro e w73 ⟨v443, rfl, ho0, hb⟩
             have HS5_ := (hb.cell (World.block_lt_of_cell? _ _ (hHeld.2.2.2.2.2))).trans (hHeld.2.2.2.2.2)
             refine ⟨_, rfl, ?_⟩
             replace HO_13 := Aside0.mk (Kd.S_elder' (Wq HO_13) (Kd.R_base ho0) hb)
             replace HO_15 := Aside0.mk (Kd.S_elder' (Wq HO_15) (Kd.R_base ho0) hb)
             replace HO_16 := Aside0.mk (Kd.S_elder' (Wq HO_16) (Kd.R_base ho0) hb)
             replace HO_17 := Aside0.mk (Kd.R_below (Wq HO_17) hb)
             replace HO_70 := Aside0.mk (Kd.R_elder' (Wq HO_70) (Kd.R_base ho0) hb)
             have HO444 := Aside0.mk (Kd.R_lower (Kd.R_new' (Kd.R_new' (Kd.R_new' ho0 (Kd.R_lt (Wq HL441_0))) (Kd.R_lt (Wq HO437))) (Kd.R_lt (Wq HO440))) (below_size Bq))
             replace HL441_0 := Aside0.mk (Kd.R_elder' (Wq HL441_0) (Kd.R_base ho0) hb)
             replace HO437 := Aside0.mk (Kd.R_elder' (Wq HO437) (Kd.R_base ho0) hb)
             replace HO440 := Aside0.mk (Kd.R_elder' (Wq HO440) (Kd.R_base ho0) hb)
             replace BK400 := Aside0.mk (blk_below (g := gb400) (o := .cells #[.int .i64 t394, .int .i64 t395, .int .i64 t396, .int .i64 t397, .int .i64 t398] 34 (0, 0)) (Kq BK400) hb)
             replace HR441_0 := Aside0.mk (Kd.C_below (by repeat (first | (with_reducible exact HR441_0.out) | (with_reducible refine Kd.C_alloc ?_ _) | (with_reducible refine Kd.C_drewN ?_ _) | (with_reducible refine Kd.C_drew ?_) | exact HR441_0.out)) hb)
             replace HB := Aside0.mk (below_step Bq hb)
             clear hb ho0; (try clear A60)
             refine hK.out _ _ ⟨(blk_cell BK400.out 0).trans rfl, (blk_cell BK400.out 1).trans rfl, (blk_cell BK400.out 2).trans rfl, (blk_cell BK400.out 3).trans rfl, (blk_cell BK400.out 4).trans rfl, HS5_⟩ (fun hHeld => ?_)
             clear hK K
             refine norm_ (a' := ?_) ?_ ?_
             rotate_left
             ·show Act.put _ (some 101) _ = _
              simp only [Act.put, List.setIfInBounds_toArray, List.set_cons_zero, List.set_cons_succ, i64_w, i32_w]
              rfl
             refine one_ (i := 11) (N := some 103) (bl 14 4095) rfl rfl (one_of HT_.out (by kernel_rfl)) (by decide) (fun K hK => ?_)
             refine goes_ Tryd.func53 (by kernel_rfl) rfl #[.slice A2 l2.length c2] (by rfl) rfl rfl Mq ?_
             with_reducible refine (pke_message.calls k2 _ _ l2 t445 _ ?side1 ?side2 A61.out).mono ?_
             (case side1 => exact Cq (Kd.C_below HR2.out HB.out))
             (case side2 => exact HC2.out)
             rintro e w74 ⟨v446, rfl, ho0, hb⟩
             have HS5_ := (hb.cell (World.block_lt_of_cell? _ _ (hHeld.2.2.2.2.2))).trans (hHeld.2.2.2.2.2)
             refine ⟨_, rfl, ?_⟩
             replace HO_13 := Aside0.mk (Kd.S_elder' (Wq HO_13) (Kd.R_base ho0) hb)
             replace HO_15 := Aside0.mk (Kd.S_elder' (Wq HO_15) (Kd.R_base ho0) hb)
             replace HO_16 := Aside0.mk (Kd.S_elder' (Wq HO_16) (Kd.R_base ho0) hb)
             replace HO_17 := Aside0.mk (Kd.R_below (Wq HO_17) hb)
             replace HO_70 := Aside0.mk (Kd.R_elder' (Wq HO_70) (Kd.R_base ho0) hb)
             have HO447 := Aside0.mk (Kd.R_lower (Kd.R_new' (Kd.R_new' (Kd.R_new' (Kd.R_new' ho0 (Kd.R_lt (Wq HL441_0))) (Kd.R_lt (Wq HO437))) (Kd.R_lt (Wq HO440))) (Kd.R_lt (Wq HO444))) (below_size Bq))
             replace HL441_0 := Aside0.mk (Kd.R_elder' (Wq HL441_0) (Kd.R_base ho0) hb)
             replace HO437 := Aside0.mk (Kd.R_elder' (Wq HO437) (Kd.R_base ho0) hb)
             replace HO440 := Aside0.mk (Kd.R_elder' (Wq HO440) (Kd.R_base ho0) hb)
             replace HO444 := Aside0.mk (Kd.R_elder' (Wq HO444) (Kd.R_base ho0) hb)
             replace BK400 := Aside0.mk (blk_below (g := gb400) (o := .cells #[.int .i64 t394, .int .i64 t395, .int .i64 t396, .int .i64 t397, .int .i64 t398] 34 (0, 0)) (Kq BK400) hb)
             replace HR441_0 := Aside0.mk (Kd.C_below (by repeat (first | (with_reducible exact HR441_0.out) | (with_reducible refine Kd.C_alloc ?_ _) | (with_reducible refine Kd.C_drewN ?_ _) | (with_reducible refine Kd.C_drew ?_) | exact HR441_0.out)) hb)
             replace HB := Aside0.mk (below_step Bq hb)
             clear hb ho0; (try clear A61)
             obtain ⟨Ao75, co75, eo75⟩ := Kd.R_slice HO444.out
             (first | subst eo75 | (injection eo75 with f1_ f2_ f3_; have f4_ := f1_.symm; have f5_ := f3_.symm; clear f1_ f2_ f3_; subst f4_; subst f5_))
             obtain ⟨Ao76, co76, eo76⟩ := Kd.R_slice HO447.out
             (first | subst eo76 | (injection eo76 with f1_ f2_ f3_; have f4_ := f1_.symm; have f5_ := f3_.symm; clear f1_ f2_ f3_; subst f4_; subst f5_))
             refine hK.out _ _ ⟨(blk_cell BK400.out 0).trans rfl, (blk_cell BK400.out 1).trans rfl, (blk_cell BK400.out 2).trans rfl, (blk_cell BK400.out 3).trans rfl, (blk_cell BK400.out 4).trans rfl, HS5_⟩ (fun hHeld => ?_)
             clear hK K
             refine norm_ (a' := ?_) ?_ ?_
             rotate_left
             ·show Act.put _ (some 103) _ = _
              simp only [Act.put, List.setIfInBounds_toArray, List.set_cons_zero, List.set_cons_succ, i64_w, i32_w]
              rfl
             refine one_ (i := 12) (N := some 104) (bl 14 8191) rfl rfl (one_of HT_.out (by kernel_rfl)) (by decide) (fun K hK => ?_)
             refine goes_ Tryd.func30 (by kernel_rfl) rfl #[.slice Ao75 t442.length co75, .slice Ao76 t445.length co76] (by rfl) rfl rfl Mq ?_
             with_reducible refine (poly_Add.calls k2 _ _ t442 _ _ t445 t448 _ ?side1 ?side2 ?side3 ?side4 A62.out).mono ?_
             (case side1 => repeat (first | exact (Kd.R_reads' HO444.out).2.2 | (with_reducible refine Kd.C_alloc ?_ _) | (with_reducible refine Kd.C_drewN ?_ _) | (with_reducible refine Kd.C_drew ?_)))
             (case side2 => exact (Kd.R_reads' HO444.out).2.1)
             (case side3 => repeat (first | exact (Kd.R_reads' HO447.out).2.2 | (with_reducible refine Kd.C_alloc ?_ _) | (with_reducible refine Kd.C_drewN ?_ _) | (with_reducible refine Kd.C_drew ?_)))
             (case side4 => exact (Kd.R_reads' HO447.out).2.1)
             rintro e w77 ⟨v449, rfl, ho0, hb⟩
             have HS5_ := (hb.cell (World.block_lt_of_cell? _ _ (hHeld.2.2.2.2.2))).trans (hHeld.2.2.2.2.2)
             refine ⟨_, rfl, ?_⟩
             replace HO_13 := Aside0.mk (Kd.S_elder' (Wq HO_13) (Kd.R_base ho0) hb)
             replace HO_15 := Aside0.mk (Kd.S_elder' (Wq HO_15) (Kd.R_base ho0) hb)
             replace HO_16 := Aside0.mk (Kd.S_elder' (Wq HO_16) (Kd.R_base ho0) hb)
             replace HO_17 := Aside0.mk (Kd.R_below (Wq HO_17) hb)
             replace HO_70 := Aside0.mk (Kd.R_elder' (Wq HO_70) (Kd.R_base ho0) hb)
             have HO450 := Aside0.mk (Kd.R_lower (Kd.R_new' (Kd.R_new' (Kd.R_new' (Kd.R_new' (Kd.R_new' ho0 (Kd.R_lt (Wq HL441_0))) (Kd.R_lt (Wq HO437))) (Kd.R_lt (Wq HO440))) (Kd.R_lt (Wq HO444))) (Kd.R_lt (Wq HO447))) (below_size Bq))
             replace HL441_0 := Aside0.mk (Kd.R_elder' (Wq HL441_0) (Kd.R_base ho0) hb)
             replace HO437 := Aside0.mk (Kd.R_elder' (Wq HO437) (Kd.R_base ho0) hb)
             replace HO440 := Aside0.mk (Kd.R_elder' (Wq HO440) (Kd.R_base ho0) hb)
             replace HO444 := Aside0.mk (Kd.R_elder' (Wq HO444) (Kd.R_base ho0) hb)
             replace HO447 := Aside0.mk (Kd.R_elder' (Wq HO447) (Kd.R_base ho0) hb)
             replace BK400 := Aside0.mk (blk_below (g := gb400) (o := .cells #[.int .i64 t394, .int .i64 t395, .int .i64 t396, .int .i64 t397, .int .i64 t398] 34 (0, 0)) (Kq BK400) hb)
             replace HR441_0 := Aside0.mk (Kd.C_below (by repeat (first | (with_reducible exact HR441_0.out) | (with_reducible refine Kd.C_alloc ?_ _) | (with_reducible refine Kd.C_drewN ?_ _) | (with_reducible refine Kd.C_drew ?_) | exact HR441_0.out)) hb)
             replace HB := Aside0.mk (below_step Bq hb)
             clear hb ho0; (try clear A62)
             refine hK.out _ _ ⟨(blk_cell BK400.out 0).trans rfl, (blk_cell BK400.out 1).trans rfl, (blk_cell BK400.out 2).trans rfl, (blk_cell BK400.out 3).trans rfl, (blk_cell BK400.out 4).trans rfl, HS5_⟩ (fun hHeld => ?_)
             clear hK K
             refine norm_ (a' := ?_) ?_ ?_
             rotate_left
             ·show Act.put _ (some 104) _ = _
              simp only [Act.put, List.setIfInBounds_toArray, List.set_cons_zero, List.set_cons_succ, i64_w, i32_w]
              rfl
             refine pq 13 (some 20) (bl 14 16383) ?_
             refine done_ (done_of HT_.out (by kernel_rfl)) ?_
             have hcz78_0 : w77.cell? ⟨gb400, 0, none⟩ = some (.int .i64 t394) := (blk_cell BK400.out 0).trans rfl
             have hcz78_1 : w77.cell? ⟨gb400, 1, none⟩ = some (.int .i64 t395) := (blk_cell BK400.out 1).trans rfl
             have hcz78_2 : w77.cell? ⟨gb400, 2, none⟩ = some (.int .i64 t396) := (blk_cell BK400.out 2).trans rfl
             have hcz78_3 : w77.cell? ⟨gb400, 3, none⟩ = some (.int .i64 t397) := (blk_cell BK400.out 3).trans rfl
             have hcz78_4 : w77.cell? ⟨gb400, 4, none⟩ = some (.int .i64 t398) := (blk_cell BK400.out 4).trans rfl
             have hfz78_0 := blk_frozen BK400.out 0
             have hfz78_1 := blk_frozen BK400.out 1
             have hfz78_2 := blk_frozen BK400.out 2
             have hfz78_3 := blk_frozen BK400.out 3
             have hfz78_4 := blk_frozen BK400.out 4
             obtain ⟨Ao79, co79, eo79⟩ := Kd.R_slice HO450.out
             subst eo79
             try go_wp2_with (first | ((with_reducible refine gate_callee (f := 51) rfl ?_); refine goesL_ (some 109) rfl rfl Tryd.func51 (by kernel_rfl) rfl #[.int .i64 t398, .slice Ao79 t448.length co79] rfl Mq ?_; (with_reducible refine (pke_squash.calls k2 t398 _ _ t448 t451 _ ?side1 ?side2 A63.out).mono ?_); (case side1 => repeat (first | exact (Kd.R_reads' HO450.out).2.2 | (with_reducible refine Kd.C_alloc ?_ _) | (with_reducible refine Kd.C_drewN ?_ _) | (with_reducible refine Kd.C_drew ?_))); (case side2 => exact (Kd.R_reads' HO450.out).2.1); rintro e w80 ⟨v452, rfl, ho0, hb⟩; refine ⟨_, rfl, ?_⟩; replace HO_13 := Aside0.mk (Kd.S_below (Wq HO_13) hb); replace HO_15 := Aside0.mk (Kd.S_below (Wq HO_15) hb); replace HO_16 := Aside0.mk (Kd.S_below (Wq HO_16) hb); replace HO_70 := Aside0.mk (Kd.R_below (Wq HO_70) hb); replace HL441_0 := Aside0.mk (Kd.R_below (Wq HL441_0) hb); replace HO437 := Aside0.mk (Kd.R_below (Wq HO437) hb); replace HO440 := Aside0.mk (Kd.R_below (Wq HO440) hb); replace HO444 := Aside0.mk (Kd.R_below (Wq HO444) hb); replace HO447 := Aside0.mk (Kd.R_below (Wq HO447) hb); replace HO450 := Aside0.mk (Kd.R_below (Wq HO450) hb); have HO453 := Aside0.mk (Kd.R_lower (Kd.R_new' ho0 (Kd.R_lt (Wq HO_17))) (below_size Bq)); replace HO_17 := Aside0.mk (Kd.R_elder' (Wq HO_17) (Kd.R_base ho0) hb); replace BK400 := Aside0.mk (blk_below (g := gb400) (o := .cells #[.int .i64 t394, .int .i64 t395, .int .i64 t396, .int .i64 t397, .int .i64 t398] 34 (0, 0)) (Kq BK400) hb); replace HR441_0 := Aside0.mk (Kd.C_below (by repeat (first | (with_reducible exact HR441_0.out) | (with_reducible refine Kd.C_alloc ?_ _) | (with_reducible refine Kd.C_drewN ?_ _) | (with_reducible refine Kd.C_drew ?_) | exact HR441_0.out)) hb); replace HB := Aside0.mk (below_step Bq hb); clear hb ho0; (try clear A63); obtain ⟨Ao82, co82, eo82⟩ := Kd.R_slice HO453.out; subst eo82) | ((with_reducible refine gate_builtin (b := .append) (xs := #[.tmp 105, .tmp 109]) rfl ?_); (try (refine gate_guard (by rfl) ?_; dsimp only)); at_builtin; refine Kd.R_append_rows (Kd.int .u8) (w0 := w) w.heap.size rfl (.tmp 105) (.tmp 109) 22 5 (.int .u8 0) 1 rfl Tryd.underlying22 info5 rfl (by decide) (by omega) u17 x17_2 t451 _ _ _ (fun k_ => some k_ ≠ (.slice Ao82 t451.length co82 : Value).ownBlock) (fun _ => False) rfl rfl ?aO ?aR (fun _ _ h => h) (fun _ h => h.elim) ?aF ?aB ?aS ?aL ?_; (case aR => repeat (first | exact (Kd.R_reads' HO453.out).2.2 | (with_reducible refine Kd.C_alloc ?_ _) | (with_reducible refine Kd.C_drewN ?_ _) | (with_reducible refine Kd.C_drew ?_))); (case aB => exact Bq); (case aF => exact (fun k_ hk => Kd.fresh' (Kd.R_lt (Wq HO453)) k_ hk)); (case aO => exact (by (with_reducible repeat (first | apply Kd.R_alloc | apply Kd.R_drewN | apply Kd.R_drew)); exact Kd.R_mono HO_17.out (fun _ hk => hk.2))); (case aS => exact (below_size Bq)); (case aL => have := LMc64.out; omega); intro v455 w81 ho hb hg hat; rw [← Ny454.out] at ho; replace HO_13 := Aside0.mk (Kd.S_over' (Wq HO_13) (Kd.R_typed (Wq HO_17)) (by decide) hg); replace HO_15 := Aside0.mk (Kd.S_over' (Wq HO_15) (Kd.R_typed (Wq HO_17)) (by decide) hg); replace HO_16 := Aside0.mk (Kd.S_over' (Wq HO_16) (Kd.R_typed (Wq HO_17)) (by decide) hg); replace HO_70 := Aside0.mk (Kd.R_over' (Wq HO_70) (Kd.R_typed (Wq HO_17)) (by decide) hg); replace BK400 := Aside0.mk (blk_grown (g := gb400) (o := .cells #[.int .i64 t394, .int .i64 t395, .int .i64 t396, .int .i64 t397, .int .i64 t398] 34 (0, 0)) (Kq BK400) hg (Kd.R_ne HO_17.out BK400.out (by decide))); replace HL441_0 := Aside0.mk (Kd.R_over' (Wq HL441_0) (Kd.R_typed (Wq HO_17)) (by decide) hg); replace HO437 := Aside0.mk (Kd.R_over' (Wq HO437) (Kd.R_typed (Wq HO_17)) (by decide) hg); replace HO440 := Aside0.mk (Kd.R_over' (Wq HO440) (Kd.R_typed (Wq HO_17)) (by decide) hg); replace HO444 := Aside0.mk (Kd.R_over' (Wq HO444) (Kd.R_typed (Wq HO_17)) (by decide) hg); replace HO447 := Aside0.mk (Kd.R_over' (Wq HO447) (Kd.R_typed (Wq HO_17)) (by decide) hg); replace HO450 := Aside0.mk (Kd.R_over' (Wq HO450) (Kd.R_typed (Wq HO_17)) (by decide) hg); replace HO453 := Aside0.mk (Kd.R_after (ok := (fun _ => True)) (Wq HO453) hg hat); replace HB := Aside0.mk (hb); have HO456 := Aside0.mk (ho); clear HO_17; clear ho hb hg hat))
             go_ret2
             exact ⟨_, _, by first | rfl | (simp [errW_none, errW_some] <;> rfl) | (simp only [← hji18]; first | rfl | (simp [errW_none, errW_some] <;> rfl)) | (simp [*, errW_none, errW_some] <;> rfl), by (with_reducible repeat (first | apply Kd.R_alloc | apply Kd.R_drewN | apply Kd.R_drew)); exact Kd.R_mono HO456.out (fun _ hk => trivial), by first | exact Kd.R_nil _ _ _ _ _ | exact Kd.N_nil _ _ _ _ _ | exact Kd.V_nil _ _ _ _ _ | exact Kd.Q_nil _ _ _ _ _ | exact Kd.S_nil _ _ _ _ _, Bq⟩
            ·rw [if_neg c64] at H
             exact absurd H (by simp)
           ·rw [if_neg c59] at H
            exact absurd H (by simp)
          ·rw [if_neg c58] at H
           exact absurd H (by simp)
      ·rw [if_neg c20] at H
       exact absurd H (by simp)
     ·rw [if_neg c19] at H
      exact absurd H (by simp)
 ·rw [if_neg c7] at H
  replace c7 := Aside0.mk c7
  simp only [Option.some.injEq, Prod.mk.injEq] at H
  obtain ⟨rfl, rfl⟩ := H
  obtain ⟨gec7, rfl⟩ := eRow_some HO390.out c7.out
  go_wp2
  go_ret2
  exact ⟨_, _, by first | rfl | (simp [errW_none, errW_some] <;> rfl) | (simp [*, errW_none, errW_some] <;> rfl), by first | exact Kd.R_nil _ _ _ _ _ | exact Kd.N_nil _ _ _ _ _ | exact Kd.V_nil _ _ _ _ _ | exact Kd.Q_nil _ _ _ _ _ | exact Kd.S_nil _ _ _ _ _, Wq HO390, Bq⟩

end Go.Proofs.YtkdfcgihgndnnaaDoor.PPA
end
section
namespace Go.Proofs.YtkdfcgihgndnnaaDoor.PPA
open Go.RowKit Go.Proofs.YtkdfcgihgndnnaaDoorW.PrintWords Go.Proofs.YtkdfcgihgndnnaaDoorW.PrintLast Go.Proofs.YtkdfcgihgndnnaaDoorW.PrintMore Go.Proofs.YtkdfcgihgndnnaaDoorW.PrintZip
attribute [local go_sem] max2_int min2_int max_two min_two max_three min_three max_four min_four   -- for this text's walks alone
set_option linter.unusedVariables false
set_option linter.unusedSimpArgs false

/-! ### chatelainelaw7_awake: function 10 -/
def chatelainelaw7_awake.f (k : Nat)  : Option (Bool) := (pke_Sizes.f 1).bind fun bt457 => (if 32 ≤ 281474976710656 then ((pke_Keys.f k 4 (List.replicate 32 0)).bind fun bt463 => ((pke_Seal.f k 1 ([] : List Int) ([] : List Int) ([] : List Int)).bind fun bt472 => (if bt457.1 = 800 then (if bt457.2.1 = 768 then (if bt457.2.2 = 768 then ((chatelainelaw0_Num.f bt463.2.2).bind fun t478 => (if t478 = 2 then ((chatelainelaw0_Num.f bt472.2).bind fun t479 => (some (t479 == 3))) else (some false))) else (some false)) else (some false)) else (some false)))) else (none))
set_option maxHeartbeats 8000000 in
set_option maxRecDepth 100000 in
theorem chatelainelaw7_awake.calls (k : Nat)  (r : Bool) (w : World) (hg_ : w.cell? ⟨0, 0, none⟩ = some (.iface 115 (.agg #[.pointer (some ⟨1, 26, none⟩)]))) (h : chatelainelaw7_awake.f k  = some r) :
  Calls Tryd.prog 10 #[] w fun e w' => e = .returned (.bool r) ∧ Below w.heap.size w w' := by
 have HG := Aside0.mk hg_
 clear hg_
 have HB := Aside0.mk (Below.refl w.heap.size w)
 have H := h
 unfold chatelainelaw7_awake.f at H
 clear h
 replace H := Option.bind_eq_some_iff.mp H
 obtain ⟨⟨t457, t458, t459⟩, A10, H⟩ := H
 try dsimp only at H
 have A1 := Aside0.mk A10
 clear A10
 by_cases c2 : 32 ≤ 281474976710656
 ·rw [if_pos c2] at H
  have c2b0 := eq_true c2
  have c2b1 : decide (32 ≤ 281474976710656) = true := decide_eq_true c2
  clear c2
  obtain ⟨y460, Ny460⟩ : ∃ y_ : List Int, Aside0 (y_ = (List.replicate 32 0)) := ⟨_, ⟨rfl⟩⟩
  first | rw [Option.bind_some, ← Ny460.out] at H | rw [← Ny460.out] at H
  replace H := Option.bind_eq_some_iff.mp H
  obtain ⟨⟨t463, t466, t469⟩, A30, H⟩ := H
  try dsimp only at H
  have A3 := Aside0.mk A30
  clear A30
  replace H := Option.bind_eq_some_iff.mp H
  obtain ⟨⟨t472, t473⟩, A40, H⟩ := H
  try dsimp only at H
  have A4 := Aside0.mk A40
  clear A40
  go_enter Tryd.func10, Tryd.ntmps10
  repeat (first | (go_big_may; go_says (first | ((with_reducible refine gate_callee (f := 14) rfl ?_); refine goesL_ (some 10) rfl rfl Tryd.func14 (by kernel_rfl) rfl #[.int .i64 1] rfl Mq ?_; (with_reducible refine (pke_Sizes.calls 1 t457 t458 t459 _ A1.out).mono ?_); rintro e w5 ⟨rfl, hb⟩; refine ⟨_, rfl, ?_⟩; replace HB := Aside0.mk (below_step Bq hb); clear hb; (try clear A1)) | ((with_reducible refine gate_dst (N := 15) rfl ?_); refine Kd.R_make (Kd.int .u8) _ 5 rfl (N := 15) rfl 22 _ _ rfl 32 rfl rfl Tryd.underlying22 (.int .u8 0) 1 info5 rfl (by decide) (by omega) 0 (ok := fun _ => True) (okp := fun _ => True) rfl (fun _ hk => hk) trivial (by omega) (by omega) (Below.refl _ _) (Nat.le_refl _) ?_; intro v461 w6 ho7 hb hg_ hnew_; clear hg_ hnew_; (first | rw [← Ny460.out] at ho7 | (simp only [Int.reduceToNat] at ho7; rw [← Ny460.out] at ho7)); have HO462 := Aside0.mk (Kd.R_lower ho7 (below_size Bq)); replace HB := Aside0.mk (below_step Bq hb); clear hb ho7; obtain ⟨Ao8, co8, eo8⟩ := Kd.R_slice HO462.out; subst eo8) | ((with_reducible refine gate_callee (f := 8) rfl ?_); refine goesL_ (some 16) rfl rfl Tryd.func8 (by kernel_rfl) rfl #[.int .i64 4, .slice Ao8 y460.length co8] rfl Mq ?_; (with_reducible refine (pke_Keys.calls k 4 (fun k_ => some k_ = (.slice Ao8 y460.length co8 : Value).ownBlock) _ _ y460 t463 t466 t469 _ ?side1 A3.out).mono ?_); (case side1 => exact Kd.R_V (Kd.R_tight rfl (HO462.out))); rintro e w9 ⟨v464, v467, v470, rfl, ho0, ho1, ho2, hb⟩; refine ⟨_, rfl, ?_⟩; have HO465 := Aside0.mk (Kd.R_lower (Kd.R_new' (Kd.R_mono (ok' := fun k_ => some k_ ≠ (v467 : Value).ownBlock) ho0 (fun _ hk_ => hk_.2)) (Kd.R_lt (Wq HO462))) (below_size Bq)); have HO468 := Aside0.mk (Kd.R_lower (Kd.R_new' (Kd.R_mono (ok' := fun k_ => some k_ ≠ (v464 : Value).ownBlock) ho1 (fun _ hk_ => hk_.2)) (Kd.R_lt (Wq HO462))) (below_size Bq)); replace HO462 := Aside0.mk (Kd.R_mono (Kd.R_told (Kd.R_told (Kd.R_old (Wq HO462) hb) (Kd.R_base ho0)) (Kd.R_base ho1)) (fun _ h_ => h_.1)); have HO471 := Aside0.mk (Kd.R_lower (Kd.R_mono (ok' := fun k_ => True) ho2 (fun _ hk_ => trivial)) (below_size Bq)); replace HB := Aside0.mk (below_step Bq hb); clear hb ho0 ho1 ho2; (try clear A3)) | ((with_reducible refine gate_callee (f := 33) rfl ?_); refine goesL_ (some 21) rfl rfl Tryd.func33 (by kernel_rfl) rfl #[.int .i64 1, .slice none 0 0, .slice none 0 0, .slice none 0 0] rfl Mq ?_; (refine (pke_Seal.calls k 1 _ _ ([] : List Int) _ _ ([] : List Int) _ _ ([] : List Int) t472 t473 _ ?side1 ?side2 ?side3 ?side4 ?side5 ?side6 A4.out).mono ?_); (case side1 => exact Kd.C_nil _ _); (case side2 => exact Nat.le_refl _); (case side3 => exact Kd.C_nil _ _); (case side4 => exact Nat.le_refl _); (case side5 => exact Kd.C_nil _ _); (case side6 => exact Nat.le_refl _); rintro e w10 ⟨v474, v476, rfl, ho0, ho1, hb⟩; refine ⟨_, rfl, ?_⟩; replace HO471 := Aside0.mk (Kd.R_below (Wq HO471) hb); have HO475 := Aside0.mk (Kd.R_lower (Kd.R_new' (Kd.R_new' (Kd.R_new' ho0 (Kd.R_lt (Wq HO462))) (Kd.R_lt (Wq HO465))) (Kd.R_lt (Wq HO468))) (below_size Bq)); replace HO462 := Aside0.mk (Kd.R_elder' (Wq HO462) (Kd.R_base ho0) hb); replace HO465 := Aside0.mk (Kd.R_elder' (Wq HO465) (Kd.R_base ho0) hb); replace HO468 := Aside0.mk (Kd.R_elder' (Wq HO468) (Kd.R_base ho0) hb); have HO477 := Aside0.mk (Kd.R_lower ho1 (below_size Bq)); replace HB := Aside0.mk (below_step Bq hb); clear hb ho0 ho1; (try clear A4)))) | go_values | go_skip | go_guarded | ((with_reducible refine own_cond ?_); (first | refine own_condT rfl ?_ | refine own_condF rfl ?_)) | ((with_reducible refine own_ite ?_); (first | rw [own_iteT] | rw [own_iteF])) | ((fail_if_success (with_reducible refine own_ite ?_)); (fail_if_success (with_reducible refine own_cond ?_)); (first | (go_step; (first | (fail_if_success (with_reducible refine own_upon ?_)) | go_step | go_upon); (fail_if_success ((case' isTrue => skip); (case' isFalse => skip)))) | go_upon | ((with_reducible refine own_upon ?_); go_simp) | dsimp only)))
  by_cases c11 : t457 = 800
  ·rw [if_pos c11] at H
   (first | rw [if_pos c11] | rw [if_pos (eq_of_beq c11)] | skip)
   have c11b0 : (t457 == 800) = true := beq_iff_eq.mpr c11
   have c11b1 : (t457 != 800) = false := bne_eq_false_iff_eq.mpr c11
   clear c11
   (first | rw [c11b0] | rw [c11b1] | (simp only [i64_w, i32_w]; rw [c11b0]) | skip)
   by_cases c12 : t458 = 768
   ·rw [if_pos c12] at H
    have c12b0 : (t458 == 768) = true := beq_iff_eq.mpr c12
    have c12b1 : (t458 != 768) = false := bne_eq_false_iff_eq.mpr c12
    clear c12
    by_cases c13 : t459 = 768
    ·rw [if_pos c13] at H
     have c13b0 : (t459 == 768) = true := beq_iff_eq.mpr c13
     have c13b1 : (t459 != 768) = false := bne_eq_false_iff_eq.mpr c13
     clear c13
     replace H := Option.bind_eq_some_iff.mp H
     obtain ⟨t478, A140, H⟩ := H
     try dsimp only at H
     have A14 := Aside0.mk A140
     clear A140
     repeat (first | (go_big_may; go_says (first | (go_at_call 21; (with_reducible refine (chatelainelaw0_Num.calls v470 t469 t478 _ ?side1 ?side2 A14.out).mono ?_); (case side1 => exact ErrIs.of (Wq HO471)); (case side2 => exact pw_cell_below Bq HG.out); rintro e w15 ⟨rfl, hb⟩; replace HO462 := Aside0.mk (Kd.R_below (Wq HO462) hb); replace HO465 := Aside0.mk (Kd.R_below (Wq HO465) hb); replace HO468 := Aside0.mk (Kd.R_below (Wq HO468) hb); replace HO471 := Aside0.mk (Kd.R_below (Wq HO471) hb); replace HO475 := Aside0.mk (Kd.R_below (Wq HO475) hb); replace HO477 := Aside0.mk (Kd.R_below (Wq HO477) hb); replace HB := Aside0.mk (below_step Bq hb); clear hb; (try clear A14)))) | go_values | go_skip | go_guarded | ((with_reducible refine own_cond ?_); (first | refine own_condT rfl ?_ | refine own_condF rfl ?_)) | ((with_reducible refine own_ite ?_); (first | rw [own_iteT] | rw [own_iteF])) | ((fail_if_success (with_reducible refine own_ite ?_)); (fail_if_success (with_reducible refine own_cond ?_)); (first | (go_step; (first | (fail_if_success (with_reducible refine own_upon ?_)) | go_step | go_upon); (fail_if_success ((case' isTrue => skip); (case' isFalse => skip)))) | go_upon | ((with_reducible refine own_upon ?_); go_simp) | dsimp only)))
     by_cases c16 : t478 = 2
     ·rw [if_pos c16] at H
      (first | rw [if_pos c16] | rw [if_pos (eq_of_beq c16)] | skip)
      have c16b0 : (t478 == 2) = true := beq_iff_eq.mpr c16
      have c16b1 : (t478 != 2) = false := bne_eq_false_iff_eq.mpr c16
      clear c16
      (first | rw [c16b0] | rw [c16b1] | (simp only [i64_w, i32_w]; rw [c16b0]) | skip)
      replace H := Option.bind_eq_some_iff.mp H
      obtain ⟨t479, A170, H⟩ := H
      try dsimp only at H
      have A17 := Aside0.mk A170
      clear A170
      obtain rfl := Option.some.inj H
      go_wp2_with (first | (go_at_call 21; (with_reducible refine (chatelainelaw0_Num.calls v476 t473 t479 _ ?side1 ?side2 A17.out).mono ?_); (case side1 => exact ErrIs.of (Wq HO477)); (case side2 => exact pw_cell_below Bq HG.out); rintro e w18 ⟨rfl, hb⟩; replace HO462 := Aside0.mk (Kd.R_below (Wq HO462) hb); replace HO465 := Aside0.mk (Kd.R_below (Wq HO465) hb); replace HO468 := Aside0.mk (Kd.R_below (Wq HO468) hb); replace HO471 := Aside0.mk (Kd.R_below (Wq HO471) hb); replace HO475 := Aside0.mk (Kd.R_below (Wq HO475) hb); replace HO477 := Aside0.mk (Kd.R_below (Wq HO477) hb); replace HB := Aside0.mk (below_step Bq hb); clear hb; (try clear A17)))
      go_ret
      exact ⟨by first | rfl | (simp [errW_none, errW_some] <;> rfl) | (simp [*, errW_none, errW_some] <;> rfl), Bq⟩
     ·rw [if_neg c16] at H
      (first | rw [if_neg c16] | rw [if_neg (fun e_ => c16 (beq_iff_eq.mpr e_))] | skip)
      have c16b0 : (t478 == 2) = false := beq_eq_false_iff_ne.mpr c16
      have c16b1 : (t478 != 2) = true := bne_iff_ne.mpr c16
      (first | rw [c16b0] | rw [c16b1] | (simp only [i64_w, i32_w]; rw [c16b0]) | skip)
      obtain rfl := Option.some.inj H
      go_wp2
      go_ret
      exact ⟨by first | rfl | (simp [errW_none, errW_some] <;> rfl) | (simp [*, errW_none, errW_some] <;> rfl), Bq⟩
    ·rw [if_neg c13] at H
     have c13b0 : (t459 == 768) = false := beq_eq_false_iff_ne.mpr c13
     have c13b1 : (t459 != 768) = true := bne_iff_ne.mpr c13
     obtain rfl := Option.some.inj H
     go_wp2
     go_ret
     exact ⟨by first | rfl | (simp [errW_none, errW_some] <;> rfl) | (simp [*, errW_none, errW_some] <;> rfl), Bq⟩
   ·rw [if_neg c12] at H
    have c12b0 : (t458 == 768) = false := beq_eq_false_iff_ne.mpr c12
    have c12b1 : (t458 != 768) = true := bne_iff_ne.mpr c12
    obtain rfl := Option.some.inj H
    go_wp2
    go_ret
    exact ⟨by first | rfl | (simp [errW_none, errW_some] <;> rfl) | (simp [*, errW_none, errW_some] <;> rfl), Bq⟩
  ·rw [if_neg c11] at H
   (first | rw [if_neg c11] | rw [if_neg (fun e_ => c11 (beq_iff_eq.mpr e_))] | skip)
   have c11b0 : (t457 == 800) = false := beq_eq_false_iff_ne.mpr c11
   have c11b1 : (t457 != 800) = true := bne_iff_ne.mpr c11
   (first | rw [c11b0] | rw [c11b1] | (simp only [i64_w, i32_w]; rw [c11b0]) | skip)
   obtain rfl := Option.some.inj H
   go_wp2
   go_ret
   exact ⟨by first | rfl | (simp [errW_none, errW_some] <;> rfl) | (simp [*, errW_none, errW_some] <;> rfl), Bq⟩
 ·rw [if_neg c2] at H
  exact absurd H (by simp)

/-! ### chatelainelaw0_Low: function 11 -/
def chatelainelaw0_Low.f (a0 : Int) (a1 : Int) : Option (Int) := if (IntKind.u64.wrap (a1)) = 0 then (none) else (some (wrap64 (Int.tmod (IntKind.u64.wrap (a0)) (IntKind.u64.wrap (a1)))))
set_option maxHeartbeats 8000000 in
set_option maxRecDepth 100000 in
theorem chatelainelaw0_Low.calls (a0 : Int) (a1 : Int) (r : Int) (w : World) (h : chatelainelaw0_Low.f a0 a1 = some r) :
  Calls Tryd.prog 11 #[.int .i64 a0, .int .i64 a1] w fun e w' => e = .returned (.int .i64 r) ∧ Drawn0 w w' := by
 have H := h
 unfold chatelainelaw0_Low.f at H
 clear h
 by_cases c3 : (IntKind.u64.wrap (a1)) = 0
 ·rw [if_pos c3] at H
  exact absurd H (by simp)
 ·rw [if_neg c3] at H
  have c3b0 : ((IntKind.u64.wrap (a1)) == 0) = false := beq_eq_false_iff_ne.mpr c3
  have c3b1 : ((IntKind.u64.wrap (a1)) != 0) = true := bne_iff_ne.mpr c3
  obtain rfl := Option.some.inj H
  go_enter Tryd.func11, Tryd.ntmps11
  go_wp2
  go_ret
  exact ⟨by first | rfl | (simp; done) | (simp [*]; done), by repeat (first | exact Drawn0.refl _ | apply Drawn0.step)⟩

end Go.Proofs.YtkdfcgihgndnnaaDoor.PPA
end
section
namespace Go.Proofs.YtkdfcgihgndnnaaDoor.PPA
open Go.RowKit Go.Proofs.YtkdfcgihgndnnaaDoorW.PrintWords Go.Proofs.YtkdfcgihgndnnaaDoorW.PrintLast Go.Proofs.YtkdfcgihgndnnaaDoorW.PrintMore Go.Proofs.YtkdfcgihgndnnaaDoorW.PrintZip
attribute [local go_sem] max2_int min2_int max_two min_two max_three min_three max_four min_four   -- for this text's walks alone
set_option linter.unusedVariables false
set_option linter.unusedSimpArgs false

/-! ### chatelainelaw7_full: function 12 -/
def chatelainelaw7_full.l0 : Nat → List Int → Int → List Int → Int → Option (List Int)
 | 0, _, _, _, _ => none
 | k + 1, x0, x1, x5, x6 => if x6 < 32 then (if 0 ≤ x6 then (if x6 < (x5.length : Int) then ((some (x5.set (x6 : Int).toNat ((wrap64 (x1 + x6)) % 256) : List Int)).bind fun y483 => (if (x0.length : Int) > 0 then (if (x0.length : Int) = 0 then (none) else (if 0 ≤ (Int.tmod x6 (x0.length : Int)) then (if (Int.tmod x6 (x0.length : Int)) < (x0.length : Int) then (chatelainelaw7_full.l0 k x0 x1 (y483.set (x6 : Int).toNat (((rd y483 x6) + (rd x0 (Int.tmod x6 (x0.length : Int)))) % 256)) (wrap64 (x6 + 1))) else (none)) else (none))) else (chatelainelaw7_full.l0 k x0 x1 y483 (wrap64 (x6 + 1))))) else (none)) else (none)) else (some x5)
def chatelainelaw7_full.f (k : Nat) (l0 : List Int) (a1 : Int) : Option (List Int) := if 32 ≤ 281474976710656 then (chatelainelaw7_full.l0 k l0 a1 (List.replicate 32 0) 0) else (none)
def chatelainelaw7_full.T7 : Bool × List (List Nat × List Nat) := (true, [([], []), ([], []), ([], []), ([], []), ([2, 3], [2, 3]), ([4], [4]), ([], []), ([], []), ([], []), ([8], [8]), ([7, 9], [7, 9]), ([6, 10], [6, 10]), ([11], [11]), ([5, 12], [5, 12]), ([0, 1, 0, 1, 2, 3, 4, 5, 6, 7, 8, 9, 10, 11, 12, 13], [0, 1]), ([14, 13, 0, 1, 2, 3, 4, 5, 6, 7, 8, 9, 10, 11, 12, 13], [13, 14])])
def chatelainelaw7_full.B7 : List Nat := [0, 0, 0, 0, 12, 28, 0, 0, 0, 256, 896, 1984, 4032, 8188, 16383, 32767]
theorem chatelainelaw7_full.tab7 : rtab .any (opsOf Tryd.f12 7) = chatelainelaw7_full.T7 := by kernel_rfl
theorem chatelainelaw7_full.bits7 : waitsOk chatelainelaw7_full.T7.2 chatelainelaw7_full.B7 = true := by kernel_rfl
set_option maxHeartbeats 8000000 in
set_option maxRecDepth 100000 in
theorem chatelainelaw7_full.calls (k : Nat) (A0 : Option Addr) (c0 : Nat) (l0 : List Int) (a1 : Int) (r : List Int) (w : World) (hr0 : Kd.C (Kd.int .u8) w A0 l0.length l0) (hc0 : l0.length ≤ c0) (h : chatelainelaw7_full.f k l0 a1 = some r) :
  Calls Tryd.prog 12 #[.slice A0 l0.length c0, .int .i64 a1] w fun e w' => ∃ v0_ : Value, e = .returned (v0_) ∧ Kd.R (Kd.int .u8) 5 w' w.heap.size (fun _ => True) v0_ r ∧ Below w.heap.size w w' := by
 have HR0 := Aside0.mk hr0
 have HC0 := Aside0.mk hc0
 clear hr0 hc0
 have HB := Aside0.mk (Below.refl w.heap.size w)
 have H := h
 unfold chatelainelaw7_full.f at H
 clear h
 by_cases c3 : 32 ≤ 281474976710656
 ·rw [if_pos c3] at H
  have c3b0 := eq_true c3
  have c3b1 : decide (32 ≤ 281474976710656) = true := decide_eq_true c3
  clear c3
  obtain ⟨y480, Ny480⟩ : ∃ y_ : List Int, Aside0 (y_ = (List.replicate 32 0)) := ⟨_, ⟨rfl⟩⟩
  first | rw [Option.bind_some, ← Ny480.out] at H | rw [← Ny480.out] at H
  have H' := Aside0.mk H
  clear H
  go_enter Tryd.func12, Tryd.ntmps12
  go_wp2_with (first | ((with_reducible refine gate_dst (N := 7) rfl ?_); refine Kd.R_make (Kd.int .u8) _ 5 rfl (N := 7) rfl 22 _ _ rfl 32 rfl rfl Tryd.underlying22 (.int .u8 0) 1 info5 rfl (by decide) (by omega) 0 (ok := fun _ => True) (okp := fun _ => True) rfl (fun _ hk => hk) trivial (by omega) (by omega) (Below.refl _ _) (Nat.le_refl _) ?_; intro v481 w4 ho5 hb hg_ hnew_; clear hg_ hnew_; (first | rw [← Ny480.out] at ho5 | (simp only [Int.reduceToNat] at ho5; rw [← Ny480.out] at ho5)); have HO482 := Aside0.mk (Kd.R_lower ho5 (below_size Bq)); replace HB := Aside0.mk (below_step Bq hb); clear hb ho5))
  go_loopg [6] k (fun kq v6 w' => ∃ (x5_1 : List Int) (x6_1 : Int), v6 = .int .i64 x6_1 ∧ Aside0 (chatelainelaw7_full.l0 kq l0 a1 x5_1 x6_1 = some r) ∧ Aside0 (kq ≤ k) ∧ Aside0 (Kd.R (Kd.int .u8) 5 w' w.heap.size (fun _ => True) v481 x5_1) ∧ Aside0 (Below w.heap.size w w'))
  case atStart => exact ⟨(y480), (0), Rq, H', ⟨Nat.le_refl _⟩, ⟨Wq HO482⟩, ⟨Bq⟩⟩
  case round =>
   clear H'
   try clear c1
   try clear p2
   try clear c3
   try clear c3b0
   try clear c3b1
   obtain ⟨x5_1, x6_1, rfl, HA, HK1, HO_5, HB⟩ := hrel
   cases gk with
   | zero => exact absurd HA.out (by simp [chatelainelaw7_full.l0])
   | succ k1 =>
    have H := HA.out
    clear HA
    simp only [chatelainelaw7_full.l0] at H
    by_cases c6 : x6_1 < 32
    ·rw [if_pos c6] at H
     have c6b0 : decide (x6_1 < 32) = true := decide_eq_true c6
     clear c6
     by_cases c7 : 0 ≤ x6_1
     ·rw [if_pos c7] at H
      have c7b0 : decide (0 ≤ x6_1) = true := decide_eq_true c7
      clear c7
      by_cases c8 : x6_1 < (x5_1.length : Int)
      ·rw [if_pos c8] at H
       have c8b0 : decide (x6_1 < (x5_1.length : Int)) = true := decide_eq_true c8
       clear c8
       obtain ⟨y483, Ny483⟩ : ∃ y_ : List Int, Aside0 (y_ = (x5_1.set (x6_1 : Int).toNat ((wrap64 (a1 + x6_1)) % 256))) := ⟨_, ⟨rfl⟩⟩
       first | rw [Option.bind_some, ← Ny483.out] at H | rw [← Ny483.out] at H
       by_cases c10 : (l0.length : Int) > 0
       ·rw [if_pos c10] at H
        have c10b0 : decide (0 < (l0.length : Int)) = true := decide_eq_true c10
        have c10b1 : decide (0 < l0.length) = true := decide_eq_true (by omega)
        clear c10
        by_cases c11 : (l0.length : Int) = 0
        ·rw [if_pos c11] at H
         exact absurd H (by simp)
        ·rw [if_neg c11] at H
         have c11b0 : ((l0.length : Int) == 0) = false := beq_eq_false_iff_ne.mpr c11
         have c11b1 : ((l0.length : Int) != 0) = true := bne_iff_ne.mpr c11
         have c11b2 : ¬ (l0 = []) := fun h_ => c11 (by rw [h_]; rfl)
         obtain ⟨ji12, hji12⟩ : ∃ j_ : Int, (Int.tmod x6_1 (l0.length : Int)) = j_ := ⟨_, rfl⟩
         replace H : (if 0 ≤ (ji12) then (if (ji12) < (l0.length : Int) then (chatelainelaw7_full.l0 k1 l0 a1 (y483.set (x6_1 : Int).toNat (((rd y483 x6_1) + (rd l0 (ji12))) % 256)) (wrap64 (x6_1 + 1))) else (none)) else (none)) = some r := by first | (rw [hji12] at H; exact H) | (simp only [hji12] at H ⊢; exact H)
         by_cases c13 : 0 ≤ (ji12)
         ·rw [if_pos c13] at H
          have c13b0 : decide (0 ≤ (ji12)) = true := decide_eq_true c13
          clear c13
          by_cases c14 : (ji12) < (l0.length : Int)
          ·rw [if_pos c14] at H
           have c14b0 : decide ((ji12) < (l0.length : Int)) = true := decide_eq_true c14
           clear c14
           obtain ⟨y486, Ny486⟩ : ∃ y_ : List Int, Aside0 (y_ = (y483.set (x6_1 : Int).toNat (((rd y483 x6_1) + (rd l0 (ji12))) % 256))) := ⟨_, ⟨rfl⟩⟩
           first | rw [Option.bind_some, ← Ny486.out] at H | rw [← Ny486.out] at H
           have H' := Aside0.mk H
           clear H
           have p9 : 0 ≤ (x6_1 : Int) := of_decide_eq_true Aq
           have q9 : (x6_1 : Int) < ((x5_1.length : Int) : Int) := of_decide_eq_true Aq
           obtain ⟨go9, co9, eo9, gb9, gl9, cl9, HG9⟩ := Kd.R_form HO_5.out (by omega)
           (first | cases eo9 | (injection eo9 with ea_ en_ ec_; (first | subst ea_ | (injection ea_ with ea_; subst ea_)); subst ec_; clear en_))
           have GB9 := Aside0.mk gb9
           have GG9 := Aside0.mk HG9
           clear gb9 gl9 HG9
           obtain ⟨hx9_0, hf9_0⟩ := Kd.R_celln 0 HO_5.out (x6_1 : Int) p9 q9
           replace p9 := eq_true p9
           replace q9 := eq_true q9
           have HP16 := Kd.R_putg HO_5.out (x6_1 : Int) ((wrap64 (a1 + x6_1)) % 256)
           try go_wp2_with (first | ((with_reducible refine gate_store (t := 5) (p := 18) rfl ?_); refine store_event (t := 5) (p := 18) (v := ?vo_w17) (w1 := (wr.setCell ⟨go9, (x6_1 : Int).toNat, none⟩ (.int .u8 ((wrap64 (a1 + x6_1)) % 256)))) ?hg ?ho ?hn ?hr ?_; (case ho => rfl); (case hg => rfl); (case hn => rfl); (case hr => first | (go_simp; done) | (go_simp; rfl)); intro w17 hw; have hg : wr.grownBy w17 (some go9) := (by rw [hw]; exact HP16.2); have hp_ : Kd.R (Kd.int .u8) 5 w17 w.heap.size (fun _ => True) (.slice (some ⟨go9, 0, none⟩) x5_1.length co9) y483 := (by rw [hw, Ny483.out]; exact HP16.1); clear HP16; replace HO_5 := Aside0.mk (hp_); replace HB := Aside0.mk ((by rw [hw]; exact below_set (HB.out) GB9.out : Below w.heap.size w w17)); clear hg hw hp_))
           replace HO_5 := Aside0.mk (Kd.R_drew HO_5.out)
           replace HB := Aside0.mk (below_drew1 HB.out)
           have p484 : 0 ≤ (x6_1 : Int) := of_decide_eq_true Aq
           have q484 : x6_1 < (y483.length : Int) := (by have h_ : (x6_1 : Int) < ((x5_1.length : Int) : Int) := of_decide_eq_true Aq; first | (have e_ := (Kd.R_reads' HO_5.out).1; omega) | simpa only [Ny483.out, List.length_set] using h_)
           have ql484 : ((x6_1 : Int) < ((x5_1.length : Int) : Int)) = True := eq_true (of_decide_eq_true Aq)
           obtain ⟨ad484, e484, hx484_0⟩ := Kd.at_int (Kd.R_reads' HO_5.out).2.2 x6_1 p484 q484
           obtain rfl : (⟨go9, 0, none⟩ : Addr) = ad484 := (by injection e484)
           (first | simp only [add_plain] at hx484_0 | simp only [add_at] at hx484_0 | simp only [Addr.add, Nat.zero_add] at hx484_0 | skip)
           replace p484 := eq_true p484
           replace q484 := eq_true q484
           have p485 : 0 ≤ ((ji12) : Int) := of_decide_eq_true Aq
           have q485 : (ji12) < (l0.length : Int) := of_decide_eq_true Aq
           obtain ⟨ad485, e485, hx485_0⟩ := Kd.at_int HR0.out (ji12) p485 q485
           have hw485_0 := hx485_0
           cases e485
           replace hx485_0 := (HB.out.cell (World.block_lt_of_cell? w _ hx485_0)).trans hx485_0
           replace p485 := eq_true p485
           replace q485 := eq_true q485
           have p15 : 0 ≤ (x6_1 : Int) := of_decide_eq_true Aq
           have q15 : (x6_1 : Int) < ((x5_1.length : Int) : Int) := of_decide_eq_true Aq
           obtain ⟨hx15_0, hf15_0⟩ := Kd.R_celln 0 HO_5.out (x6_1 : Int) p15 q15
           replace p15 := eq_true p15
           replace q15 := eq_true q15
           have HP19 := Kd.R_putn HO_5.out (x6_1 : Int) (((rd y483 x6_1) + (rd l0 (ji12))) % 256)
           rw [← Ny486.out] at HP19
           have HQ19 := Aside0.mk HP19
           clear HP19
           refine start_ (n := 16) (S := fun w' => w'.cell? ⟨go9, (x6_1).toNat, none⟩ = some (.int .u8 (rd y483 x6_1)) ∧ w'.cell? (ad485.add ((ji12)).toNat) = some (.int .u8 (rd l0 (ji12)))) (ds := [15]) (bl 16 0) (by kernel_rfl) rfl rfl ⟨hx484_0, ((HB.out.cell (World.block_lt_of_cell? w _ hw485_0)).trans hw485_0)⟩ (fun hHeld => ?_); refine with_tabW chatelainelaw7_full.tab7 chatelainelaw7_full.bits7 (fun HT_ HW_ => ?_)
           generalize w17.drew = w18 at HO_5 HB HQ19 hf15_0 hx15_0 hx484_0 hx485_0 hHeld ⊢
           refine pq 0 (some 22) (bl 16 1) ?_
           refine pq 1 (some 23) (bl 16 3) ?_
           refine pq 2 (some 24) (bl 16 7) ?_
           refine pq 3 (some 25) (bl 16 15) ?_
           refine pq 4 (some 26) (bl 16 31) ?_
           refine pq 6 (some 28) (bl 16 95) ?_
           refine pq 7 (some 29) (bl 16 223) ?_
           refine pq 8 (some 30) (bl 16 479) ?_
           refine pq 9 (some 31) (bl 16 991) ?_
           refine pq 10 (some 32) (bl 16 2015) ?_
           refine pq 11 (some 33) (bl 16 4063) ?_
           refine tq 5 (some 27) (bl 16 4095) ?_
           refine tq 12 (some 34) (bl 16 8191) ?_
           refine pq 13 (some 35) (bl 16 16383) ?_
           refine pq 14 (some 36) (bl 16 32767) ?_
           refine last_ (i := 15) (N := none) (bl 16 65535) rfl rfl (one_of HT_.out (by kernel_rfl)) (by decide) (fun K hK => ?_)
           refine skip_ (w1 := ?_) (by rfl) rfl ?_ ?_
           rotate_left
           ·go_simp
            rfl
           refine hK.out _ _ ?_
           clear hK K
           refine done_ (done_of HT_.out (by kernel_rfl)) ?_
           try go_wp2
           go_roundg k1
           case measure => have := HK1.out; omega
           case rel => exact ⟨(y486), (wrap64 (x6_1 + 1)), Rq, H', ⟨by have := HK1.out; omega⟩, ⟨Wq HQ19⟩, ⟨by repeat (first | (with_reducible first | exact HB.out | apply below_alloc | apply pw_below_drewN | apply below_drew1 | refine below_set ?_ GB9.out) | exact HB.out)⟩⟩
          ·rw [if_neg c14] at H
           exact absurd H (by simp)
         ·rw [if_neg c13] at H
          exact absurd H (by simp)
       ·rw [if_neg c10] at H
        have c10b0 : decide (0 < (l0.length : Int)) = false := decide_eq_false c10
        have c10b1 : decide (0 < l0.length) = false := decide_eq_false (by omega)
        clear c10
        have H' := Aside0.mk H
        clear H
        have p9 : 0 ≤ (x6_1 : Int) := of_decide_eq_true Aq
        have q9 : (x6_1 : Int) < ((x5_1.length : Int) : Int) := of_decide_eq_true Aq
        obtain ⟨go9, co9, eo9, gb9, gl9, cl9, HG9⟩ := Kd.R_form HO_5.out (by omega)
        (first | cases eo9 | (injection eo9 with ea_ en_ ec_; (first | subst ea_ | (injection ea_ with ea_; subst ea_)); subst ec_; clear en_))
        have GB9 := Aside0.mk gb9
        have GG9 := Aside0.mk HG9
        clear gb9 gl9 HG9
        obtain ⟨hx9_0, hf9_0⟩ := Kd.R_celln 0 HO_5.out (x6_1 : Int) p9 q9
        replace p9 := eq_true p9
        replace q9 := eq_true q9
        have HP20 := Kd.R_putg HO_5.out (x6_1 : Int) ((wrap64 (a1 + x6_1)) % 256)
        go_wp2_with (first | ((with_reducible refine gate_store (t := 5) (p := 18) rfl ?_); refine store_event (t := 5) (p := 18) (v := ?vo_w21) (w1 := (wr.setCell ⟨go9, (x6_1 : Int).toNat, none⟩ (.int .u8 ((wrap64 (a1 + x6_1)) % 256)))) ?hg ?ho ?hn ?hr ?_; (case ho => rfl); (case hg => rfl); (case hn => rfl); (case hr => first | (go_simp; done) | (go_simp; rfl)); intro w21 hw; have hg : wr.grownBy w21 (some go9) := (by rw [hw]; exact HP20.2); have hp_ : Kd.R (Kd.int .u8) 5 w21 w.heap.size (fun _ => True) (.slice (some ⟨go9, 0, none⟩) x5_1.length co9) y483 := (by rw [hw, Ny483.out]; exact HP20.1); clear HP20; replace HO_5 := Aside0.mk (hp_); replace HB := Aside0.mk ((by rw [hw]; exact below_set (HB.out) GB9.out : Below w.heap.size w w21)); clear hg hw hp_))
        go_roundg k1
        case measure => have := HK1.out; omega
        case rel => exact ⟨(y483), (wrap64 (x6_1 + 1)), Rq, H', ⟨by have := HK1.out; omega⟩, ⟨Wq HO_5⟩, ⟨Bq⟩⟩
      ·rw [if_neg c8] at H
       exact absurd H (by simp)
     ·rw [if_neg c7] at H
      exact absurd H (by simp)
    ·rw [if_neg c6] at H
     have c6b0 : decide (x6_1 < 32) = false := decide_eq_false c6
     clear c6
     obtain rfl := Option.some.inj H
     go_wp2
     go_ret
     exact ⟨_, by first | rfl | (simp [errW_none, errW_some] <;> rfl) | (simp [*, errW_none, errW_some] <;> rfl), Wq HO_5, Bq⟩
 ·rw [if_neg c3] at H
  exact absurd H (by simp)

end Go.Proofs.YtkdfcgihgndnnaaDoor.PPA
end
section
namespace Go.Proofs.YtkdfcgihgndnnaaDoor.PPA
open Go.RowKit Go.Proofs.YtkdfcgihgndnnaaDoorW.PrintWords Go.Proofs.YtkdfcgihgndnnaaDoorW.PrintLast Go.Proofs.YtkdfcgihgndnnaaDoorW.PrintMore Go.Proofs.YtkdfcgihgndnnaaDoorW.PrintZip
attribute [local go_sem] max2_int min2_int max_two min_two max_three min_three max_four min_four   -- for this text's walks alone
set_option linter.unusedVariables false
set_option linter.unusedSimpArgs false

/-! ### chatelainelaw7_PkeParts: function 4 -/
mutual
def chatelainelaw7_PkeParts.j0 : Nat → Int → List Int → List Int → List Int → Int → Bool → Int → Int → Int → Int → Int → Option (Bool)
 | 0, _, _, _, _, _, _, _, _, _, _, _ => none
 | k + 1, x0, x5, x6, x7, x11, x84, x508000, x508001, x508002, x508003, x508004 => if x84 = true then (some false) else ((sponge_Sha512.f (([x5, (([(x508000) % 256] : List Int))] : List (List Int)))).bind fun t517 => (if (t517.length : Int) = 64 then (if 0 ≤ (wrap64 (x11 - 32)) then (if (wrap64 (x11 - 32)) ≤ (x6.length : Int) then (if 32 ≤ (t517.length : Int) then ((chatelainelaw0_SameBytes.f k (x6.drop ((wrap64 (x11 - 32)) : Int).toNat) (t517.take 32)).bind fun t530 => (chatelainelaw7_PkeParts.j1 k x0 x6 x7 (!t530) x508000 x508001 x508002 x508003 x508004)) else (none)) else (none)) else (none)) else (chatelainelaw7_PkeParts.j1 k x0 x6 x7 true x508000 x508001 x508002 x508003 x508004)))
def chatelainelaw7_PkeParts.j1 : Nat → Int → List Int → List Int → Bool → Int → Int → Int → Int → Int → Option (Bool)
 | 0, _, _, _, _, _, _, _, _, _ => none
 | k + 1, x0, x6, x7, x104, x508000, x508001, x508002, x508003, x508004 => if x104 = true then (some false) else (chatelainelaw7_PkeParts.l0 k x0 x6 x7 0 x508000 x508001 x508002 x508003 x508004)
def chatelainelaw7_PkeParts.l0 : Nat → Int → List Int → List Int → Int → Int → Int → Int → Int → Int → Option (Bool)
 | 0, _, _, _, _, _, _, _, _, _ => none
 | k + 1, x0, x6, x7, x15, x508000, x508001, x508002, x508003, x508004 => if x15 < x508000 then (if 0 ≤ (wrap64 (384 * x15)) then (if (wrap64 (384 * x15)) ≤ (wrap64 (384 * (wrap64 (x15 + 1)))) then (if (wrap64 (384 * (wrap64 (x15 + 1)))) ≤ (x6.length : Int) then ((bits_Unpack.f k 12 ((x6.take ((wrap64 (384 * (wrap64 (x15 + 1)))) : Int).toNat).drop ((wrap64 (384 * x15)) : Int).toNat)).bind fun t543 => (if (wrap64 (384 * (wrap64 (x15 + 1)))) ≤ (x7.length : Int) then ((bits_Unpack.f k 12 ((x7.take ((wrap64 (384 * (wrap64 (x15 + 1)))) : Int).toNat).drop ((wrap64 (384 * x15)) : Int).toNat)).bind fun t551 => ((poly_May.f k t543).bind fun t554 => (if t554 = true then ((poly_May.f k t551).bind fun t555 => (if t555 = true then ((bits_Pack.f k 12 t543).bind fun t556 => ((chatelainelaw0_SameBytes.f k t556 ((x6.take ((wrap64 (384 * (wrap64 (x15 + 1)))) : Int).toNat).drop ((wrap64 (384 * x15)) : Int).toNat)).bind fun t564 => (if t564 = true then (chatelainelaw7_PkeParts.l0 k x0 x6 x7 (wrap64 (x15 + 1)) x508000 x508001 x508002 x508003 x508004) else (some false)))) else (some false))) else (some false)))) else (none))) else (none)) else (none)) else (none)) else ((pke_May.f k x0 x6).bind fun t531 => (if t531.isEmpty = true then ((pke_May.f k (wrap64 (1 + (Int.tmod x0 3))) x6).bind fun t534 => (if t534.isEmpty = true then (some false) else ((chatelainelaw7_awake.f k).bind fun t537 => (some t537)))) else (some false)))
end
def chatelainelaw7_PkeParts.f (k : Nat) (a0 : Int) (l1 : List Int) : Option (Bool) := if (l1.length : Int) > 100 then ((chatelainelaw7_awake.f k).bind fun t487 => (some t487)) else ((chatelainelaw0_Low.f a0 3).bind fun t488 => ((chatelainelaw7_full.f k l1 2).bind fun t489 => ((pke_Keys.f k (wrap64 (1 + t488)) t489).bind fun bt492 => ((pke_Of.f (wrap64 (1 + t488))).bind fun bt501 => ((pke_Sizes.f (wrap64 (1 + t488))).bind fun bt508 => (if bt492.2.2.isEmpty = true then (if bt501.2.2.2.2.2 = true then (if bt501.1 = (wrap64 (1 + (wrap64 (1 + t488)))) then (if bt508.1 = (wrap64 ((wrap64 (384 * bt501.1)) + 32)) then (if bt508.2.1 = (wrap64 (384 * bt501.1)) then (if (bt492.1.length : Int) = bt508.1 then (chatelainelaw7_PkeParts.j0 k (wrap64 (1 + t488)) t489 bt492.1 bt492.2.1 bt508.1 ((bt492.2.1.length : Int) != bt508.2.1) bt501.1 bt501.2.1 bt501.2.2.1 bt501.2.2.2.1 bt501.2.2.2.2.1) else (chatelainelaw7_PkeParts.j0 k (wrap64 (1 + t488)) t489 bt492.1 bt492.2.1 bt508.1 true bt501.1 bt501.2.1 bt501.2.2.1 bt501.2.2.2.1 bt501.2.2.2.2.1)) else (chatelainelaw7_PkeParts.j0 k (wrap64 (1 + t488)) t489 bt492.1 bt492.2.1 bt508.1 true bt501.1 bt501.2.1 bt501.2.2.1 bt501.2.2.2.1 bt501.2.2.2.2.1)) else (chatelainelaw7_PkeParts.j0 k (wrap64 (1 + t488)) t489 bt492.1 bt492.2.1 bt508.1 true bt501.1 bt501.2.1 bt501.2.2.1 bt501.2.2.2.1 bt501.2.2.2.2.1)) else (chatelainelaw7_PkeParts.j0 k (wrap64 (1 + t488)) t489 bt492.1 bt492.2.1 bt508.1 true bt501.1 bt501.2.1 bt501.2.2.1 bt501.2.2.2.1 bt501.2.2.2.2.1)) else (chatelainelaw7_PkeParts.j0 k (wrap64 (1 + t488)) t489 bt492.1 bt492.2.1 bt508.1 true bt501.1 bt501.2.1 bt501.2.2.1 bt501.2.2.2.1 bt501.2.2.2.2.1)) else (chatelainelaw7_PkeParts.j0 k (wrap64 (1 + t488)) t489 bt492.1 bt492.2.1 bt508.1 true bt501.1 bt501.2.1 bt501.2.2.1 bt501.2.2.2.1 bt501.2.2.2.2.1)))))))
def chatelainelaw7_PkeParts.T11 : Bool × List (List Nat × List Nat) := (true, [([], []), ([0], [0]), ([1], [1]), ([2], [2]), ([3], [3]), ([3], [3]), ([5, 3], [3, 5]), ([4, 6, 3], [3, 4, 6]), ([3], [3]), ([8, 3], [3, 8]), ([7, 9, 3, 3], [3, 7, 9]), ([10, 3], [3, 10]), ([3, 11], [3, 11])])
def chatelainelaw7_PkeParts.B11 : List Nat := [0, 1, 3, 7, 15, 15, 47, 127, 15, 271, 1023, 2047, 4095]
theorem chatelainelaw7_PkeParts.tab11 : rtab .any (opsOf Tryd.f4 11) = chatelainelaw7_PkeParts.T11 := by kernel_rfl
theorem chatelainelaw7_PkeParts.bits11 : waitsOk chatelainelaw7_PkeParts.T11.2 chatelainelaw7_PkeParts.B11 = true := by kernel_rfl
def chatelainelaw7_PkeParts.T16 : Bool × List (List Nat × List Nat) := (true, [([], []), ([], []), ([1], [1]), ([], []), ([3], [3]), ([4], [4]), ([0, 2, 5], [0, 2, 5]), ([6], [6]), ([], []), ([], []), ([9], [9]), ([], []), ([11], [11]), ([12], [12]), ([8, 10, 13], [8, 10, 13]), ([14, 7], [14]), ([7, 15, 0, 1, 2, 3, 4, 5, 6, 7], [7]), ([15, 16, 0, 1, 2, 3, 4, 5, 6, 7, 8, 9, 10, 11, 12, 13, 14, 15, 16], [15])])
def chatelainelaw7_PkeParts.B16 : List Nat := [0, 0, 2, 0, 8, 24, 63, 127, 0, 0, 512, 0, 2048, 6144, 16128, 32767, 65535, 131071]
theorem chatelainelaw7_PkeParts.tab16 : rtab .any (opsOf Tryd.f4 16) = chatelainelaw7_PkeParts.T16 := by kernel_rfl
theorem chatelainelaw7_PkeParts.bits16 : waitsOk chatelainelaw7_PkeParts.T16.2 chatelainelaw7_PkeParts.B16 = true := by kernel_rfl
def chatelainelaw7_PkeParts.T17 : Bool × List (List Nat × List Nat) := (true, [([], []), ([0], [0]), ([1], [1]), ([2, 1], [2]), ([3], [3]), ([4, 3, 3], [3, 4]), ([5, 3], [3, 5]), ([3, 6], [3, 6]), ([7, 5], [7]), ([8], [8]), ([9, 8, 8], [8, 9]), ([8], [8]), ([8], [8]), ([12, 8], [8, 12]), ([8], [8]), ([14, 8], [8, 14]), ([15, 8], [8, 15]), ([11, 13, 16, 8], [8, 11, 13, 16]), ([10, 17, 10, 8], [8, 10, 17]), ([18, 8], [8, 18]), ([8, 19], [8, 19])])
def chatelainelaw7_PkeParts.B17 : List Nat := [0, 1, 3, 7, 15, 31, 63, 127, 255, 511, 1023, 511, 511, 4607, 511, 16895, 49663, 129535, 262143, 524287, 1048575]
theorem chatelainelaw7_PkeParts.tab17 : rtab .any (opsOf Tryd.f4 17) = chatelainelaw7_PkeParts.T17 := by kernel_rfl
theorem chatelainelaw7_PkeParts.bits17 : waitsOk chatelainelaw7_PkeParts.T17.2 chatelainelaw7_PkeParts.B17 = true := by kernel_rfl
set_option maxHeartbeats 8000000 in
set_option maxRecDepth 100000 in
theorem chatelainelaw7_PkeParts.calls (k : Nat) (a0 : Int) (A1 : Option Addr) (c1 : Nat) (l1 : List Int) (r : Bool) (w : World) (hr1 : Kd.C (Kd.int .u8) w A1 l1.length l1) (hc1 : l1.length ≤ c1) (hg_ : w.cell? ⟨0, 0, none⟩ = some (.iface 115 (.agg #[.pointer (some ⟨1, 26, none⟩)]))) (h : chatelainelaw7_PkeParts.f k a0 l1 = some r) :
  Calls Tryd.prog 4 #[.int .i64 a0, .slice A1 l1.length c1] w fun e w' => e = .returned (.bool r) ∧ Below w.heap.size w w' := by
 have hu34 := Tryd.underlying34
 have HR1 := Aside0.mk hr1
 have HC1 := Aside0.mk hc1
 clear hr1 hc1
 have HG := Aside0.mk hg_
 clear hg_
 have HB := Aside0.mk (Below.refl w.heap.size w)
 have H := h
 unfold chatelainelaw7_PkeParts.f at H
 clear h
 by_cases c3 : (l1.length : Int) > 100
 ·rw [if_pos c3] at H
  have c3b0 : decide (100 < (l1.length : Int)) = true := decide_eq_true c3
  have c3b1 : decide (100 < l1.length) = true := decide_eq_true (by omega)
  clear c3
  replace H := Option.bind_eq_some_iff.mp H
  obtain ⟨t487, A40, H⟩ := H
  try dsimp only at H
  have A4 := Aside0.mk A40
  clear A40
  obtain rfl := Option.some.inj H
  go_enter Tryd.func4, Tryd.ntmps4
  go_wp2_with (first | ((with_reducible refine gate_callee (f := 10) rfl ?_); refine goesL_ (some 21) rfl rfl Tryd.func10 (by kernel_rfl) rfl #[] rfl Mq ?_; (with_reducible refine (chatelainelaw7_awake.calls k  t487 _ ?side1 A4.out).mono ?_); (case side1 => exact pw_cell_below Bq HG.out); rintro e w5 ⟨rfl, hb⟩; refine ⟨_, rfl, ?_⟩; replace HB := Aside0.mk (below_step Bq hb); clear hb; (try clear A4)))
  go_ret
  exact ⟨by first | rfl | (simp [errW_none, errW_some] <;> rfl) | (simp [*, errW_none, errW_some] <;> rfl), Bq⟩
 ·rw [if_neg c3] at H
  have c3b0 : decide (100 < (l1.length : Int)) = false := decide_eq_false c3
  have c3b1 : decide (100 < l1.length) = false := decide_eq_false (by omega)
  clear c3
  replace H := Option.bind_eq_some_iff.mp H
  obtain ⟨t488, A60, H⟩ := H
  try dsimp only at H
  have A6 := Aside0.mk A60
  clear A60
  replace H := Option.bind_eq_some_iff.mp H
  obtain ⟨t489, A70, H⟩ := H
  try dsimp only at H
  have A7 := Aside0.mk A70
  clear A70
  replace H := Option.bind_eq_some_iff.mp H
  obtain ⟨⟨t492, t495, t498⟩, A80, H⟩ := H
  try dsimp only at H
  have A8 := Aside0.mk A80
  clear A80
  replace H := Option.bind_eq_some_iff.mp H
  obtain ⟨⟨t501, t502, t503, t504, t505, t506⟩, A90, H⟩ := H
  try dsimp only at H
  have A9 := Aside0.mk A90
  clear A90
  replace H := Option.bind_eq_some_iff.mp H
  obtain ⟨⟨t508, t509, t510⟩, A100, H⟩ := H
  try dsimp only at H
  have A10 := Aside0.mk A100
  clear A100
  have HC11 := Aside0.mk H
  clear H
  go_enter Tryd.func4, Tryd.ntmps4
  go_upto_region 8 with (first | ((with_reducible refine gate_callee (f := 11) rfl ?_); refine goesL_ (some 23) rfl rfl Tryd.func11 (by kernel_rfl) rfl #[.int .i64 a0, .int .i64 3] rfl Mq ?_; (with_reducible refine (chatelainelaw0_Low.calls a0 3 t488 _ A6.out).mono ?_); rintro e w' ⟨rfl, ⟨nd, rfl⟩⟩; refine ⟨_, rfl, ?_⟩) | ((with_reducible refine gate_callee (f := 12) rfl ?_); refine goesL_ (some 26) rfl rfl Tryd.func12 (by kernel_rfl) rfl #[.slice A1 l1.length c1, .int .i64 2] rfl Mq ?_; (with_reducible refine (chatelainelaw7_full.calls k _ _ l1 2 t489 _ ?side1 ?side2 A7.out).mono ?_); (case side1 => exact Cq (HR1.out)); (case side2 => exact HC1.out); rintro e w12 ⟨v490, rfl, ho0, hb⟩; refine ⟨_, rfl, ?_⟩; have HO491 := Aside0.mk (Kd.R_lower ho0 (below_size Bq)); replace HB := Aside0.mk (below_step Bq hb); clear hb ho0; (try clear A7); obtain ⟨Ao13, co13, eo13⟩ := Kd.R_slice HO491.out; subst eo13) | ((with_reducible refine gate_callee (f := 8) rfl ?_); refine goesL_ (some 30) rfl rfl Tryd.func8 (by kernel_rfl) rfl #[.int .i64 (wrap64 (1 + t488)), .slice Ao13 t489.length co13] rfl Mq ?_; (with_reducible refine (pke_Keys.calls k (wrap64 (1 + t488)) (fun k_ => some k_ = (.slice Ao13 t489.length co13 : Value).ownBlock) _ _ t489 t492 t495 t498 _ ?side1 A8.out).mono ?_); (case side1 => exact Kd.R_V (Kd.R_tight rfl (HO491.out))); rintro e w14 ⟨v493, v496, v499, rfl, ho0, ho1, ho2, hb⟩; refine ⟨_, rfl, ?_⟩; have HO494 := Aside0.mk (Kd.R_lower (Kd.R_new' (Kd.R_mono (ok' := fun k_ => some k_ ≠ (v496 : Value).ownBlock) ho0 (fun _ hk_ => hk_.2)) (Kd.R_lt (Wq HO491))) (below_size Bq)); have HO497 := Aside0.mk (Kd.R_lower (Kd.R_new' (Kd.R_mono (ok' := fun k_ => some k_ ≠ (v493 : Value).ownBlock) ho1 (fun _ hk_ => hk_.2)) (Kd.R_lt (Wq HO491))) (below_size Bq)); replace HO491 := Aside0.mk (Kd.R_mono (Kd.R_told (Kd.R_told (Kd.R_old (Wq HO491) hb) (Kd.R_base ho0)) (Kd.R_base ho1)) (fun _ h_ => h_.1)); have HO500 := Aside0.mk (Kd.R_lower (Kd.R_mono (ok' := fun k_ => True) ho2 (fun _ hk_ => trivial)) (below_size Bq)); replace HB := Aside0.mk (below_step Bq hb); clear hb ho0 ho1 ho2; (try clear A8)) | ((with_reducible refine gate_callee (f := 13) rfl ?_); refine goesL_ (some 36) rfl rfl Tryd.func13 (by kernel_rfl) rfl #[.int .i64 (wrap64 (1 + t488))] rfl Mq ?_; (with_reducible refine (pke_Of.calls (wrap64 (1 + t488)) t501 t502 t503 t504 t505 t506 _ A9.out).mono ?_); rintro e w15 ⟨rfl, hb⟩; refine ⟨_, rfl, ?_⟩; replace HO491 := Aside0.mk (Kd.R_below (Wq HO491) hb); replace HO494 := Aside0.mk (Kd.R_below (Wq HO494) hb); replace HO497 := Aside0.mk (Kd.R_below (Wq HO497) hb); replace HO500 := Aside0.mk (Kd.R_below (Wq HO500) hb); replace HB := Aside0.mk (below_step Bq hb); clear hb; (try clear A9)) | ((with_reducible refine gate_dst (N := 9) rfl ?_); (try (refine gate_guard (by rfl) ?_; dsimp only)); refine box_event ?hg (N := 9) ?hd (cs := #[.int .i64 0, .int .i64 0, .int .i64 0, .int .i64 0, .int .i64 0]) (t := 34) ?hr ?_; (case hd => rfl); (case hg => rfl); (case hr => first | (go_simp; done) | (go_simp; rfl)); intro gb507 hg w16 hbox hb; replace HO491 := Aside0.mk (Kd.R_below (Wq HO491) hb); replace HO494 := Aside0.mk (Kd.R_below (Wq HO494) hb); replace HO497 := Aside0.mk (Kd.R_below (Wq HO497) hb); replace HO500 := Aside0.mk (Kd.R_below (Wq HO500) hb); have BK507 := Aside0.mk (hbox); have GW507 := Aside0.mk ((by rw [hg]; exact (below_size Bq) : w.heap.size ≤ gb507)); have GE507 := Aside0.mk ((by rw [hg]; exact (below_size Bq) : w.heap.size ≤ gb507)); replace HB := Aside0.mk (below_step Bq hb); clear hb hbox hg; have hcz17_0 : w16.cell? ⟨gb507, 0, none⟩ = some (.int .i64 0) := (blk_cell BK507.out 0).trans rfl; have hcz17_1 : w16.cell? ⟨gb507, 1, none⟩ = some (.int .i64 0) := (blk_cell BK507.out 1).trans rfl; have hcz17_2 : w16.cell? ⟨gb507, 2, none⟩ = some (.int .i64 0) := (blk_cell BK507.out 2).trans rfl; have hcz17_3 : w16.cell? ⟨gb507, 3, none⟩ = some (.int .i64 0) := (blk_cell BK507.out 3).trans rfl; have hcz17_4 : w16.cell? ⟨gb507, 4, none⟩ = some (.int .i64 0) := (blk_cell BK507.out 4).trans rfl; have hfz17_0 := blk_frozen BK507.out 0; have hfz17_1 := blk_frozen BK507.out 1; have hfz17_2 := blk_frozen BK507.out 2; have hfz17_3 := blk_frozen BK507.out 3; have hfz17_4 := blk_frozen BK507.out 4) | ((with_reducible refine gate_callee (f := 14) rfl ?_); refine goesL_ (some 41) rfl rfl Tryd.func14 (by kernel_rfl) rfl #[.int .i64 (wrap64 (1 + t488))] rfl Mq ?_; (with_reducible refine (pke_Sizes.calls (wrap64 (1 + t488)) t508 t509 t510 _ A10.out).mono ?_); rintro e w18 ⟨rfl, hb⟩; refine ⟨_, rfl, ?_⟩; replace HO491 := Aside0.mk (Kd.R_below (by (with_reducible repeat (first | apply Kd.R_alloc | apply Kd.R_drewN | apply Kd.R_drew)); exact (Kd.R_mono (Kd.R_far (p := ⟨gb507, 4, none⟩) (Kd.R_far (p := ⟨gb507, 3, none⟩) (Kd.R_far (p := ⟨gb507, 2, none⟩) (Kd.R_far (p := ⟨gb507, 1, none⟩) (Kd.R_far (p := ⟨gb507, 0, none⟩) (Kd.R_types HO491.out BK507.out (by decide)) (fun _ hk => hk.2) (.int .i64 t501)) (fun _ hk => hk.2) (.int .i64 t502)) (fun _ hk => hk.2) (.int .i64 t503)) (fun _ hk => hk.2) (.int .i64 t504)) (fun _ hk => hk.2) (.int .i64 t505)) (fun _ h_ => h_.1))) hb); replace HO494 := Aside0.mk (Kd.R_below (by (with_reducible repeat (first | apply Kd.R_alloc | apply Kd.R_drewN | apply Kd.R_drew)); exact (Kd.R_mono (Kd.R_far (p := ⟨gb507, 4, none⟩) (Kd.R_far (p := ⟨gb507, 3, none⟩) (Kd.R_far (p := ⟨gb507, 2, none⟩) (Kd.R_far (p := ⟨gb507, 1, none⟩) (Kd.R_far (p := ⟨gb507, 0, none⟩) (Kd.R_types HO494.out BK507.out (by decide)) (fun _ hk => hk.2) (.int .i64 t501)) (fun _ hk => hk.2) (.int .i64 t502)) (fun _ hk => hk.2) (.int .i64 t503)) (fun _ hk => hk.2) (.int .i64 t504)) (fun _ hk => hk.2) (.int .i64 t505)) (fun _ h_ => h_.1))) hb); replace HO497 := Aside0.mk (Kd.R_below (by (with_reducible repeat (first | apply Kd.R_alloc | apply Kd.R_drewN | apply Kd.R_drew)); exact (Kd.R_mono (Kd.R_far (p := ⟨gb507, 4, none⟩) (Kd.R_far (p := ⟨gb507, 3, none⟩) (Kd.R_far (p := ⟨gb507, 2, none⟩) (Kd.R_far (p := ⟨gb507, 1, none⟩) (Kd.R_far (p := ⟨gb507, 0, none⟩) (Kd.R_types HO497.out BK507.out (by decide)) (fun _ hk => hk.2) (.int .i64 t501)) (fun _ hk => hk.2) (.int .i64 t502)) (fun _ hk => hk.2) (.int .i64 t503)) (fun _ hk => hk.2) (.int .i64 t504)) (fun _ hk => hk.2) (.int .i64 t505)) (fun _ h_ => h_.1))) hb); replace HO500 := Aside0.mk (Kd.R_below (by (with_reducible repeat (first | apply Kd.R_alloc | apply Kd.R_drewN | apply Kd.R_drew)); exact (Kd.R_mono (Kd.R_far (p := ⟨gb507, 4, none⟩) (Kd.R_far (p := ⟨gb507, 3, none⟩) (Kd.R_far (p := ⟨gb507, 2, none⟩) (Kd.R_far (p := ⟨gb507, 1, none⟩) (Kd.R_far (p := ⟨gb507, 0, none⟩) (Kd.R_types HO500.out BK507.out (by decide)) (fun _ hk => hk.2) (.int .i64 t501)) (fun _ hk => hk.2) (.int .i64 t502)) (fun _ hk => hk.2) (.int .i64 t503)) (fun _ hk => hk.2) (.int .i64 t504)) (fun _ hk => hk.2) (.int .i64 t505)) (fun _ h_ => h_.1))) hb); replace BK507 := Aside0.mk (blk_below (g := gb507) (o := .cells #[.int .i64 t501, .int .i64 t502, .int .i64 t503, .int .i64 t504, .int .i64 t505] 34 (0, 0)) (by (with_reducible repeat (first | refine blk_drewN ?_ _ | refine blk_drew ?_ | refine blk_alloc ?_ _)); refine blk_put (cs := #[.int .i64 t501, .int .i64 t502, .int .i64 t503, .int .i64 t504, .int .i64 0]) ?_ 4 _ rfl; (with_reducible repeat (first | refine blk_drewN ?_ _ | refine blk_drew ?_ | refine blk_alloc ?_ _)); refine blk_put (cs := #[.int .i64 t501, .int .i64 t502, .int .i64 t503, .int .i64 0, .int .i64 0]) ?_ 3 _ rfl; (with_reducible repeat (first | refine blk_drewN ?_ _ | refine blk_drew ?_ | refine blk_alloc ?_ _)); refine blk_put (cs := #[.int .i64 t501, .int .i64 t502, .int .i64 0, .int .i64 0, .int .i64 0]) ?_ 2 _ rfl; (with_reducible repeat (first | refine blk_drewN ?_ _ | refine blk_drew ?_ | refine blk_alloc ?_ _)); refine blk_put (cs := #[.int .i64 t501, .int .i64 0, .int .i64 0, .int .i64 0, .int .i64 0]) ?_ 1 _ rfl; (with_reducible repeat (first | refine blk_drewN ?_ _ | refine blk_drew ?_ | refine blk_alloc ?_ _)); refine blk_put (cs := #[.int .i64 0, .int .i64 0, .int .i64 0, .int .i64 0, .int .i64 0]) ?_ 0 _ rfl; (with_reducible repeat (first | refine blk_drewN ?_ _ | refine blk_drew ?_ | refine blk_alloc ?_ _)); exact BK507.out) hb); replace HB := Aside0.mk (below_step Bq hb); (try clear A10)))
  (try simp only [Act.put, List.setIfInBounds_toArray, List.set_cons_zero, List.set_cons_succ])
  go_cut [84] (fun v84 wc => ∃ (kq : Nat) (x84_10 : Bool), v84 = .bool x84_10 ∧ Aside0 (chatelainelaw7_PkeParts.j0 kq (wrap64 (1 + t488)) t489 t492 t495 t508 x84_10 t501 t502 t503 t504 t505 = some r) ∧ Aside0 (kq ≤ k) ∧ Aside0 (Kd.R (Kd.int .u8) 5 wc w.heap.size (fun k_ => some k_ ≠ (v493 : Value).ownBlock ∧ some k_ ≠ (v496 : Value).ownBlock) (.slice Ao13 t489.length co13) t489) ∧ Aside0 (Kd.R (Kd.int .u8) 5 wc w.heap.size (fun k_ => some k_ ≠ ((.slice Ao13 t489.length co13) : Value).ownBlock ∧ some k_ ≠ (v496 : Value).ownBlock) v493 t492) ∧ Aside0 (Kd.R (Kd.int .u8) 5 wc w.heap.size (fun k_ => some k_ ≠ ((.slice Ao13 t489.length co13) : Value).ownBlock ∧ some k_ ≠ (v493 : Value).ownBlock) v496 t495) ∧ Aside0 (wc.heap[gb507]? = some (.cells #[.int .i64 t501, .int .i64 t502, .int .i64 t503, .int .i64 t504, .int .i64 t505] 34 (0, 0))) ∧ Aside0 (Below w.heap.size w wc))
  case first =>
   have H := HC11.out
   clear HC11
   by_cases c19 : t498.isEmpty = true
   ·rw [if_pos c19] at H
    replace c19 := Aside0.mk c19
    by_cases c20 : t506 = true
    ·subst c20
     rw [if_pos rfl] at H
     by_cases c21 : t501 = (wrap64 (1 + (wrap64 (1 + t488))))
     ·rw [if_pos c21] at H
      (first | rw [if_pos c21] | rw [if_pos (eq_of_beq c21)] | skip)
      have c21b0 : (t501 == (wrap64 (1 + (wrap64 (1 + t488))))) = true := beq_iff_eq.mpr c21
      have c21b1 : (t501 != (wrap64 (1 + (wrap64 (1 + t488))))) = false := bne_eq_false_iff_eq.mpr c21
      clear c21
      (first | rw [c21b0] | rw [c21b1] | (simp only [i64_w, i32_w]; rw [c21b0]) | skip)
      by_cases c22 : t508 = (wrap64 ((wrap64 (384 * t501)) + 32))
      ·rw [if_pos c22] at H
       have c22b0 : (t508 == (wrap64 ((wrap64 (384 * t501)) + 32))) = true := beq_iff_eq.mpr c22
       have c22b1 : (t508 != (wrap64 ((wrap64 (384 * t501)) + 32))) = false := bne_eq_false_iff_eq.mpr c22
       clear c22
       by_cases c23 : t509 = (wrap64 (384 * t501))
       ·rw [if_pos c23] at H
        have c23b0 : (t509 == (wrap64 (384 * t501))) = true := beq_iff_eq.mpr c23
        have c23b1 : (t509 != (wrap64 (384 * t501))) = false := bne_eq_false_iff_eq.mpr c23
        clear c23
        by_cases c24 : (t492.length : Int) = t508
        ·rw [if_pos c24] at H
         have c24b0 : ((t492.length : Int) == t508) = true := beq_iff_eq.mpr c24
         have c24b1 : ((t492.length : Int) != t508) = false := bne_eq_false_iff_eq.mpr c24
         clear c24
         have H' := Aside0.mk H
         clear H
         obtain rfl := eRow_none HO500.out c19.out
         have hcz25_0 : w18.cell? ⟨gb507, 0, none⟩ = some (.int .i64 t501) := (blk_cell BK507.out 0).trans rfl
         have hcz25_1 : w18.cell? ⟨gb507, 1, none⟩ = some (.int .i64 t502) := (blk_cell BK507.out 1).trans rfl
         have hcz25_2 : w18.cell? ⟨gb507, 2, none⟩ = some (.int .i64 t503) := (blk_cell BK507.out 2).trans rfl
         have hcz25_3 : w18.cell? ⟨gb507, 3, none⟩ = some (.int .i64 t504) := (blk_cell BK507.out 3).trans rfl
         have hcz25_4 : w18.cell? ⟨gb507, 4, none⟩ = some (.int .i64 t505) := (blk_cell BK507.out 4).trans rfl
         have hfz25_0 := blk_frozen BK507.out 0
         have hfz25_1 := blk_frozen BK507.out 1
         have hfz25_2 := blk_frozen BK507.out 2
         have hfz25_3 := blk_frozen BK507.out 3
         have hfz25_4 := blk_frozen BK507.out 4
         obtain ⟨Ao26, co26, eo26⟩ := Kd.R_slice HO494.out
         subst eo26
         obtain ⟨Ao27, co27, eo27⟩ := Kd.R_slice HO497.out
         subst eo27
         go_wp2
         go_meet
         case rel => exact ⟨_, (((t495.length : Int) != t509)), Rq, H', ⟨by first | omega | exact Nat.le_refl _⟩, ⟨by (with_reducible repeat (first | apply Kd.R_alloc | apply Kd.R_drewN | apply Kd.R_drew)); exact Kd.R_mono HO491.out (fun _ hk => ⟨hk.1.2, hk.2⟩)⟩, ⟨by (with_reducible repeat (first | apply Kd.R_alloc | apply Kd.R_drewN | apply Kd.R_drew)); exact Kd.R_mono HO494.out (fun _ hk => ⟨hk.2, hk.1⟩)⟩, ⟨by (with_reducible repeat (first | apply Kd.R_alloc | apply Kd.R_drewN | apply Kd.R_drew)); exact Kd.R_mono HO497.out (fun _ hk => ⟨hk.2, hk.1⟩)⟩, ⟨by (with_reducible repeat (first | refine blk_drewN ?_ _ | refine blk_drew ?_ | refine blk_alloc ?_ _)); exact BK507.out⟩, ⟨Bq⟩⟩
        ·rw [if_neg c24] at H
         have c24b0 : ((t492.length : Int) == t508) = false := beq_eq_false_iff_ne.mpr c24
         have c24b1 : ((t492.length : Int) != t508) = true := bne_iff_ne.mpr c24
         have H' := Aside0.mk H
         clear H
         obtain rfl := eRow_none HO500.out c19.out
         have hcz28_0 : w18.cell? ⟨gb507, 0, none⟩ = some (.int .i64 t501) := (blk_cell BK507.out 0).trans rfl
         have hcz28_1 : w18.cell? ⟨gb507, 1, none⟩ = some (.int .i64 t502) := (blk_cell BK507.out 1).trans rfl
         have hcz28_2 : w18.cell? ⟨gb507, 2, none⟩ = some (.int .i64 t503) := (blk_cell BK507.out 2).trans rfl
         have hcz28_3 : w18.cell? ⟨gb507, 3, none⟩ = some (.int .i64 t504) := (blk_cell BK507.out 3).trans rfl
         have hcz28_4 : w18.cell? ⟨gb507, 4, none⟩ = some (.int .i64 t505) := (blk_cell BK507.out 4).trans rfl
         have hfz28_0 := blk_frozen BK507.out 0
         have hfz28_1 := blk_frozen BK507.out 1
         have hfz28_2 := blk_frozen BK507.out 2
         have hfz28_3 := blk_frozen BK507.out 3
         have hfz28_4 := blk_frozen BK507.out 4
         obtain ⟨Ao29, co29, eo29⟩ := Kd.R_slice HO494.out
         subst eo29
         go_wp2
         go_meet
         case rel => exact ⟨_, (true), Rq, H', ⟨by first | omega | exact Nat.le_refl _⟩, ⟨by (with_reducible repeat (first | apply Kd.R_alloc | apply Kd.R_drewN | apply Kd.R_drew)); exact Kd.R_mono HO491.out (fun _ hk => ⟨hk.1.2, hk.2⟩)⟩, ⟨by (with_reducible repeat (first | apply Kd.R_alloc | apply Kd.R_drewN | apply Kd.R_drew)); exact Kd.R_mono HO494.out (fun _ hk => ⟨hk.2, hk.1⟩)⟩, ⟨by (with_reducible repeat (first | apply Kd.R_alloc | apply Kd.R_drewN | apply Kd.R_drew)); exact Kd.R_mono HO497.out (fun _ hk => ⟨hk.2, hk.1⟩)⟩, ⟨by (with_reducible repeat (first | refine blk_drewN ?_ _ | refine blk_drew ?_ | refine blk_alloc ?_ _)); exact BK507.out⟩, ⟨Bq⟩⟩
       ·rw [if_neg c23] at H
        have c23b0 : (t509 == (wrap64 (384 * t501))) = false := beq_eq_false_iff_ne.mpr c23
        have c23b1 : (t509 != (wrap64 (384 * t501))) = true := bne_iff_ne.mpr c23
        have H' := Aside0.mk H
        clear H
        obtain rfl := eRow_none HO500.out c19.out
        have hcz30_0 : w18.cell? ⟨gb507, 0, none⟩ = some (.int .i64 t501) := (blk_cell BK507.out 0).trans rfl
        have hcz30_1 : w18.cell? ⟨gb507, 1, none⟩ = some (.int .i64 t502) := (blk_cell BK507.out 1).trans rfl
        have hcz30_2 : w18.cell? ⟨gb507, 2, none⟩ = some (.int .i64 t503) := (blk_cell BK507.out 2).trans rfl
        have hcz30_3 : w18.cell? ⟨gb507, 3, none⟩ = some (.int .i64 t504) := (blk_cell BK507.out 3).trans rfl
        have hcz30_4 : w18.cell? ⟨gb507, 4, none⟩ = some (.int .i64 t505) := (blk_cell BK507.out 4).trans rfl
        have hfz30_0 := blk_frozen BK507.out 0
        have hfz30_1 := blk_frozen BK507.out 1
        have hfz30_2 := blk_frozen BK507.out 2
        have hfz30_3 := blk_frozen BK507.out 3
        have hfz30_4 := blk_frozen BK507.out 4
        go_wp2
        go_meet
        case rel => exact ⟨_, (true), Rq, H', ⟨by first | omega | exact Nat.le_refl _⟩, ⟨by (with_reducible repeat (first | apply Kd.R_alloc | apply Kd.R_drewN | apply Kd.R_drew)); exact Kd.R_mono HO491.out (fun _ hk => ⟨hk.1.2, hk.2⟩)⟩, ⟨by (with_reducible repeat (first | apply Kd.R_alloc | apply Kd.R_drewN | apply Kd.R_drew)); exact Kd.R_mono HO494.out (fun _ hk => ⟨hk.2, hk.1⟩)⟩, ⟨by (with_reducible repeat (first | apply Kd.R_alloc | apply Kd.R_drewN | apply Kd.R_drew)); exact Kd.R_mono HO497.out (fun _ hk => ⟨hk.2, hk.1⟩)⟩, ⟨by (with_reducible repeat (first | refine blk_drewN ?_ _ | refine blk_drew ?_ | refine blk_alloc ?_ _)); exact BK507.out⟩, ⟨Bq⟩⟩
      ·rw [if_neg c22] at H
       have c22b0 : (t508 == (wrap64 ((wrap64 (384 * t501)) + 32))) = false := beq_eq_false_iff_ne.mpr c22
       have c22b1 : (t508 != (wrap64 ((wrap64 (384 * t501)) + 32))) = true := bne_iff_ne.mpr c22
       have H' := Aside0.mk H
       clear H
       obtain rfl := eRow_none HO500.out c19.out
       have hcz31_0 : w18.cell? ⟨gb507, 0, none⟩ = some (.int .i64 t501) := (blk_cell BK507.out 0).trans rfl
       have hcz31_1 : w18.cell? ⟨gb507, 1, none⟩ = some (.int .i64 t502) := (blk_cell BK507.out 1).trans rfl
       have hcz31_2 : w18.cell? ⟨gb507, 2, none⟩ = some (.int .i64 t503) := (blk_cell BK507.out 2).trans rfl
       have hcz31_3 : w18.cell? ⟨gb507, 3, none⟩ = some (.int .i64 t504) := (blk_cell BK507.out 3).trans rfl
       have hcz31_4 : w18.cell? ⟨gb507, 4, none⟩ = some (.int .i64 t505) := (blk_cell BK507.out 4).trans rfl
       have hfz31_0 := blk_frozen BK507.out 0
       have hfz31_1 := blk_frozen BK507.out 1
       have hfz31_2 := blk_frozen BK507.out 2
       have hfz31_3 := blk_frozen BK507.out 3
       have hfz31_4 := blk_frozen BK507.out 4
       go_wp2
       go_meet
       case rel => exact ⟨_, (true), Rq, H', ⟨by first | omega | exact Nat.le_refl _⟩, ⟨by (with_reducible repeat (first | apply Kd.R_alloc | apply Kd.R_drewN | apply Kd.R_drew)); exact Kd.R_mono HO491.out (fun _ hk => ⟨hk.1.2, hk.2⟩)⟩, ⟨by (with_reducible repeat (first | apply Kd.R_alloc | apply Kd.R_drewN | apply Kd.R_drew)); exact Kd.R_mono HO494.out (fun _ hk => ⟨hk.2, hk.1⟩)⟩, ⟨by (with_reducible repeat (first | apply Kd.R_alloc | apply Kd.R_drewN | apply Kd.R_drew)); exact Kd.R_mono HO497.out (fun _ hk => ⟨hk.2, hk.1⟩)⟩, ⟨by (with_reducible repeat (first | refine blk_drewN ?_ _ | refine blk_drew ?_ | refine blk_alloc ?_ _)); exact BK507.out⟩, ⟨Bq⟩⟩
     ·rw [if_neg c21] at H
      (first | rw [if_neg c21] | rw [if_neg (fun e_ => c21 (beq_iff_eq.mpr e_))] | skip)
      have c21b0 : (t501 == (wrap64 (1 + (wrap64 (1 + t488))))) = false := beq_eq_false_iff_ne.mpr c21
      have c21b1 : (t501 != (wrap64 (1 + (wrap64 (1 + t488))))) = true := bne_iff_ne.mpr c21
      (first | rw [c21b0] | rw [c21b1] | (simp only [i64_w, i32_w]; rw [c21b0]) | skip)
      have H' := Aside0.mk H
      clear H
      obtain rfl := eRow_none HO500.out c19.out
      have hcz32_0 : w18.cell? ⟨gb507, 0, none⟩ = some (.int .i64 t501) := (blk_cell BK507.out 0).trans rfl
      have hcz32_1 : w18.cell? ⟨gb507, 1, none⟩ = some (.int .i64 t502) := (blk_cell BK507.out 1).trans rfl
      have hcz32_2 : w18.cell? ⟨gb507, 2, none⟩ = some (.int .i64 t503) := (blk_cell BK507.out 2).trans rfl
      have hcz32_3 : w18.cell? ⟨gb507, 3, none⟩ = some (.int .i64 t504) := (blk_cell BK507.out 3).trans rfl
      have hcz32_4 : w18.cell? ⟨gb507, 4, none⟩ = some (.int .i64 t505) := (blk_cell BK507.out 4).trans rfl
      have hfz32_0 := blk_frozen BK507.out 0
      have hfz32_1 := blk_frozen BK507.out 1
      have hfz32_2 := blk_frozen BK507.out 2
      have hfz32_3 := blk_frozen BK507.out 3
      have hfz32_4 := blk_frozen BK507.out 4
      go_wp2
      go_meet
      case rel => exact ⟨_, (true), Rq, H', ⟨by first | omega | exact Nat.le_refl _⟩, ⟨by (with_reducible repeat (first | apply Kd.R_alloc | apply Kd.R_drewN | apply Kd.R_drew)); exact Kd.R_mono HO491.out (fun _ hk => ⟨hk.1.2, hk.2⟩)⟩, ⟨by (with_reducible repeat (first | apply Kd.R_alloc | apply Kd.R_drewN | apply Kd.R_drew)); exact Kd.R_mono HO494.out (fun _ hk => ⟨hk.2, hk.1⟩)⟩, ⟨by (with_reducible repeat (first | apply Kd.R_alloc | apply Kd.R_drewN | apply Kd.R_drew)); exact Kd.R_mono HO497.out (fun _ hk => ⟨hk.2, hk.1⟩)⟩, ⟨by (with_reducible repeat (first | refine blk_drewN ?_ _ | refine blk_drew ?_ | refine blk_alloc ?_ _)); exact BK507.out⟩, ⟨Bq⟩⟩
    ·replace c20 := Bool.eq_false_iff.mpr c20
     subst c20
     rw [if_neg nf] at H
     have H' := Aside0.mk H
     clear H
     obtain rfl := eRow_none HO500.out c19.out
     go_wp2
     go_meet
     case rel => exact ⟨_, (true), Rq, H', ⟨by first | omega | exact Nat.le_refl _⟩, ⟨by (with_reducible repeat (first | apply Kd.R_alloc | apply Kd.R_drewN | apply Kd.R_drew)); exact Kd.R_mono HO491.out (fun _ hk => ⟨hk.1.2, hk.2⟩)⟩, ⟨by (with_reducible repeat (first | apply Kd.R_alloc | apply Kd.R_drewN | apply Kd.R_drew)); exact Kd.R_mono HO494.out (fun _ hk => ⟨hk.2, hk.1⟩)⟩, ⟨by (with_reducible repeat (first | apply Kd.R_alloc | apply Kd.R_drewN | apply Kd.R_drew)); exact Kd.R_mono HO497.out (fun _ hk => ⟨hk.2, hk.1⟩)⟩, ⟨by (with_reducible repeat (first | refine blk_drewN ?_ _ | refine blk_drew ?_ | refine blk_alloc ?_ _)); exact BK507.out⟩, ⟨Bq⟩⟩
   ·rw [if_neg c19] at H
    replace c19 := Aside0.mk c19
    have H' := Aside0.mk H
    clear H
    obtain ⟨gec19, rfl⟩ := eRow_some HO500.out c19.out
    go_wp2
    go_meet
    case rel => exact ⟨_, (true), Rq, H', ⟨by first | omega | exact Nat.le_refl _⟩, ⟨by (with_reducible repeat (first | apply Kd.R_alloc | apply Kd.R_drewN | apply Kd.R_drew)); exact Kd.R_mono HO491.out (fun _ hk => ⟨hk.1.2, hk.2⟩)⟩, ⟨by (with_reducible repeat (first | apply Kd.R_alloc | apply Kd.R_drewN | apply Kd.R_drew)); exact Kd.R_mono HO494.out (fun _ hk => ⟨hk.2, hk.1⟩)⟩, ⟨by (with_reducible repeat (first | apply Kd.R_alloc | apply Kd.R_drewN | apply Kd.R_drew)); exact Kd.R_mono HO497.out (fun _ hk => ⟨hk.2, hk.1⟩)⟩, ⟨by (with_reducible repeat (first | refine blk_drewN ?_ _ | refine blk_drew ?_ | refine blk_alloc ?_ _)); exact BK507.out⟩, ⟨Bq⟩⟩
  case rest =>
   clear HC11
   try clear c1
   try clear c2
   try clear p2
   try clear c3
   try clear c3b0
   try clear c3b1
   try clear c4
   try clear p6
   try clear c8
   try clear c10
   try clear c11
   try clear c12
   try clear c13
   try clear c14
   try clear c19
   try clear c20
   try clear c21
   try clear c21b0
   try clear c21b1
   try clear c22
   try clear c22b0
   try clear c22b1
   try clear c23
   try clear c23b0
   try clear c23b1
   try clear c24
   try clear c24b0
   try clear c24b1
   try clear hcz17_0
   try clear hcz17_1
   try clear hcz17_2
   try clear hcz17_3
   try clear hcz17_4
   try clear hcz25_0
   try clear hcz25_1
   try clear hcz25_2
   try clear hcz25_3
   try clear hcz25_4
   try clear hcz28_0
   try clear hcz28_1
   try clear hcz28_2
   try clear hcz28_3
   try clear hcz28_4
   try clear hcz30_0
   try clear hcz30_1
   try clear hcz30_2
   try clear hcz30_3
   try clear hcz30_4
   try clear hcz31_0
   try clear hcz31_1
   try clear hcz31_2
   try clear hcz31_3
   try clear hcz31_4
   try clear hcz32_0
   try clear hcz32_1
   try clear hcz32_2
   try clear hcz32_3
   try clear hcz32_4
   try clear hfz17_0
   try clear hfz17_1
   try clear hfz17_2
   try clear hfz17_3
   try clear hfz17_4
   try clear hfz25_0
   try clear hfz25_1
   try clear hfz25_2
   try clear hfz25_3
   try clear hfz25_4
   try clear hfz28_0
   try clear hfz28_1
   try clear hfz28_2
   try clear hfz28_3
   try clear hfz28_4
   try clear hfz30_0
   try clear hfz30_1
   try clear hfz30_2
   try clear hfz30_3
   try clear hfz30_4
   try clear hfz31_0
   try clear hfz31_1
   try clear hfz31_2
   try clear hfz31_3
   try clear hfz31_4
   try clear hfz32_0
   try clear hfz32_1
   try clear hfz32_2
   try clear hfz32_3
   try clear hfz32_4
   obtain ⟨kq, x84_10, rfl, HA, HJ10, HO_5, HO_6, HO_7, BK507, HB⟩ := hcut
   cases kq with
   | zero => exact absurd HA.out (by simp [chatelainelaw7_PkeParts.j0])
   | succ kj10 =>
    have H := HA.out
    clear HA
    simp only [chatelainelaw7_PkeParts.j0] at H
    by_cases c33 : x84_10 = true
    ·subst c33
     rw [if_pos rfl] at H
     obtain rfl := Option.some.inj H
     go_wp2
     go_ret
     exact ⟨by first | rfl | (simp [errW_none, errW_some] <;> rfl) | (simp [*, errW_none, errW_some] <;> rfl), Bq⟩
    ·replace c33 := Bool.eq_false_iff.mpr c33
     subst c33
     rw [if_neg nf] at H
     obtain ⟨y511, Ny511⟩ : ∃ y_ : List Int, Aside0 (y_ = (([(t501) % 256] : List Int))) := ⟨_, ⟨rfl⟩⟩
     first | rw [Option.bind_some, ← Ny511.out] at H | rw [← Ny511.out] at H
     obtain ⟨y514, Ny514⟩ : ∃ y_ : List (List Int), Aside0 (y_ = (([t489, y511] : List (List Int)))) := ⟨_, ⟨rfl⟩⟩
     first | rw [Option.bind_some, ← Ny514.out] at H | rw [← Ny514.out] at H
     replace H := Option.bind_eq_some_iff.mp H
     obtain ⟨t517, A340, H⟩ := H
     try dsimp only at H
     have A34 := Aside0.mk A340
     clear A340
     have HC35 := Aside0.mk H
     clear H
     have hcz36_0 : wc.cell? ⟨gb507, 0, none⟩ = some (.int .i64 t501) := (blk_cell BK507.out 0).trans rfl
     have hcz36_1 : wc.cell? ⟨gb507, 1, none⟩ = some (.int .i64 t502) := (blk_cell BK507.out 1).trans rfl
     have hcz36_2 : wc.cell? ⟨gb507, 2, none⟩ = some (.int .i64 t503) := (blk_cell BK507.out 2).trans rfl
     have hcz36_3 : wc.cell? ⟨gb507, 3, none⟩ = some (.int .i64 t504) := (blk_cell BK507.out 3).trans rfl
     have hcz36_4 : wc.cell? ⟨gb507, 4, none⟩ = some (.int .i64 t505) := (blk_cell BK507.out 4).trans rfl
     have hfz36_0 := blk_frozen BK507.out 0
     have hfz36_1 := blk_frozen BK507.out 1
     have hfz36_2 := blk_frozen BK507.out 2
     have hfz36_3 := blk_frozen BK507.out 3
     have hfz36_4 := blk_frozen BK507.out 4
     go_upto_region 11 with (first | ((with_reducible refine gate_dst (N := 89) rfl ?_); (try (refine gate_guard (by rfl) ?_; dsimp only)); refine Kd.R_lit (Kd.int .u8) _ 5 ?hg (N := 89) ?hd (xs := ([(t501) % 256] : List Int)) (inner := [.int .u8 ((t501) % 256)]) (ok := fun _ => True) (okp := fun _ => True) ?hr ?hp (fun _ hk => hk) trivial (Below.refl _ _) (Nat.le_refl _) (by simp) ?_; (case hd => rfl); (case hg => rfl); (case hr => first | (go_simp; done) | (go_simp; rfl)); (case hp => exact (Reps.one (show Kd.M (Kd.int .u8) _ _ _ ((t501) % 256) [.int .u8 ((t501) % 256)] from rfl) (Reps.none _ _))); intro v512 w37 ho38 hb hg_ hnew_; clear hg_ hnew_; (first | rw [← Ny511.out] at ho38 | (simp only [Int.reduceToNat] at ho38; rw [← Ny511.out] at ho38)); have HO513 := Aside0.mk (Kd.R_lower (Kd.R_new' (Kd.R_new' (Kd.R_new' ho38 (Kd.R_lt (Wq HO_5))) (Kd.R_lt (Wq HO_6))) (Kd.R_lt (Wq HO_7))) (below_size Bq)); replace HO_5 := Aside0.mk (Kd.R_elder' (Wq HO_5) (Kd.R_base ho38) hb); replace HO_6 := Aside0.mk (Kd.R_elder' (Wq HO_6) (Kd.R_base ho38) hb); replace HO_7 := Aside0.mk (Kd.R_elder' (Wq HO_7) (Kd.R_base ho38) hb); replace BK507 := Aside0.mk (blk_below (g := gb507) (o := .cells #[.int .i64 t501, .int .i64 t502, .int .i64 t503, .int .i64 t504, .int .i64 t505] 34 (0, 0)) (Kq BK507) hb); replace HB := Aside0.mk (below_step Bq hb); clear hb ho38; obtain ⟨Ao39, co39, eo39⟩ := Kd.R_slice HO513.out; subst eo39) | ((with_reducible refine gate_dst (N := 90) rfl ?_); (try (refine gate_guard (by rfl) ?_; dsimp only)); refine Kd.N_lit (Kd.slice 5 (Kd.int .u8)) _ 22 ?hg (N' := 90) ?hd (xs := ([t489, y511] : List (List Int))) (inner := [.slice Ao13 t489.length co13, .slice Ao39 y511.length co39]) (ok := (fun k_ => some k_ ≠ (v493 : Value).ownBlock ∧ some k_ ≠ (v496 : Value).ownBlock ∧ k_ ≠ gb507)) (okp := (fun k_ => some k_ ≠ (v493 : Value).ownBlock ∧ some k_ ≠ (v496 : Value).ownBlock ∧ k_ ≠ gb507)) ?hr ?hp (fun _ hk => hk) ((show ∀ k_, w37.heap.size ≤ k_ → (fun k_ => some k_ ≠ (v493 : Value).ownBlock ∧ some k_ ≠ (v496 : Value).ownBlock ∧ k_ ≠ gb507) k_ from fun k_ hk => ⟨Kd.fresh' (Kd.R_lt (Wq HO_6)) k_ hk, Kd.fresh' (Kd.R_lt (Wq HO_7)) k_ hk, Kd.freshB (g := gb507) (o := .cells #[.int .i64 t501, .int .i64 t502, .int .i64 t503, .int .i64 t504, .int .i64 t505] 34 (0, 0)) (Kq BK507) k_ hk⟩) _ (Nat.le_refl _)) (Below.refl _ _) (Nat.le_refl _) (by simp) ?_; (case hd => rfl); (case hg => rfl); (case hr => first | (go_simp; done) | (go_simp; rfl)); (case hp => exact (Reps.one (show Kd.FK (Kd.slice 5 (Kd.int .u8)) _ _ t489 [.slice Ao13 t489.length co13] from (Kd.FK_slice_mk (Kd.R_reads' (Kd.R_mono (ok' := (fun k_ => some k_ ≠ (v493 : Value).ownBlock ∧ some k_ ≠ (v496 : Value).ownBlock ∧ k_ ≠ gb507)) (Kd.R_types (HO_5.out) BK507.out (by decide)) (fun k_ hk => ⟨hk.1.1.1, ⟨hk.1.1.2, hk.2⟩⟩))).2.1 (by (with_reducible repeat (first | apply Kd.F_alloc | apply Kd.F_drewN | apply Kd.F_drew)); exact Kd.R_F (Kd.R_mono (ok' := (fun k_ => some k_ ≠ (v493 : Value).ownBlock ∧ some k_ ≠ (v496 : Value).ownBlock ∧ k_ ≠ gb507)) (Kd.R_types (HO_5.out) BK507.out (by decide)) (fun k_ hk => ⟨hk.1.1.1, ⟨hk.1.1.2, hk.2⟩⟩))))) (Reps.one (show Kd.FK (Kd.slice 5 (Kd.int .u8)) _ _ y511 [.slice Ao39 y511.length co39] from (Kd.FK_slice_mk (Kd.R_reads' (Kd.R_mono (ok' := (fun k_ => some k_ ≠ (v493 : Value).ownBlock ∧ some k_ ≠ (v496 : Value).ownBlock ∧ k_ ≠ gb507)) (Kd.R_types (HO513.out) BK507.out (by decide)) (fun k_ hk => ⟨hk.1.1.2, ⟨hk.1.2, hk.2⟩⟩))).2.1 (by (with_reducible repeat (first | apply Kd.F_alloc | apply Kd.F_drewN | apply Kd.F_drew)); exact Kd.R_F (Kd.R_mono (ok' := (fun k_ => some k_ ≠ (v493 : Value).ownBlock ∧ some k_ ≠ (v496 : Value).ownBlock ∧ k_ ≠ gb507)) (Kd.R_types (HO513.out) BK507.out (by decide)) (fun k_ hk => ⟨hk.1.1.2, ⟨hk.1.2, hk.2⟩⟩))))) (Reps.none _ _)))); intro v515 w40 ho41 hb hg_ hnew_; clear hg_ hnew_; (first | rw [← Ny514.out] at ho41 | (simp only [Int.reduceToNat] at ho41; rw [← Ny514.out] at ho41)); replace HO_6 := Aside0.mk (Kd.R_below (Wq HO_6) hb); replace HO_7 := Aside0.mk (Kd.R_below (Wq HO_7) hb); have HO516 := Aside0.mk (Kd.N_lower ho41 (below_size Bq)); replace BK507 := Aside0.mk (blk_below (g := gb507) (o := .cells #[.int .i64 t501, .int .i64 t502, .int .i64 t503, .int .i64 t504, .int .i64 t505] 34 (0, 0)) (Kq BK507) hb); replace HB := Aside0.mk (below_step Bq hb); clear HO513 HO_5; clear hb ho41; obtain ⟨Ao42, co42, eo42⟩ := Kd.N_slice HO516.out; subst eo42) | ((with_reducible refine gate_callee (f := 15) rfl ?_); refine goesL_ (some 91) rfl rfl Tryd.func15 (by kernel_rfl) rfl #[.slice Ao42 y514.length co42] rfl Mq ?_; (with_reducible refine (sponge_Sha512.calls _ _ y514 t517 _ ?side1 ?side2 A34.out).mono ?_); (case side1 => repeat (first | exact (Kd.N_reads' HO516.out).2.2 | (with_reducible refine Kd.C_alloc ?_ _) | (with_reducible refine Kd.C_drewN ?_ _) | (with_reducible refine Kd.C_drew ?_))); (case side2 => exact (Kd.N_reads' HO516.out).2.1); rintro e w43 ⟨v518, rfl, ho0, hb⟩; refine ⟨_, rfl, ?_⟩; replace HO516 := Aside0.mk (Kd.N_elder' (Wq HO516) (Kd.R_base ho0) hb); have HO519 := Aside0.mk (Kd.R_lower (Kd.R_new' (Kd.R_new' ho0 (Kd.R_lt (Wq HO_6))) (Kd.R_lt (Wq HO_7))) (below_size Bq)); replace HO_6 := Aside0.mk (Kd.R_elder' (Wq HO_6) (Kd.R_base ho0) hb); replace HO_7 := Aside0.mk (Kd.R_elder' (Wq HO_7) (Kd.R_base ho0) hb); replace BK507 := Aside0.mk (blk_below (g := gb507) (o := .cells #[.int .i64 t501, .int .i64 t502, .int .i64 t503, .int .i64 t504, .int .i64 t505] 34 (0, 0)) (Kq BK507) hb); replace HB := Aside0.mk (below_step Bq hb); clear hb ho0; (try clear A34)))
     (try simp only [Act.put, List.setIfInBounds_toArray, List.set_cons_zero, List.set_cons_succ])
     go_cut [104] (fun v104 wc => ∃ (kq : Nat) (x104_34 : Bool), v104 = .bool x104_34 ∧ Aside0 (chatelainelaw7_PkeParts.j1 kq (wrap64 (1 + t488)) t492 t495 x104_34 t501 t502 t503 t504 t505 = some r) ∧ Aside0 (kq ≤ kj10) ∧ Aside0 (Kd.R (Kd.int .u8) 5 wc w.heap.size (fun k_ => some k_ ≠ (v496 : Value).ownBlock) v493 t492) ∧ Aside0 (Kd.R (Kd.int .u8) 5 wc w.heap.size (fun k_ => some k_ ≠ (v493 : Value).ownBlock) v496 t495) ∧ Aside0 (wc.heap[gb507]? = some (.cells #[.int .i64 t501, .int .i64 t502, .int .i64 t503, .int .i64 t504, .int .i64 t505] 34 (0, 0))) ∧ Aside0 (Below w.heap.size w wc))
     case first =>
      have H := HC35.out
      clear HC35
      by_cases c44 : (t517.length : Int) = 64
      ·rw [if_pos c44] at H
       (first | rw [if_pos c44] | rw [if_pos (eq_of_beq c44)] | skip)
       have c44b0 : ((t517.length : Int) == 64) = true := beq_iff_eq.mpr c44
       have c44b1 : ((t517.length : Int) != 64) = false := bne_eq_false_iff_eq.mpr c44
       clear c44
       (first | rw [c44b0] | rw [c44b1] | (simp only [i64_w, i32_w]; rw [c44b0]) | skip)
       obtain ⟨ji45, hji45⟩ : ∃ j_ : Int, (wrap64 (t508 - 32)) = j_ := ⟨_, rfl⟩
       replace H : (if 0 ≤ (ji45) then (if (ji45) ≤ (t492.length : Int) then (if 32 ≤ (t517.length : Int) then ((chatelainelaw0_SameBytes.f kj10 (t492.drop ((ji45) : Int).toNat) (t517.take 32)).bind fun t530 => (chatelainelaw7_PkeParts.j1 kj10 (wrap64 (1 + t488)) t492 t495 (!t530) t501 t502 t503 t504 t505)) else (none)) else (none)) else (none)) = some r := by first | (rw [hji45] at H; exact H) | (simp only [hji45] at H ⊢; exact H)
       have hji45w : (IntKind.i64.wrap (t508 - 32)) = ji45 := (i64_w _).trans hji45
       by_cases c46 : 0 ≤ (ji45)
       ·rw [if_pos c46] at H
        have c46b0 := eq_true c46
        have c46b1 : decide (0 ≤ (ji45)) = true := decide_eq_true c46
        clear c46
        by_cases c47 : (ji45) ≤ (t492.length : Int)
        ·rw [if_pos c47] at H
         have c47b0 := eq_true c47
         have c47b1 : decide ((ji45) ≤ (t492.length : Int)) = true := decide_eq_true c47
         clear c47
         obtain ⟨y520, Ny520⟩ : ∃ y_ : List Int, Aside0 (y_ = (t492.drop ((ji45) : Int).toNat)) := ⟨_, ⟨rfl⟩⟩
         first | rw [Option.bind_some, ← Ny520.out] at H | rw [← Ny520.out] at H
         by_cases c48 : 32 ≤ (t517.length : Int)
         ·rw [if_pos c48] at H
          have c48b0 := eq_true c48
          have c48b1 : decide (32 ≤ (t517.length : Int)) = true := decide_eq_true c48
          clear c48
          obtain ⟨y525, Ny525⟩ : ∃ y_ : List Int, Aside0 (y_ = (t517.take 32)) := ⟨_, ⟨rfl⟩⟩
          first | rw [Option.bind_some, ← Ny525.out] at H | rw [← Ny525.out] at H
          replace H := Option.bind_eq_some_iff.mp H
          obtain ⟨t530, A490, H⟩ := H
          try dsimp only at H
          have A49 := Aside0.mk A490
          clear A490
          have H' := Aside0.mk H
          clear H
          try go_wp2
          replace HO_6 := Aside0.mk (Kd.R_drew HO_6.out)
          replace HO_7 := Aside0.mk (Kd.R_drew HO_7.out)
          replace HO516 := Aside0.mk (Kd.N_drew HO516.out)
          replace HO519 := Aside0.mk (Kd.R_drew HO519.out)
          replace BK507 := Aside0.mk (blk_drew BK507.out)
          replace HB := Aside0.mk (below_drew1 HB.out)
          obtain ⟨Ao51, co51, eo51⟩ := Kd.R_slice HO519.out
          (first | subst eo51 | (injection eo51 with f1_ f2_ f3_; have f4_ := f1_.symm; have f5_ := f3_.symm; clear f1_ f2_ f3_; subst f4_; subst f5_))
          obtain ⟨Ao53, co53, eo53⟩ := Kd.R_slice HO_6.out
          (first | subst eo53 | (injection eo53 with f1_ f2_ f3_; have f4_ := f1_.symm; have f5_ := f3_.symm; clear f1_ f2_ f3_; subst f4_; subst f5_))
          have q52 : ((ji45) : Int) ≤ ((t492.length : Int) : Int) := of_decide_eq_true Aq
          obtain ⟨i052, hi052, _, hsz52, _⟩ := info_parts info5
          have hroom52 : t492.length ≤ co53 := (Kd.R_reads' HO_6.out).2.1
          have hC52 : Kd.F (Kd.int .u8) _ _ Ao53 t492.length t492 := (Kd.V_at (base := w.heap.size) (Kd.R_V (Kd.R_types (Kd.R_apart' (HO_6.out) (Kd.N_typed HO516.out) (by decide)) BK507.out (by decide)))).2.2
          have q052 : (0 : Int) ≤ ((ji45) : Int) := of_decide_eq_true Aq
          have hcut52 := cut_from (P := Tryd.prog) 22 5 .i64 Tryd.underlying22 hi052 1 hsz52 Ao53 t492.length co53 (ji45) q052 q52
          have hr52 := Kd.F_cut (m := ((ji45) : Int).toNat) (c := co53) hC52 (by omega) hroom52
          obtain ⟨A52, hA52⟩ : ∃ A1, A1 = (if co53 = ((ji45) : Int).toNat then Ao53 else (Ao53 : Option Addr).map (·.add (((ji45) : Int).toNat * 1))) := ⟨_, rfl⟩
          obtain ⟨c52, hc52⟩ : ∃ c1, c1 = co53 - ((ji45) : Int).toNat := ⟨_, rfl⟩
          have hy52 : y520.length = t492.length - ((ji45) : Int).toNat := (by rw [Ny520.out, List.length_drop] <;> omega)
          rw [show (t492).drop ((ji45) : Int).toNat = y520 from Ny520.out.symm] at hr52
          replace hr52 : Kd.F (Kd.int .u8) _ _ A52 y520.length y520 := (by rw [hA52]; exact hr52)
          rw [← hy52, ← hA52, ← hc52] at hcut52
          have HO524 := Aside0.mk (show Kd.V (Kd.int .u8) 5 _ w.heap.size _ (.slice A52 y520.length c52) y520 from Kd.V_mk (by rw [hy52, hc52]; exact Nat.sub_le_sub_right hroom52 _) hr52)
          have HC524 := Aside0.mk (show y520.length ≤ c52 from by rw [hy52, hc52]; exact Nat.sub_le_sub_right hroom52 _)
          clear hr52 hC52 hroom52 hi052 hsz52 hc52
          have KY52 := Aside0.mk hy52
          have KA52 := Aside0.mk hA52
          clear hy52 hA52
          replace q52 := eq_true q52
          have q54 : (32 : Int) ≤ ((t517.length : Int) : Int) := of_decide_eq_true Aq
          obtain ⟨i054, hi054, _, hsz54, _⟩ := info_parts info5
          have hroom54 : t517.length ≤ co51 := (Kd.R_reads' HO519.out).2.1
          have hC54 : Kd.F (Kd.int .u8) _ _ Ao51 t517.length t517 := (Kd.V_at (base := w.heap.size) (Kd.R_V (Kd.R_types (Kd.R_apart' (HO519.out) (Kd.N_typed HO516.out) (by decide)) BK507.out (by decide)))).2.2
          have hcut54 := cut_to (P := Tryd.prog) 22 5 .i64 Tryd.underlying22 hi054 Ao51 t517.length co51 32 (by omega) q54 hroom54
          have hr54 := Kd.F_take (m := 32) hC54 (by omega)
          have hy54 : y525.length = (32 : Int).toNat := (by rw [Ny525.out, List.length_take]; omega)
          rw [← Ny525.out] at hr54
          rw [← hy54] at hcut54
          have HO529 := Aside0.mk (show Kd.V (Kd.int .u8) 5 _ w.heap.size _ (.slice Ao51 y525.length co51) y525 from Kd.V_mk (by omega) hr54)
          have HC529 := Aside0.mk (show y525.length ≤ co51 from by omega)
          clear hr54 hC54 hroom54 hi054 hsz54
          have KY54 := Aside0.mk hy54
          clear hy54
          replace q54 := eq_true q54
          refine start_ (n := 13) (S := fun w' => True) (ds := []) (bl 13 0) (by kernel_rfl) rfl rfl trivial (fun hHeld => ?_); refine with_tabW chatelainelaw7_PkeParts.tab11 chatelainelaw7_PkeParts.bits11 (fun HT_ HW_ => ?_)
          generalize w43.drew = w50 at HO_6 HO_7 HO516 HO519 BK507 HB HO524 HO529 hHeld ⊢
          refine pq 0 (some 92) (bl 13 1) ?_
          refine pq 1 (some 93) (bl 13 3) ?_
          refine pq 2 (some 94) (bl 13 7) ?_
          refine pq 3 (some 95) (bl 13 15) ?_
          refine pq 4 (some 96) (bl 13 31) ?_
          refine pq 5 (some 97) (bl 13 63) ?_
          refine pq 6 (some 98) (bl 13 127) ?_
          refine pq 7 (some 99) (bl 13 255) ?_
          refine pq 8 (some 100) (bl 13 511) ?_
          refine pq 9 (some 101) (bl 13 1023) ?_
          refine one_ (i := 10) (N := some 102) (bl 13 2047) rfl rfl (one_of HT_.out (by kernel_rfl)) (by decide) (fun K hK => ?_)
          refine goes_ Tryd.func9 (by kernel_rfl) rfl #[.slice A52 y520.length c52, .slice Ao51 y525.length co51] (by rfl) rfl rfl (by (try simp only [List.map_toArray, List.map_cons, List.map_nil]); first | done | rfl | (simp only [List.length_drop, List.length_take]; rfl) | (simp only [hy52]; rfl)) ?_
          with_reducible refine (chatelainelaw0_SameBytes.calls kj10 _ _ y520 _ _ y525 t530 _ ?side1 ?side2 ?side3 ?side4 A49.out).mono ?_
          (case side1 => repeat (first | exact (Kd.V_reads' HO524.out).2.2 | (with_reducible refine Kd.C_alloc ?_ _) | (with_reducible refine Kd.C_drewN ?_ _) | (with_reducible refine Kd.C_drew ?_)))
          (case side2 => exact (Kd.V_reads' HO524.out).2.1)
          (case side3 => repeat (first | exact (Kd.V_reads' HO529.out).2.2 | (with_reducible refine Kd.C_alloc ?_ _) | (with_reducible refine Kd.C_drewN ?_ _) | (with_reducible refine Kd.C_drew ?_)))
          (case side4 => exact (Kd.V_reads' HO529.out).2.1)
          rintro e w' ⟨rfl, ⟨nd, rfl⟩⟩
          refine ⟨_, rfl, ?_⟩
          refine hK.out _ _ trivial (fun hHeld => ?_)
          clear hK K
          refine norm_ (a' := ?_) ?_ ?_
          rotate_left
          ·show Act.put _ (some 102) _ = _
           simp only [Act.put, List.setIfInBounds_toArray, List.set_cons_zero, List.set_cons_succ, i64_w, i32_w]
           rfl
          refine pq 11 (some 103) (bl 13 4095) ?_
          refine pq 12 (some 104) (bl 13 8191) ?_
          refine done_ (done_of HT_.out (by kernel_rfl)) ?_
          try go_wp2
          go_meet
          case rel => exact ⟨_, (!t530), Rq, H', ⟨by have := HJ10.out; first | omega | exact Nat.le_refl _⟩, ⟨by (with_reducible repeat (first | apply Kd.R_alloc | apply Kd.R_drewN | apply Kd.R_drew)); exact Kd.R_mono HO_6.out (fun _ hk => hk.1.1.2)⟩, ⟨by (with_reducible repeat (first | apply Kd.R_alloc | apply Kd.R_drewN | apply Kd.R_drew)); exact Kd.R_mono HO_7.out (fun _ hk => hk.1.1.2)⟩, ⟨by (with_reducible repeat (first | refine blk_drewN ?_ _ | refine blk_drew ?_ | refine blk_alloc ?_ _)); exact BK507.out⟩, ⟨Bq⟩⟩
         ·rw [if_neg c48] at H
          exact absurd H (by simp)
        ·rw [if_neg c47] at H
         exact absurd H (by simp)
       ·rw [if_neg c46] at H
        exact absurd H (by simp)
      ·rw [if_neg c44] at H
       (first | rw [if_neg c44] | rw [if_neg (fun e_ => c44 (beq_iff_eq.mpr e_))] | skip)
       have c44b0 : ((t517.length : Int) == 64) = false := beq_eq_false_iff_ne.mpr c44
       have c44b1 : ((t517.length : Int) != 64) = true := bne_iff_ne.mpr c44
       (first | rw [c44b0] | rw [c44b1] | (simp only [i64_w, i32_w]; rw [c44b0]) | skip)
       have H' := Aside0.mk H
       clear H
       try go_wp2
       replace HO_6 := Aside0.mk (Kd.R_drew HO_6.out)
       replace HO_7 := Aside0.mk (Kd.R_drew HO_7.out)
       replace HO516 := Aside0.mk (Kd.N_drew HO516.out)
       replace HO519 := Aside0.mk (Kd.R_drew HO519.out)
       replace BK507 := Aside0.mk (blk_drew BK507.out)
       replace HB := Aside0.mk (below_drew1 HB.out)
       obtain ⟨Ao56, co56, eo56⟩ := Kd.R_slice HO519.out
       (first | subst eo56 | (injection eo56 with f1_ f2_ f3_; have f4_ := f1_.symm; have f5_ := f3_.symm; clear f1_ f2_ f3_; subst f4_; subst f5_))
       refine start_ (n := 13) (S := fun w' => True) (ds := []) (bl 13 0) (by kernel_rfl) rfl rfl trivial (fun hHeld => ?_); refine with_tabW chatelainelaw7_PkeParts.tab11 chatelainelaw7_PkeParts.bits11 (fun HT_ HW_ => ?_)
       generalize w43.drew = w55 at HO_6 HO_7 HO516 HO519 BK507 HB hHeld ⊢
       refine pq 0 (some 92) (bl 13 1) ?_
       refine pq 1 (some 93) (bl 13 3) ?_
       refine pq 2 (some 94) (bl 13 7) ?_
       refine pq 3 (some 95) (bl 13 15) ?_
       refine pn 4 (some 96) (bl 13 31) ?_
       refine pn 5 (some 97) (bl 13 63) ?_
       refine pn 6 (some 98) (bl 13 127) ?_
       refine pn 7 (some 99) (bl 13 255) ?_
       refine pn 8 (some 100) (bl 13 511) ?_
       refine pn 9 (some 101) (bl 13 1023) ?_
       refine pn 10 (some 102) (bl 13 2047) ?_
       refine pn 11 (some 103) (bl 13 4095) ?_
       refine pq 12 (some 104) (bl 13 8191) ?_
       refine done_ (done_of HT_.out (by kernel_rfl)) ?_
       try go_wp2
       go_meet
       case rel => exact ⟨_, (true), Rq, H', ⟨by have := HJ10.out; first | omega | exact Nat.le_refl _⟩, ⟨by (with_reducible repeat (first | apply Kd.R_alloc | apply Kd.R_drewN | apply Kd.R_drew)); exact Kd.R_mono HO_6.out (fun _ hk => hk.1.1.2)⟩, ⟨by (with_reducible repeat (first | apply Kd.R_alloc | apply Kd.R_drewN | apply Kd.R_drew)); exact Kd.R_mono HO_7.out (fun _ hk => hk.1.1.2)⟩, ⟨by (with_reducible repeat (first | refine blk_drewN ?_ _ | refine blk_drew ?_ | refine blk_alloc ?_ _)); exact BK507.out⟩, ⟨Bq⟩⟩
     case rest =>
      clear HC35
      try clear c1
      try clear c2
      try clear p2
      try clear c3
      try clear c3b0
      try clear c3b1
      try clear c4
      try clear c5
      try clear q5
      try clear p6
      try clear c8
      try clear c9
      try clear c10
      try clear c11
      try clear c12
      try clear c13
      try clear c14
      try clear c15
      try clear c19
      try clear c20
      try clear c21
      try clear c21b0
      try clear c21b1
      try clear c22
      try clear c22b0
      try clear c22b1
      try clear c23
      try clear c23b0
      try clear c23b1
      try clear c24
      try clear c24b0
      try clear c24b1
      try clear c33
      try clear c44
      try clear c44b0
      try clear c44b1
      try clear c46
      try clear c46b0
      try clear c46b1
      try clear c47
      try clear c47b0
      try clear c47b1
      try clear c48
      try clear c48b0
      try clear c48b1
      try clear c52
      try clear q52
      try clear q54
      try clear hcz17_0
      try clear hcz17_1
      try clear hcz17_2
      try clear hcz17_3
      try clear hcz17_4
      try clear hcz25_0
      try clear hcz25_1
      try clear hcz25_2
      try clear hcz25_3
      try clear hcz25_4
      try clear hcz28_0
      try clear hcz28_1
      try clear hcz28_2
      try clear hcz28_3
      try clear hcz28_4
      try clear hcz30_0
      try clear hcz30_1
      try clear hcz30_2
      try clear hcz30_3
      try clear hcz30_4
      try clear hcz31_0
      try clear hcz31_1
      try clear hcz31_2
      try clear hcz31_3
      try clear hcz31_4
      try clear hcz32_0
      try clear hcz32_1
      try clear hcz32_2
      try clear hcz32_3
      try clear hcz32_4
      try clear hcz36_0
      try clear hcz36_1
      try clear hcz36_2
      try clear hcz36_3
      try clear hcz36_4
      try clear hfz17_0
      try clear hfz17_1
      try clear hfz17_2
      try clear hfz17_3
      try clear hfz17_4
      try clear hfz25_0
      try clear hfz25_1
      try clear hfz25_2
      try clear hfz25_3
      try clear hfz25_4
      try clear hfz28_0
      try clear hfz28_1
      try clear hfz28_2
      try clear hfz28_3
      try clear hfz28_4
      try clear hfz30_0
      try clear hfz30_1
      try clear hfz30_2
      try clear hfz30_3
      try clear hfz30_4
      try clear hfz31_0
      try clear hfz31_1
      try clear hfz31_2
      try clear hfz31_3
      try clear hfz31_4
      try clear hfz32_0
      try clear hfz32_1
      try clear hfz32_2
      try clear hfz32_3
      try clear hfz32_4
      try clear hfz36_0
      try clear hfz36_1
      try clear hfz36_2
      try clear hfz36_3
      try clear hfz36_4
      try clear p2
      try clear p6
      try clear q052
      try clear q52
      try clear q54
      obtain ⟨kq, x104_34, rfl, HA, HJ34, HO_6, HO_7, BK507, HB⟩ := hcut
      cases kq with
      | zero => exact absurd HA.out (by simp [chatelainelaw7_PkeParts.j1])
      | succ kj34 =>
       have H := HA.out
       clear HA
       simp only [chatelainelaw7_PkeParts.j1] at H
       by_cases c57 : x104_34 = true
       ·subst c57
        rw [if_pos rfl] at H
        obtain rfl := Option.some.inj H
        go_wp2
        go_ret
        exact ⟨by first | rfl | (simp [errW_none, errW_some] <;> rfl) | (simp [*, errW_none, errW_some] <;> rfl), Bq⟩
       ·replace c57 := Bool.eq_false_iff.mpr c57
        subst c57
        rw [if_neg nf] at H
        have H' := Aside0.mk H
        clear H
        go_wp2
        go_loopg [15] kj34 (fun kq v15 w' => ∃ (x15_3 : Int), v15 = .int .i64 x15_3 ∧ Aside0 (chatelainelaw7_PkeParts.l0 kq (wrap64 (1 + t488)) t492 t495 x15_3 t501 t502 t503 t504 t505 = some r) ∧ Aside0 (kq ≤ kj34) ∧ Aside0 (Kd.R (Kd.int .u8) 5 w' w.heap.size (fun k_ => some k_ ≠ (v496 : Value).ownBlock) v493 t492) ∧ Aside0 (Kd.R (Kd.int .u8) 5 w' w.heap.size (fun k_ => some k_ ≠ (v493 : Value).ownBlock) v496 t495) ∧ Aside0 (w'.heap[gb507]? = some (.cells #[.int .i64 t501, .int .i64 t502, .int .i64 t503, .int .i64 t504, .int .i64 t505] 34 (0, 0))) ∧ Aside0 (Below w.heap.size w w'))
        case atStart => exact ⟨(0), Rq, H', ⟨Nat.le_refl _⟩, ⟨Wq HO_6⟩, ⟨Wq HO_7⟩, ⟨by (with_reducible repeat (first | refine blk_drewN ?_ _ | refine blk_drew ?_ | refine blk_alloc ?_ _)); exact BK507.out⟩, ⟨Bq⟩⟩
        case round =>
         clear H'
         try clear c1
         try clear c2
         try clear p2
         try clear c3
         try clear c3b0
         try clear c3b1
         try clear c4
         try clear c5
         try clear q5
         try clear p6
         try clear c8
         try clear c9
         try clear c10
         try clear c11
         try clear c12
         try clear c13
         try clear c14
         try clear c15
         try clear c19
         try clear c20
         try clear c21
         try clear c21b0
         try clear c21b1
         try clear c22
         try clear c22b0
         try clear c22b1
         try clear c23
         try clear c23b0
         try clear c23b1
         try clear c24
         try clear c24b0
         try clear c24b1
         try clear c33
         try clear c44
         try clear c44b0
         try clear c44b1
         try clear c46
         try clear c46b0
         try clear c46b1
         try clear c47
         try clear c47b0
         try clear c47b1
         try clear c48
         try clear c48b0
         try clear c48b1
         try clear c52
         try clear q52
         try clear q54
         try clear c57
         try clear hcz17_0
         try clear hcz17_1
         try clear hcz17_2
         try clear hcz17_3
         try clear hcz17_4
         try clear hcz25_0
         try clear hcz25_1
         try clear hcz25_2
         try clear hcz25_3
         try clear hcz25_4
         try clear hcz28_0
         try clear hcz28_1
         try clear hcz28_2
         try clear hcz28_3
         try clear hcz28_4
         try clear hcz30_0
         try clear hcz30_1
         try clear hcz30_2
         try clear hcz30_3
         try clear hcz30_4
         try clear hcz31_0
         try clear hcz31_1
         try clear hcz31_2
         try clear hcz31_3
         try clear hcz31_4
         try clear hcz32_0
         try clear hcz32_1
         try clear hcz32_2
         try clear hcz32_3
         try clear hcz32_4
         try clear hcz36_0
         try clear hcz36_1
         try clear hcz36_2
         try clear hcz36_3
         try clear hcz36_4
         try clear hfz17_0
         try clear hfz17_1
         try clear hfz17_2
         try clear hfz17_3
         try clear hfz17_4
         try clear hfz25_0
         try clear hfz25_1
         try clear hfz25_2
         try clear hfz25_3
         try clear hfz25_4
         try clear hfz28_0
         try clear hfz28_1
         try clear hfz28_2
         try clear hfz28_3
         try clear hfz28_4
         try clear hfz30_0
         try clear hfz30_1
         try clear hfz30_2
         try clear hfz30_3
         try clear hfz30_4
         try clear hfz31_0
         try clear hfz31_1
         try clear hfz31_2
         try clear hfz31_3
         try clear hfz31_4
         try clear hfz32_0
         try clear hfz32_1
         try clear hfz32_2
         try clear hfz32_3
         try clear hfz32_4
         try clear hfz36_0
         try clear hfz36_1
         try clear hfz36_2
         try clear hfz36_3
         try clear hfz36_4
         try clear p2
         try clear p6
         try clear q052
         try clear q5
         try clear q52
         try clear q54
         obtain ⟨x15_3, rfl, HA, HK3, HO_6, HO_7, BK507, HB⟩ := hrel
         cases gk with
         | zero => exact absurd HA.out (by simp [chatelainelaw7_PkeParts.l0])
         | succ k3 =>
          have H := HA.out
          clear HA
          simp only [chatelainelaw7_PkeParts.l0] at H
          by_cases c58 : x15_3 < t501
          ·rw [if_pos c58] at H
           have c58b0 : decide (x15_3 < t501) = true := decide_eq_true c58
           clear c58
           obtain ⟨ji59, hji59⟩ : ∃ j_ : Int, (wrap64 (384 * x15_3)) = j_ := ⟨_, rfl⟩
           replace H : (if 0 ≤ (ji59) then (if (ji59) ≤ (wrap64 (384 * (wrap64 (x15_3 + 1)))) then (if (wrap64 (384 * (wrap64 (x15_3 + 1)))) ≤ (t492.length : Int) then ((bits_Unpack.f k3 12 ((t492.take ((wrap64 (384 * (wrap64 (x15_3 + 1)))) : Int).toNat).drop ((ji59) : Int).toNat)).bind fun t543 => (if (wrap64 (384 * (wrap64 (x15_3 + 1)))) ≤ (t495.length : Int) then ((bits_Unpack.f k3 12 ((t495.take ((wrap64 (384 * (wrap64 (x15_3 + 1)))) : Int).toNat).drop ((ji59) : Int).toNat)).bind fun t551 => ((poly_May.f k3 t543).bind fun t554 => (if t554 = true then ((poly_May.f k3 t551).bind fun t555 => (if t555 = true then ((bits_Pack.f k3 12 t543).bind fun t556 => ((chatelainelaw0_SameBytes.f k3 t556 ((t492.take ((wrap64 (384 * (wrap64 (x15_3 + 1)))) : Int).toNat).drop ((ji59) : Int).toNat)).bind fun t564 => (if t564 = true then (chatelainelaw7_PkeParts.l0 k3 (wrap64 (1 + t488)) t492 t495 (wrap64 (x15_3 + 1)) t501 t502 t503 t504 t505) else (some false)))) else (some false))) else (some false)))) else (none))) else (none)) else (none)) else (none)) = some r := by first | (rw [hji59] at H; exact H) | (simp only [hji59] at H ⊢; exact H)
           have hji59w : (IntKind.i64.wrap (384 * x15_3)) = ji59 := (i64_w _).trans hji59
           by_cases c60 : 0 ≤ (ji59)
           ·rw [if_pos c60] at H
            have c60b0 := eq_true c60
            have c60b1 : decide (0 ≤ (ji59)) = true := decide_eq_true c60
            clear c60
            by_cases c61 : (ji59) ≤ (wrap64 (384 * (wrap64 (x15_3 + 1))))
            ·rw [if_pos c61] at H
             have c61b0 := eq_true c61
             have c61b1 : decide ((ji59) ≤ (wrap64 (384 * (wrap64 (x15_3 + 1))))) = true := decide_eq_true c61
             by_cases c62 : (wrap64 (384 * (wrap64 (x15_3 + 1)))) ≤ (t492.length : Int)
             ·rw [if_pos c62] at H
              have c62b0 := eq_true c62
              have c62b1 : decide ((wrap64 (384 * (wrap64 (x15_3 + 1)))) ≤ (t492.length : Int)) = true := decide_eq_true c62
              obtain ⟨y538, hy538⟩ : ∃ y_ : List Int, y_ = ((t492.take ((wrap64 (384 * (wrap64 (x15_3 + 1)))) : Int).toNat).drop ((ji59) : Int).toNat) := ⟨_, rfl⟩
              replace H : ((bits_Unpack.f k3 12 y538).bind fun t543 => (if (wrap64 (384 * (wrap64 (x15_3 + 1)))) ≤ (t495.length : Int) then ((bits_Unpack.f k3 12 ((t495.take ((wrap64 (384 * (wrap64 (x15_3 + 1)))) : Int).toNat).drop ((ji59) : Int).toNat)).bind fun t551 => ((poly_May.f k3 t543).bind fun t554 => (if t554 = true then ((poly_May.f k3 t551).bind fun t555 => (if t555 = true then ((bits_Pack.f k3 12 t543).bind fun t556 => ((chatelainelaw0_SameBytes.f k3 t556 ((t492.take ((wrap64 (384 * (wrap64 (x15_3 + 1)))) : Int).toNat).drop ((ji59) : Int).toNat)).bind fun t564 => (if t564 = true then (chatelainelaw7_PkeParts.l0 k3 (wrap64 (1 + t488)) t492 t495 (wrap64 (x15_3 + 1)) t501 t502 t503 t504 t505) else (some false)))) else (some false))) else (some false)))) else (none))) = some r := by first | (rw [hy538]; with_reducible exact H) | (have H2_ := (Option.bind_some _ _).symm.trans H; rw [hy538]; with_reducible exact H2_) | (have H2_ := (Option.bind_some _ _).symm.trans H; with_reducible exact H2_) | with_reducible exact H | (rw [hy538]; exact H) | exact H
              have Ny538 := Aside0.mk hy538
              clear hy538
              replace H := Option.bind_eq_some_iff.mp H
              obtain ⟨t543, A630, H⟩ := H
              try dsimp only at H
              have A63 := Aside0.mk A630
              clear A630
              have c64b0 := eq_true (of_decide_eq_true Aq : 0 ≤ (ji59))
              have c65b0 := eq_true (of_decide_eq_true Aq : (ji59) ≤ (wrap64 (384 * (wrap64 (x15_3 + 1)))))
              by_cases c66 : (wrap64 (384 * (wrap64 (x15_3 + 1)))) ≤ (t495.length : Int)
              ·rw [if_pos c66] at H
               have c66b0 := eq_true c66
               have c66b1 : decide ((wrap64 (384 * (wrap64 (x15_3 + 1)))) ≤ (t495.length : Int)) = true := decide_eq_true c66
               obtain ⟨y546, Ny546⟩ : ∃ y_ : List Int, Aside0 (y_ = ((t495.take ((wrap64 (384 * (wrap64 (x15_3 + 1)))) : Int).toNat).drop ((ji59) : Int).toNat)) := ⟨_, ⟨rfl⟩⟩
               first | rw [Option.bind_some, ← Ny546.out] at H | rw [← Ny546.out] at H
               replace H := Option.bind_eq_some_iff.mp H
               obtain ⟨t551, A670, H⟩ := H
               try dsimp only at H
               have A67 := Aside0.mk A670
               clear A670
               replace H := Option.bind_eq_some_iff.mp H
               obtain ⟨t554, A680, H⟩ := H
               try dsimp only at H
               have A68 := Aside0.mk A680
               clear A680
               by_cases c69 : t554 = true
               ·subst c69
                rw [if_pos rfl] at H
                replace H := Option.bind_eq_some_iff.mp H
                obtain ⟨t555, A700, H⟩ := H
                try dsimp only at H
                have A70 := Aside0.mk A700
                clear A700
                by_cases c71 : t555 = true
                ·subst c71
                 rw [if_pos rfl] at H
                 replace H := Option.bind_eq_some_iff.mp H
                 obtain ⟨t556, A720, H⟩ := H
                 try dsimp only at H
                 have A72 := Aside0.mk A720
                 clear A720
                 have c73b0 := eq_true (of_decide_eq_true Aq : 0 ≤ (ji59))
                 have c74b0 := eq_true (of_decide_eq_true Aq : (ji59) ≤ (wrap64 (384 * (wrap64 (x15_3 + 1)))))
                 have c75b0 := eq_true (of_decide_eq_true Aq : (wrap64 (384 * (wrap64 (x15_3 + 1)))) ≤ (t492.length : Int))
                 obtain ⟨y559, hy559⟩ : ∃ y_ : List Int, y_ = ((t492.take ((wrap64 (384 * (wrap64 (x15_3 + 1)))) : Int).toNat).drop ((ji59) : Int).toNat) := ⟨_, rfl⟩
                 replace H : ((chatelainelaw0_SameBytes.f k3 t556 y559).bind fun t564 => (if t564 = true then (chatelainelaw7_PkeParts.l0 k3 (wrap64 (1 + t488)) t492 t495 (wrap64 (x15_3 + 1)) t501 t502 t503 t504 t505) else (some false))) = some r := by first | (rw [hy559]; with_reducible exact H) | (have H2_ := (Option.bind_some _ _).symm.trans H; rw [hy559]; with_reducible exact H2_) | (have H2_ := (Option.bind_some _ _).symm.trans H; with_reducible exact H2_) | with_reducible exact H | (rw [hy559]; exact H) | exact H
                 have Ny559 := Aside0.mk hy559
                 clear hy559
                 replace H := Option.bind_eq_some_iff.mp H
                 obtain ⟨t564, A760, H⟩ := H
                 try dsimp only at H
                 have A76 := Aside0.mk A760
                 clear A760
                 have hcz77_0 : wr.cell? ⟨gb507, 0, none⟩ = some (.int .i64 t501) := (blk_cell BK507.out 0).trans rfl
                 have hcz77_1 : wr.cell? ⟨gb507, 1, none⟩ = some (.int .i64 t502) := (blk_cell BK507.out 1).trans rfl
                 have hcz77_2 : wr.cell? ⟨gb507, 2, none⟩ = some (.int .i64 t503) := (blk_cell BK507.out 2).trans rfl
                 have hcz77_3 : wr.cell? ⟨gb507, 3, none⟩ = some (.int .i64 t504) := (blk_cell BK507.out 3).trans rfl
                 have hcz77_4 : wr.cell? ⟨gb507, 4, none⟩ = some (.int .i64 t505) := (blk_cell BK507.out 4).trans rfl
                 have hfz77_0 := blk_frozen BK507.out 0
                 have hfz77_1 := blk_frozen BK507.out 1
                 have hfz77_2 := blk_frozen BK507.out 2
                 have hfz77_3 := blk_frozen BK507.out 3
                 have hfz77_4 := blk_frozen BK507.out 4
                 repeat (first | go_values | go_skip | go_guarded | ((with_reducible refine own_cond ?_); (first | refine own_condT rfl ?_ | refine own_condF rfl ?_)) | ((with_reducible refine own_ite ?_); (first | rw [own_iteT] | rw [own_iteF])) | ((fail_if_success (with_reducible refine own_ite ?_)); (fail_if_success (with_reducible refine own_cond ?_)); (first | (go_step; (first | (fail_if_success (with_reducible refine own_upon ?_)) | go_step | go_upon); (fail_if_success ((case' isTrue => skip); (case' isFalse => skip)))) | go_upon | ((with_reducible refine own_upon ?_); go_simp) | dsimp only)))
                 replace HO_6 := Aside0.mk (Kd.R_drew HO_6.out)
                 replace HO_7 := Aside0.mk (Kd.R_drew HO_7.out)
                 replace BK507 := Aside0.mk (blk_drew BK507.out)
                 replace HB := Aside0.mk (below_drew1 HB.out)
                 obtain ⟨Ao80, co80, eo80⟩ := Kd.R_slice HO_6.out
                 (first | subst eo80 | (injection eo80 with f1_ f2_ f3_; have f4_ := f1_.symm; have f5_ := f3_.symm; clear f1_ f2_ f3_; subst f4_; subst f5_))
                 have q79 : ((wrap64 (384 * (wrap64 (x15_3 + 1)))) : Int) ≤ ((t492.length : Int) : Int) := of_decide_eq_true Aq
                 obtain ⟨i079, hi079, _, hsz79, _⟩ := info_parts info5
                 have hroom79 : t492.length ≤ co80 := (Kd.R_reads' HO_6.out).2.1
                 have hC79 : Kd.F (Kd.int .u8) _ _ Ao80 t492.length t492 := (Kd.V_at (base := w.heap.size) (Kd.R_V (Kd.R_types (HO_6.out) BK507.out (by decide)))).2.2
                 have ql79 : ((ji59) : Int) ≤ ((wrap64 (384 * (wrap64 (x15_3 + 1)))) : Int) := of_decide_eq_true Aq
                 have q079 : (0 : Int) ≤ ((ji59) : Int) := of_decide_eq_true Aq
                 have hcut79 := cut_mid (P := Tryd.prog) 22 5 .i64 .i64 Tryd.underlying22 hi079 1 hsz79 Ao80 t492.length co80 (ji59) (wrap64 (384 * (wrap64 (x15_3 + 1)))) q079 ql79 q79 hroom79
                 have hr79 := Kd.F_mid (lo := ((ji59) : Int).toNat) (hi := ((wrap64 (384 * (wrap64 (x15_3 + 1)))) : Int).toNat) (c := co80) hC79 (by omega) (by omega) hroom79
                 obtain ⟨A79, hA79⟩ : ∃ A1, A1 = (if co80 = ((ji59) : Int).toNat then Ao80 else (Ao80 : Option Addr).map (·.add (((ji59) : Int).toNat * 1))) := ⟨_, rfl⟩
                 obtain ⟨c79, hc79⟩ : ∃ c1, c1 = co80 - ((ji59) : Int).toNat := ⟨_, rfl⟩
                 have hy79 : y538.length = ((wrap64 (384 * (wrap64 (x15_3 + 1)))) : Int).toNat - ((ji59) : Int).toNat := (by rw [Ny538.out, List.length_drop, List.length_take] <;> omega)
                 rw [show ((t492).take ((wrap64 (384 * (wrap64 (x15_3 + 1)))) : Int).toNat).drop ((ji59) : Int).toNat = y538 from Ny538.out.symm] at hr79
                 replace hr79 : Kd.F (Kd.int .u8) _ _ A79 y538.length y538 := (by rw [hA79]; exact hr79)
                 rw [← hy79, ← hA79, ← hc79] at hcut79
                 have HO542 := Aside0.mk (show Kd.V (Kd.int .u8) 5 _ w.heap.size _ (.slice A79 y538.length c79) y538 from Kd.V_mk (by rw [hy79, hc79]; exact Nat.sub_le_sub_right (Nat.le_trans (by omega) hroom79) _) hr79)
                 have HC542 := Aside0.mk (show y538.length ≤ c79 from by rw [hy79, hc79]; exact Nat.sub_le_sub_right (Nat.le_trans (by omega) hroom79) _)
                 clear hr79 hC79 hroom79 hi079 hsz79 hc79
                 have KY79 := Aside0.mk hy79
                 have KA79 := Aside0.mk hA79
                 clear hy79 hA79
                 replace q79 := eq_true q79
                 obtain ⟨Ao82, co82, eo82⟩ := Kd.R_slice HO_7.out
                 (first | subst eo82 | (injection eo82 with f1_ f2_ f3_; have f4_ := f1_.symm; have f5_ := f3_.symm; clear f1_ f2_ f3_; subst f4_; subst f5_))
                 have q81 : ((wrap64 (384 * (wrap64 (x15_3 + 1)))) : Int) ≤ ((t495.length : Int) : Int) := of_decide_eq_true Aq
                 obtain ⟨i081, hi081, _, hsz81, _⟩ := info_parts info5
                 have hroom81 : t495.length ≤ co82 := (Kd.R_reads' HO_7.out).2.1
                 have hC81 : Kd.F (Kd.int .u8) _ _ Ao82 t495.length t495 := (Kd.V_at (base := w.heap.size) (Kd.R_V (Kd.R_types (HO_7.out) BK507.out (by decide)))).2.2
                 have ql81 : ((ji59) : Int) ≤ ((wrap64 (384 * (wrap64 (x15_3 + 1)))) : Int) := of_decide_eq_true Aq
                 have q081 : (0 : Int) ≤ ((ji59) : Int) := of_decide_eq_true Aq
                 have hcut81 := cut_mid (P := Tryd.prog) 22 5 .i64 .i64 Tryd.underlying22 hi081 1 hsz81 Ao82 t495.length co82 (ji59) (wrap64 (384 * (wrap64 (x15_3 + 1)))) q081 ql81 q81 hroom81
                 have hr81 := Kd.F_mid (lo := ((ji59) : Int).toNat) (hi := ((wrap64 (384 * (wrap64 (x15_3 + 1)))) : Int).toNat) (c := co82) hC81 (by omega) (by omega) hroom81
                 obtain ⟨A81, hA81⟩ : ∃ A1, A1 = (if co82 = ((ji59) : Int).toNat then Ao82 else (Ao82 : Option Addr).map (·.add (((ji59) : Int).toNat * 1))) := ⟨_, rfl⟩
                 obtain ⟨c81, hc81⟩ : ∃ c1, c1 = co82 - ((ji59) : Int).toNat := ⟨_, rfl⟩
                 have hy81 : y546.length = ((wrap64 (384 * (wrap64 (x15_3 + 1)))) : Int).toNat - ((ji59) : Int).toNat := (by rw [Ny546.out, List.length_drop, List.length_take] <;> omega)
                 rw [show ((t495).take ((wrap64 (384 * (wrap64 (x15_3 + 1)))) : Int).toNat).drop ((ji59) : Int).toNat = y546 from Ny546.out.symm] at hr81
                 replace hr81 : Kd.F (Kd.int .u8) _ _ A81 y546.length y546 := (by rw [hA81]; exact hr81)
                 rw [← hy81, ← hA81, ← hc81] at hcut81
                 have HO550 := Aside0.mk (show Kd.V (Kd.int .u8) 5 _ w.heap.size _ (.slice A81 y546.length c81) y546 from Kd.V_mk (by rw [hy81, hc81]; exact Nat.sub_le_sub_right (Nat.le_trans (by omega) hroom81) _) hr81)
                 have HC550 := Aside0.mk (show y546.length ≤ c81 from by rw [hy81, hc81]; exact Nat.sub_le_sub_right (Nat.le_trans (by omega) hroom81) _)
                 clear hr81 hC81 hroom81 hi081 hsz81 hc81
                 have KY81 := Aside0.mk hy81
                 have KA81 := Aside0.mk hA81
                 clear hy81 hA81
                 replace q81 := eq_true q81
                 refine start_ (n := 18) (S := fun w' => True) (ds := []) (bl 18 0) (by kernel_rfl) rfl rfl trivial (fun hHeld => ?_); refine with_tabW chatelainelaw7_PkeParts.tab16 chatelainelaw7_PkeParts.bits16 (fun HT_ HW_ => ?_)
                 generalize wr.drew = w78 at HO_6 HO_7 BK507 HB HO542 HO550 hHeld ⊢
                 refine pq 0 (some 111) (bl 18 1) ?_
                 refine pq 1 (some 112) (bl 18 3) ?_
                 refine pq 2 (some 113) (bl 18 7) ?_
                 refine pq 3 (some 114) (bl 18 15) ?_
                 refine pq 4 (some 115) (bl 18 31) ?_
                 refine pq 5 (some 116) (bl 18 63) ?_
                 refine pq 6 (some 117) (bl 18 127) ?_
                 refine pq 8 (some 119) (bl 18 383) ?_
                 refine pq 9 (some 120) (bl 18 895) ?_
                 refine pq 10 (some 121) (bl 18 1919) ?_
                 refine pq 11 (some 122) (bl 18 3967) ?_
                 refine pq 12 (some 123) (bl 18 8063) ?_
                 refine pq 13 (some 124) (bl 18 16255) ?_
                 refine pq 14 (some 125) (bl 18 32639) ?_
                 refine one_ (i := 7) (N := some 118) (bl 18 32767) rfl rfl (one_of HT_.out (by kernel_rfl)) (by decide) (fun K hK => ?_)
                 refine goes_ Tryd.func16 (by kernel_rfl) rfl #[.int .i64 12, .slice A79 y538.length c79] (by rfl) rfl rfl (by (try simp only [List.map_toArray, List.map_cons, List.map_nil]); first | done | rfl | (simp only [List.length_drop, List.length_take]; rfl) | (simp only [hy79]; rfl)) ?_
                 with_reducible refine (bits_Unpack.calls k3 12 _ _ y538 t543 _ ?side1 ?side2 A63.out).mono ?_
                 (case side1 => repeat (first | exact (Kd.V_reads' HO542.out).2.2 | (with_reducible refine Kd.C_alloc ?_ _) | (with_reducible refine Kd.C_drewN ?_ _) | (with_reducible refine Kd.C_drew ?_)))
                 (case side2 => exact (Kd.V_reads' HO542.out).2.1)
                 rintro e w83 ⟨v544, rfl, ho0, hb⟩
                 refine ⟨_, rfl, ?_⟩
                 replace HO_6 := Aside0.mk (Kd.R_below (Wq HO_6) hb)
                 replace HO_7 := Aside0.mk (Kd.R_below (Wq HO_7) hb)
                 replace HO542 := Aside0.mk (Kd.V_elder' (Wq HO542) (Kd.R_base ho0) hb)
                 replace HO550 := Aside0.mk (Kd.V_elder' (Wq HO550) (Kd.R_base ho0) hb)
                 have HO545 := Aside0.mk (Kd.R_lower ho0 (below_size Bq))
                 replace BK507 := Aside0.mk (blk_below (g := gb507) (o := .cells #[.int .i64 t501, .int .i64 t502, .int .i64 t503, .int .i64 t504, .int .i64 t505] 34 (0, 0)) (Kq BK507) hb)
                 replace HB := Aside0.mk (below_step Bq hb)
                 clear hb ho0; (try clear A63)
                 refine hK.out _ _ trivial (fun hHeld => ?_)
                 clear hK K
                 refine norm_ (a' := ?_) ?_ ?_
                 rotate_left
                 ·show Act.put _ (some 118) _ = _
                  simp only [Act.put, List.setIfInBounds_toArray, List.set_cons_zero, List.set_cons_succ, i64_w, i32_w]
                  rfl
                 refine one_ (i := 15) (N := some 126) (bl 18 65535) rfl rfl (one_of HT_.out (by kernel_rfl)) (by decide) (fun K hK => ?_)
                 refine goes_ Tryd.func16 (by kernel_rfl) rfl #[.int .i64 12, .slice A81 y546.length c81] (by rfl) rfl rfl (by (try simp only [List.map_toArray, List.map_cons, List.map_nil]); first | done | rfl | (simp only [List.length_drop, List.length_take]; rfl) | (simp only [hy81]; rfl)) ?_
                 with_reducible refine (bits_Unpack.calls k3 12 _ _ y546 t551 _ ?side1 ?side2 A67.out).mono ?_
                 (case side1 => repeat (first | exact (Kd.V_reads' HO550.out).2.2 | (with_reducible refine Kd.C_alloc ?_ _) | (with_reducible refine Kd.C_drewN ?_ _) | (with_reducible refine Kd.C_drew ?_)))
                 (case side2 => exact (Kd.V_reads' HO550.out).2.1)
                 rintro e w84 ⟨v552, rfl, ho0, hb⟩
                 refine ⟨_, rfl, ?_⟩
                 replace HO_6 := Aside0.mk (Kd.R_below (Wq HO_6) hb)
                 replace HO_7 := Aside0.mk (Kd.R_below (Wq HO_7) hb)
                 replace HO542 := Aside0.mk (Kd.V_elder' (Wq HO542) (Kd.R_base ho0) hb)
                 replace HO550 := Aside0.mk (Kd.V_elder' (Wq HO550) (Kd.R_base ho0) hb)
                 have HO553 := Aside0.mk (Kd.R_lower (Kd.R_new' ho0 (Kd.R_lt (Wq HO545))) (below_size Bq))
                 replace HO545 := Aside0.mk (Kd.R_elder' (Wq HO545) (Kd.R_base ho0) hb)
                 replace BK507 := Aside0.mk (blk_below (g := gb507) (o := .cells #[.int .i64 t501, .int .i64 t502, .int .i64 t503, .int .i64 t504, .int .i64 t505] 34 (0, 0)) (Kq BK507) hb)
                 replace HB := Aside0.mk (below_step Bq hb)
                 clear hb ho0; (try clear A67)
                 refine hK.out _ _ trivial (fun hHeld => ?_)
                 clear hK K
                 refine norm_ (a' := ?_) ?_ ?_
                 rotate_left
                 ·show Act.put _ (some 126) _ = _
                  simp only [Act.put, List.setIfInBounds_toArray, List.set_cons_zero, List.set_cons_succ, i64_w, i32_w]
                  rfl
                 refine pq 16 (some 16) (bl 18 131071) ?_
                 refine pq 17 (some 17) (bl 18 262143) ?_
                 refine done_ (done_of HT_.out (by kernel_rfl)) ?_
                 repeat (first | go_values | go_skip | go_guarded | ((with_reducible refine own_cond ?_); (first | refine own_condT rfl ?_ | refine own_condF rfl ?_)) | ((with_reducible refine own_ite ?_); (first | rw [own_iteT] | rw [own_iteF])) | ((fail_if_success (with_reducible refine own_ite ?_)); (fail_if_success (with_reducible refine own_cond ?_)); (first | (go_step; (first | (fail_if_success (with_reducible refine own_upon ?_)) | go_step | go_upon); (fail_if_success ((case' isTrue => skip); (case' isFalse => skip)))) | go_upon | ((with_reducible refine own_upon ?_); go_simp) | dsimp only)))
                 replace HO_6 := Aside0.mk (Kd.R_drew HO_6.out)
                 replace HO_7 := Aside0.mk (Kd.R_drew HO_7.out)
                 replace HO542 := Aside0.mk (Kd.V_drew HO542.out)
                 replace HO550 := Aside0.mk (Kd.V_drew HO550.out)
                 replace HO545 := Aside0.mk (Kd.R_drew HO545.out)
                 replace HO553 := Aside0.mk (Kd.R_drew HO553.out)
                 replace BK507 := Aside0.mk (blk_drew BK507.out)
                 replace HB := Aside0.mk (below_drew1 HB.out)
                 obtain ⟨Ao86, co86, eo86⟩ := Kd.R_slice HO545.out
                 (first | subst eo86 | (injection eo86 with f1_ f2_ f3_; have f4_ := f1_.symm; have f5_ := f3_.symm; clear f1_ f2_ f3_; subst f4_; subst f5_))
                 (try clear hcut81); (try clear hcut79); (try clear hcut54); (try clear hcut52)
                 have q89 : ((wrap64 (384 * (wrap64 (x15_3 + 1)))) : Int) ≤ ((t492.length : Int) : Int) := of_decide_eq_true Aq
                 obtain ⟨i089, hi089, _, hsz89, _⟩ := info_parts info5
                 have hroom89 : t492.length ≤ co80 := (Kd.R_reads' HO_6.out).2.1
                 have ql89 : ((ji59) : Int) ≤ ((wrap64 (384 * (wrap64 (x15_3 + 1)))) : Int) := of_decide_eq_true Aq
                 have q089 : (0 : Int) ≤ ((ji59) : Int) := of_decide_eq_true Aq
                 have hcut89 := cut_mid (P := Tryd.prog) 22 5 .i64 .i64 Tryd.underlying22 hi089 1 hsz89 Ao80 t492.length co80 (ji59) (wrap64 (384 * (wrap64 (x15_3 + 1)))) q089 ql89 q89 hroom89
                 obtain ⟨A89, hA89⟩ : ∃ A1, A1 = (if co80 = ((ji59) : Int).toNat then Ao80 else (Ao80 : Option Addr).map (·.add (((ji59) : Int).toNat * 1))) := ⟨_, rfl⟩
                 obtain ⟨c89, hc89⟩ : ∃ c1, c1 = co80 - ((ji59) : Int).toNat := ⟨_, rfl⟩
                 have hy89 : y559.length = ((wrap64 (384 * (wrap64 (x15_3 + 1)))) : Int).toNat - ((ji59) : Int).toNat := (by rw [Ny559.out, List.length_drop, List.length_take] <;> omega)
                 rw [← hy89, ← hA89, ← hc89] at hcut89
                 have KY_89 := Aside0.mk hy89
                 have KA_89 := Aside0.mk hA89
                 have KC_89 := Aside0.mk hc89
                 clear hy89 hA89 hc89 hroom89 hi089 hsz89 q89 ql89 q089
                 refine start_ (n := 21) (S := fun w' => True) (ds := []) (bl 21 0) (by kernel_rfl) rfl rfl trivial (fun hHeld => ?_); refine with_tabW chatelainelaw7_PkeParts.tab17 chatelainelaw7_PkeParts.bits17 (fun HT_ HW_ => ?_)
                 generalize w84.drew = w85 at HO_6 HO_7 HO542 HO550 HO545 HO553 BK507 HB hHeld ⊢
                 refine pq 0 (some 127) (bl 21 1) ?_
                 refine one_ (i := 1) (N := some 128) (bl 21 3) rfl rfl (one_of HT_.out (by kernel_rfl)) (by decide) (fun K hK => ?_)
                 refine goes_ Tryd.func17 (by kernel_rfl) rfl #[.slice Ao86 t543.length co86] (by rfl) rfl rfl Mq ?_
                 with_reducible refine (poly_May.calls k3 _ _ t543 true _ ?side1 ?side2 A68.out).mono ?_
                 (case side1 => repeat (first | exact (Kd.R_reads' HO545.out).2.2 | (with_reducible refine Kd.C_alloc ?_ _) | (with_reducible refine Kd.C_drewN ?_ _) | (with_reducible refine Kd.C_drew ?_)))
                 (case side2 => exact (Kd.R_reads' HO545.out).2.1)
                 rintro e w' ⟨rfl, ⟨nd, rfl⟩⟩
                 refine ⟨_, rfl, ?_⟩
                 obtain ⟨Ao87, co87, eo87⟩ := Kd.R_slice HO553.out
                 (first | subst eo87 | (injection eo87 with f1_ f2_ f3_; have f4_ := f1_.symm; have f5_ := f3_.symm; clear f1_ f2_ f3_; subst f4_; subst f5_))
                 refine hK.out _ _ trivial (fun hHeld => ?_)
                 clear hK K
                 refine norm_ (a' := ?_) ?_ ?_
                 rotate_left
                 ·show Act.put _ (some 128) _ = _
                  simp only [Act.put, List.setIfInBounds_toArray, List.set_cons_zero, List.set_cons_succ, i64_w, i32_w]
                  rfl
                 refine pq 2 (some 129) (bl 21 7) ?_
                 refine pq 3 (some 130) (bl 21 15) ?_
                 refine pq 4 (some 131) (bl 21 31) ?_
                 refine one_ (i := 5) (N := some 132) (bl 21 63) rfl rfl (one_of HT_.out (by kernel_rfl)) (by decide) (fun K hK => ?_)
                 refine goes_ Tryd.func17 (by kernel_rfl) rfl #[.slice Ao87 t551.length co87] (by rfl) rfl rfl Mq ?_
                 with_reducible refine (poly_May.calls k3 _ _ t551 true _ ?side1 ?side2 A70.out).mono ?_
                 (case side1 => repeat (first | exact (Kd.R_reads' HO553.out).2.2 | (with_reducible refine Kd.C_alloc ?_ _) | (with_reducible refine Kd.C_drewN ?_ _) | (with_reducible refine Kd.C_drew ?_)))
                 (case side2 => exact (Kd.R_reads' HO553.out).2.1)
                 rintro e w' ⟨rfl, ⟨nd, rfl⟩⟩
                 refine ⟨_, rfl, ?_⟩
                 refine hK.out _ _ trivial (fun hHeld => ?_)
                 clear hK K
                 refine norm_ (a' := ?_) ?_ ?_
                 rotate_left
                 ·show Act.put _ (some 132) _ = _
                  simp only [Act.put, List.setIfInBounds_toArray, List.set_cons_zero, List.set_cons_succ, i64_w, i32_w]
                  rfl
                 refine pq 6 (some 133) (bl 21 127) ?_
                 refine pq 7 (some 134) (bl 21 255) ?_
                 refine pq 8 (some 135) (bl 21 511) ?_
                 refine pq 9 (some 136) (bl 21 1023) ?_
                 refine pq 11 (some 138) (bl 21 3071) ?_
                 refine pq 12 (some 139) (bl 21 7167) ?_
                 refine pq 13 (some 140) (bl 21 15359) ?_
                 refine pq 14 (some 141) (bl 21 31743) ?_
                 refine pq 15 (some 142) (bl 21 64511) ?_
                 refine pq 16 (some 143) (bl 21 130047) ?_
                 refine pq 17 (some 144) (bl 21 261119) ?_
                 refine one_ (i := 10) (N := some 137) (bl 21 262143) rfl rfl (one_of HT_.out (by kernel_rfl)) (by decide) (fun K hK => ?_)
                 refine goes_ Tryd.func18 (by kernel_rfl) rfl #[.int .i64 12, .slice Ao86 t543.length co86] (by rfl) rfl rfl Mq ?_
                 with_reducible refine (bits_Pack.calls k3 12 _ _ t543 t556 _ ?side1 ?side2 A72.out).mono ?_
                 (case side1 => repeat (first | exact (Kd.R_reads' HO545.out).2.2 | (with_reducible refine Kd.C_alloc ?_ _) | (with_reducible refine Kd.C_drewN ?_ _) | (with_reducible refine Kd.C_drew ?_)))
                 (case side2 => exact (Kd.R_reads' HO545.out).2.1)
                 rintro e w88 ⟨v557, rfl, ho0, hb⟩
                 refine ⟨_, rfl, ?_⟩
                 replace HO542 := Aside0.mk (Kd.V_elder' (Wq HO542) (Kd.R_base ho0) hb)
                 replace HO550 := Aside0.mk (Kd.V_elder' (Wq HO550) (Kd.R_base ho0) hb)
                 replace HO545 := Aside0.mk (Kd.R_below (Wq HO545) hb)
                 replace HO553 := Aside0.mk (Kd.R_below (Wq HO553) hb)
                 have HO558 := Aside0.mk (Kd.R_lower (Kd.R_new' (Kd.R_new' ho0 (Kd.R_lt (Wq HO_6))) (Kd.R_lt (Wq HO_7))) (below_size Bq))
                 replace HO_6 := Aside0.mk (Kd.R_elder' (Wq HO_6) (Kd.R_base ho0) hb)
                 replace HO_7 := Aside0.mk (Kd.R_elder' (Wq HO_7) (Kd.R_base ho0) hb)
                 replace BK507 := Aside0.mk (blk_below (g := gb507) (o := .cells #[.int .i64 t501, .int .i64 t502, .int .i64 t503, .int .i64 t504, .int .i64 t505] 34 (0, 0)) (Kq BK507) hb)
                 replace HB := Aside0.mk (below_step Bq hb)
                 clear hb ho0; (try clear A72)
                 have q89 : ((wrap64 (384 * (wrap64 (x15_3 + 1)))) : Int) ≤ ((t492.length : Int) : Int) := of_decide_eq_true Aq
                 obtain ⟨i089, hi089, _, hsz89, _⟩ := info_parts info5
                 have hroom89 : t492.length ≤ co80 := (Kd.R_reads' HO_6.out).2.1
                 have hC89 : Kd.F (Kd.int .u8) _ _ Ao80 t492.length t492 := (Kd.V_at (base := w.heap.size) (Kd.R_V (Kd.R_types (Kd.R_apart' (Kd.R_apart' (HO_6.out) (Kd.R_typed HO545.out) (by decide)) (Kd.R_typed HO553.out) (by decide)) BK507.out (by decide)))).2.2
                 have ql89 : ((ji59) : Int) ≤ ((wrap64 (384 * (wrap64 (x15_3 + 1)))) : Int) := of_decide_eq_true Aq
                 have q089 : (0 : Int) ≤ ((ji59) : Int) := of_decide_eq_true Aq
                 have hy89 := KY_89.out
                 have hA89 := KA_89.out
                 have hc89 := KC_89.out
                 have hr89 := Kd.F_mid (lo := ((ji59) : Int).toNat) (hi := ((wrap64 (384 * (wrap64 (x15_3 + 1)))) : Int).toNat) (c := co80) hC89 (by omega) (by omega) hroom89
                 rw [show ((t492).take ((wrap64 (384 * (wrap64 (x15_3 + 1)))) : Int).toNat).drop ((ji59) : Int).toNat = y559 from Ny559.out.symm] at hr89
                 replace hr89 : Kd.F (Kd.int .u8) _ _ A89 y559.length y559 := (by rw [hA89]; exact hr89)
                 have HO563 := Aside0.mk (show Kd.V (Kd.int .u8) 5 _ w.heap.size _ (.slice A89 y559.length c89) y559 from Kd.V_mk (by rw [hy89, hc89]; exact Nat.sub_le_sub_right (Nat.le_trans (by omega) hroom89) _) hr89)
                 have HC563 := Aside0.mk (show y559.length ≤ c89 from by rw [hy89, hc89]; exact Nat.sub_le_sub_right (Nat.le_trans (by omega) hroom89) _)
                 clear hr89 hC89 hroom89 hi089 hsz89 hc89
                 have KY89 := Aside0.mk hy89
                 have KA89 := Aside0.mk hA89
                 clear hy89 hA89
                 replace q89 := eq_true q89
                 obtain ⟨Ao90, co90, eo90⟩ := Kd.R_slice HO558.out
                 (first | subst eo90 | (injection eo90 with f1_ f2_ f3_; have f4_ := f1_.symm; have f5_ := f3_.symm; clear f1_ f2_ f3_; subst f4_; subst f5_))
                 refine hK.out _ _ trivial (fun hHeld => ?_)
                 clear hK K
                 refine norm_ (a' := ?_) ?_ ?_
                 rotate_left
                 ·show Act.put _ (some 137) _ = _
                  simp only [Act.put, List.setIfInBounds_toArray, List.set_cons_zero, List.set_cons_succ, i64_w, i32_w]
                  rfl
                 refine one_ (i := 18) (N := some 145) (bl 21 524287) rfl rfl (one_of HT_.out (by kernel_rfl)) (by decide) (fun K hK => ?_)
                 refine goes_ Tryd.func9 (by kernel_rfl) rfl #[.slice Ao90 t556.length co90, .slice A89 y559.length c89] (by rfl) rfl rfl (by (try simp only [List.map_toArray, List.map_cons, List.map_nil]); first | done | rfl | (simp only [List.length_drop, List.length_take]; rfl) | (simp only [hy89]; rfl)) ?_
                 with_reducible refine (chatelainelaw0_SameBytes.calls k3 _ _ t556 _ _ y559 t564 _ ?side1 ?side2 ?side3 ?side4 A76.out).mono ?_
                 (case side1 => repeat (first | exact (Kd.R_reads' HO558.out).2.2 | (with_reducible refine Kd.C_alloc ?_ _) | (with_reducible refine Kd.C_drewN ?_ _) | (with_reducible refine Kd.C_drew ?_)))
                 (case side2 => exact (Kd.R_reads' HO558.out).2.1)
                 (case side3 => repeat (first | exact (Kd.V_reads' HO563.out).2.2 | (with_reducible refine Kd.C_alloc ?_ _) | (with_reducible refine Kd.C_drewN ?_ _) | (with_reducible refine Kd.C_drew ?_)))
                 (case side4 => exact (Kd.V_reads' HO563.out).2.1)
                 rintro e w' ⟨rfl, ⟨nd, rfl⟩⟩
                 refine ⟨_, rfl, ?_⟩
                 refine hK.out _ _ trivial (fun hHeld => ?_)
                 clear hK K
                 refine norm_ (a' := ?_) ?_ ?_
                 rotate_left
                 ·show Act.put _ (some 145) _ = _
                  simp only [Act.put, List.setIfInBounds_toArray, List.set_cons_zero, List.set_cons_succ, i64_w, i32_w]
                  rfl
                 refine pq 19 (some 146) (bl 21 1048575) ?_
                 refine pq 20 (some 147) (bl 21 2097151) ?_
                 refine done_ (done_of HT_.out (by kernel_rfl)) ?_
                 repeat (first | go_values | go_skip | go_guarded | ((with_reducible refine own_cond ?_); (first | refine own_condT rfl ?_ | refine own_condF rfl ?_)) | ((with_reducible refine own_ite ?_); (first | rw [own_iteT] | rw [own_iteF])) | ((fail_if_success (with_reducible refine own_ite ?_)); (fail_if_success (with_reducible refine own_cond ?_)); (first | (go_step; (first | (fail_if_success (with_reducible refine own_upon ?_)) | go_step | go_upon); (fail_if_success ((case' isTrue => skip); (case' isFalse => skip)))) | go_upon | ((with_reducible refine own_upon ?_); go_simp) | dsimp only)))
                 by_cases c91 : t564 = true
                 ·subst c91
                  rw [if_pos rfl] at H
                  have H' := Aside0.mk H
                  clear H
                  go_wp2
                  go_roundg k3
                  case measure => have := HJ10.out; have := HJ34.out; have := HK3.out; omega
                  case rel => exact ⟨(wrap64 (x15_3 + 1)), Rq, H', ⟨by have := HJ10.out; have := HJ34.out; have := HK3.out; omega⟩, ⟨by (with_reducible repeat (first | apply Kd.R_alloc | apply Kd.R_drewN | apply Kd.R_drew)); exact Kd.R_mono HO_6.out (fun _ hk => hk.1)⟩, ⟨by (with_reducible repeat (first | apply Kd.R_alloc | apply Kd.R_drewN | apply Kd.R_drew)); exact Kd.R_mono HO_7.out (fun _ hk => hk.1)⟩, ⟨by (with_reducible repeat (first | refine blk_drewN ?_ _ | refine blk_drew ?_ | refine blk_alloc ?_ _)); exact BK507.out⟩, ⟨Bq⟩⟩
                 ·replace c91 := Bool.eq_false_iff.mpr c91
                  subst c91
                  rw [if_neg nf] at H
                  obtain rfl := Option.some.inj H
                  go_wp2
                  go_ret
                  exact ⟨by first | rfl | (simp [errW_none, errW_some] <;> rfl) | (simp only [← hji59]; first | rfl | (simp [errW_none, errW_some] <;> rfl)) | (simp [*, errW_none, errW_some] <;> rfl), Bq⟩
                ·replace c71 := Bool.eq_false_iff.mpr c71
                 subst c71
                 rw [if_neg nf] at H
                 obtain rfl := Option.some.inj H
                 have hcz92_0 : wr.cell? ⟨gb507, 0, none⟩ = some (.int .i64 t501) := (blk_cell BK507.out 0).trans rfl
                 have hcz92_1 : wr.cell? ⟨gb507, 1, none⟩ = some (.int .i64 t502) := (blk_cell BK507.out 1).trans rfl
                 have hcz92_2 : wr.cell? ⟨gb507, 2, none⟩ = some (.int .i64 t503) := (blk_cell BK507.out 2).trans rfl
                 have hcz92_3 : wr.cell? ⟨gb507, 3, none⟩ = some (.int .i64 t504) := (blk_cell BK507.out 3).trans rfl
                 have hcz92_4 : wr.cell? ⟨gb507, 4, none⟩ = some (.int .i64 t505) := (blk_cell BK507.out 4).trans rfl
                 have hfz92_0 := blk_frozen BK507.out 0
                 have hfz92_1 := blk_frozen BK507.out 1
                 have hfz92_2 := blk_frozen BK507.out 2
                 have hfz92_3 := blk_frozen BK507.out 3
                 have hfz92_4 := blk_frozen BK507.out 4
                 try go_wp2
                 replace HO_6 := Aside0.mk (Kd.R_drew HO_6.out)
                 replace HO_7 := Aside0.mk (Kd.R_drew HO_7.out)
                 replace BK507 := Aside0.mk (blk_drew BK507.out)
                 replace HB := Aside0.mk (below_drew1 HB.out)
                 obtain ⟨Ao95, co95, eo95⟩ := Kd.R_slice HO_6.out
                 (first | subst eo95 | (injection eo95 with f1_ f2_ f3_; have f4_ := f1_.symm; have f5_ := f3_.symm; clear f1_ f2_ f3_; subst f4_; subst f5_))
                 have q94 : ((wrap64 (384 * (wrap64 (x15_3 + 1)))) : Int) ≤ ((t492.length : Int) : Int) := of_decide_eq_true Aq
                 obtain ⟨i094, hi094, _, hsz94, _⟩ := info_parts info5
                 have hroom94 : t492.length ≤ co95 := (Kd.R_reads' HO_6.out).2.1
                 have hC94 : Kd.F (Kd.int .u8) _ _ Ao95 t492.length t492 := (Kd.V_at (base := w.heap.size) (Kd.R_V (Kd.R_types (HO_6.out) BK507.out (by decide)))).2.2
                 have ql94 : ((ji59) : Int) ≤ ((wrap64 (384 * (wrap64 (x15_3 + 1)))) : Int) := of_decide_eq_true Aq
                 have q094 : (0 : Int) ≤ ((ji59) : Int) := of_decide_eq_true Aq
                 have hcut94 := cut_mid (P := Tryd.prog) 22 5 .i64 .i64 Tryd.underlying22 hi094 1 hsz94 Ao95 t492.length co95 (ji59) (wrap64 (384 * (wrap64 (x15_3 + 1)))) q094 ql94 q94 hroom94
                 have hr94 := Kd.F_mid (lo := ((ji59) : Int).toNat) (hi := ((wrap64 (384 * (wrap64 (x15_3 + 1)))) : Int).toNat) (c := co95) hC94 (by omega) (by omega) hroom94
                 obtain ⟨A94, hA94⟩ : ∃ A1, A1 = (if co95 = ((ji59) : Int).toNat then Ao95 else (Ao95 : Option Addr).map (·.add (((ji59) : Int).toNat * 1))) := ⟨_, rfl⟩
                 obtain ⟨c94, hc94⟩ : ∃ c1, c1 = co95 - ((ji59) : Int).toNat := ⟨_, rfl⟩
                 have hy94 : y538.length = ((wrap64 (384 * (wrap64 (x15_3 + 1)))) : Int).toNat - ((ji59) : Int).toNat := (by rw [Ny538.out, List.length_drop, List.length_take] <;> omega)
                 rw [show ((t492).take ((wrap64 (384 * (wrap64 (x15_3 + 1)))) : Int).toNat).drop ((ji59) : Int).toNat = y538 from Ny538.out.symm] at hr94
                 replace hr94 : Kd.F (Kd.int .u8) _ _ A94 y538.length y538 := (by rw [hA94]; exact hr94)
                 rw [← hy94, ← hA94, ← hc94] at hcut94
                 have HO542 := Aside0.mk (show Kd.V (Kd.int .u8) 5 _ w.heap.size _ (.slice A94 y538.length c94) y538 from Kd.V_mk (by rw [hy94, hc94]; exact Nat.sub_le_sub_right (Nat.le_trans (by omega) hroom94) _) hr94)
                 have HC542 := Aside0.mk (show y538.length ≤ c94 from by rw [hy94, hc94]; exact Nat.sub_le_sub_right (Nat.le_trans (by omega) hroom94) _)
                 clear hr94 hC94 hroom94 hi094 hsz94 hc94
                 have KY94 := Aside0.mk hy94
                 have KA94 := Aside0.mk hA94
                 clear hy94 hA94
                 replace q94 := eq_true q94
                 obtain ⟨Ao97, co97, eo97⟩ := Kd.R_slice HO_7.out
                 (first | subst eo97 | (injection eo97 with f1_ f2_ f3_; have f4_ := f1_.symm; have f5_ := f3_.symm; clear f1_ f2_ f3_; subst f4_; subst f5_))
                 have q96 : ((wrap64 (384 * (wrap64 (x15_3 + 1)))) : Int) ≤ ((t495.length : Int) : Int) := of_decide_eq_true Aq
                 obtain ⟨i096, hi096, _, hsz96, _⟩ := info_parts info5
                 have hroom96 : t495.length ≤ co97 := (Kd.R_reads' HO_7.out).2.1
                 have hC96 : Kd.F (Kd.int .u8) _ _ Ao97 t495.length t495 := (Kd.V_at (base := w.heap.size) (Kd.R_V (Kd.R_types (HO_7.out) BK507.out (by decide)))).2.2
                 have ql96 : ((ji59) : Int) ≤ ((wrap64 (384 * (wrap64 (x15_3 + 1)))) : Int) := of_decide_eq_true Aq
                 have q096 : (0 : Int) ≤ ((ji59) : Int) := of_decide_eq_true Aq
                 have hcut96 := cut_mid (P := Tryd.prog) 22 5 .i64 .i64 Tryd.underlying22 hi096 1 hsz96 Ao97 t495.length co97 (ji59) (wrap64 (384 * (wrap64 (x15_3 + 1)))) q096 ql96 q96 hroom96
                 have hr96 := Kd.F_mid (lo := ((ji59) : Int).toNat) (hi := ((wrap64 (384 * (wrap64 (x15_3 + 1)))) : Int).toNat) (c := co97) hC96 (by omega) (by omega) hroom96
                 obtain ⟨A96, hA96⟩ : ∃ A1, A1 = (if co97 = ((ji59) : Int).toNat then Ao97 else (Ao97 : Option Addr).map (·.add (((ji59) : Int).toNat * 1))) := ⟨_, rfl⟩
                 obtain ⟨c96, hc96⟩ : ∃ c1, c1 = co97 - ((ji59) : Int).toNat := ⟨_, rfl⟩
                 have hy96 : y546.length = ((wrap64 (384 * (wrap64 (x15_3 + 1)))) : Int).toNat - ((ji59) : Int).toNat := (by rw [Ny546.out, List.length_drop, List.length_take] <;> omega)
                 rw [show ((t495).take ((wrap64 (384 * (wrap64 (x15_3 + 1)))) : Int).toNat).drop ((ji59) : Int).toNat = y546 from Ny546.out.symm] at hr96
                 replace hr96 : Kd.F (Kd.int .u8) _ _ A96 y546.length y546 := (by rw [hA96]; exact hr96)
                 rw [← hy96, ← hA96, ← hc96] at hcut96
                 have HO550 := Aside0.mk (show Kd.V (Kd.int .u8) 5 _ w.heap.size _ (.slice A96 y546.length c96) y546 from Kd.V_mk (by rw [hy96, hc96]; exact Nat.sub_le_sub_right (Nat.le_trans (by omega) hroom96) _) hr96)
                 have HC550 := Aside0.mk (show y546.length ≤ c96 from by rw [hy96, hc96]; exact Nat.sub_le_sub_right (Nat.le_trans (by omega) hroom96) _)
                 clear hr96 hC96 hroom96 hi096 hsz96 hc96
                 have KY96 := Aside0.mk hy96
                 have KA96 := Aside0.mk hA96
                 clear hy96 hA96
                 replace q96 := eq_true q96
                 refine start_ (n := 18) (S := fun w' => True) (ds := []) (bl 18 0) (by kernel_rfl) rfl rfl trivial (fun hHeld => ?_); refine with_tabW chatelainelaw7_PkeParts.tab16 chatelainelaw7_PkeParts.bits16 (fun HT_ HW_ => ?_)
                 generalize wr.drew = w93 at HO_6 HO_7 BK507 HB HO542 HO550 hHeld ⊢
                 refine pq 0 (some 111) (bl 18 1) ?_
                 refine pq 1 (some 112) (bl 18 3) ?_
                 refine pq 2 (some 113) (bl 18 7) ?_
                 refine pq 3 (some 114) (bl 18 15) ?_
                 refine pq 4 (some 115) (bl 18 31) ?_
                 refine pq 5 (some 116) (bl 18 63) ?_
                 refine pq 6 (some 117) (bl 18 127) ?_
                 refine pq 8 (some 119) (bl 18 383) ?_
                 refine pq 9 (some 120) (bl 18 895) ?_
                 refine pq 10 (some 121) (bl 18 1919) ?_
                 refine pq 11 (some 122) (bl 18 3967) ?_
                 refine pq 12 (some 123) (bl 18 8063) ?_
                 refine pq 13 (some 124) (bl 18 16255) ?_
                 refine pq 14 (some 125) (bl 18 32639) ?_
                 refine one_ (i := 7) (N := some 118) (bl 18 32767) rfl rfl (one_of HT_.out (by kernel_rfl)) (by decide) (fun K hK => ?_)
                 refine goes_ Tryd.func16 (by kernel_rfl) rfl #[.int .i64 12, .slice A94 y538.length c94] (by rfl) rfl rfl (by (try simp only [List.map_toArray, List.map_cons, List.map_nil]); first | done | rfl | (simp only [List.length_drop, List.length_take]; rfl) | (simp only [hy94]; rfl)) ?_
                 with_reducible refine (bits_Unpack.calls k3 12 _ _ y538 t543 _ ?side1 ?side2 A63.out).mono ?_
                 (case side1 => repeat (first | exact (Kd.V_reads' HO542.out).2.2 | (with_reducible refine Kd.C_alloc ?_ _) | (with_reducible refine Kd.C_drewN ?_ _) | (with_reducible refine Kd.C_drew ?_)))
                 (case side2 => exact (Kd.V_reads' HO542.out).2.1)
                 rintro e w98 ⟨v544, rfl, ho0, hb⟩
                 refine ⟨_, rfl, ?_⟩
                 replace HO_6 := Aside0.mk (Kd.R_below (Wq HO_6) hb)
                 replace HO_7 := Aside0.mk (Kd.R_below (Wq HO_7) hb)
                 replace HO542 := Aside0.mk (Kd.V_elder' (Wq HO542) (Kd.R_base ho0) hb)
                 replace HO550 := Aside0.mk (Kd.V_elder' (Wq HO550) (Kd.R_base ho0) hb)
                 have HO545 := Aside0.mk (Kd.R_lower ho0 (below_size Bq))
                 replace BK507 := Aside0.mk (blk_below (g := gb507) (o := .cells #[.int .i64 t501, .int .i64 t502, .int .i64 t503, .int .i64 t504, .int .i64 t505] 34 (0, 0)) (Kq BK507) hb)
                 replace HB := Aside0.mk (below_step Bq hb)
                 clear hb ho0; (try clear A63)
                 refine hK.out _ _ trivial (fun hHeld => ?_)
                 clear hK K
                 refine norm_ (a' := ?_) ?_ ?_
                 rotate_left
                 ·show Act.put _ (some 118) _ = _
                  simp only [Act.put, List.setIfInBounds_toArray, List.set_cons_zero, List.set_cons_succ, i64_w, i32_w]
                  rfl
                 refine one_ (i := 15) (N := some 126) (bl 18 65535) rfl rfl (one_of HT_.out (by kernel_rfl)) (by decide) (fun K hK => ?_)
                 refine goes_ Tryd.func16 (by kernel_rfl) rfl #[.int .i64 12, .slice A96 y546.length c96] (by rfl) rfl rfl (by (try simp only [List.map_toArray, List.map_cons, List.map_nil]); first | done | rfl | (simp only [List.length_drop, List.length_take]; rfl) | (simp only [hy96]; rfl)) ?_
                 with_reducible refine (bits_Unpack.calls k3 12 _ _ y546 t551 _ ?side1 ?side2 A67.out).mono ?_
                 (case side1 => repeat (first | exact (Kd.V_reads' HO550.out).2.2 | (with_reducible refine Kd.C_alloc ?_ _) | (with_reducible refine Kd.C_drewN ?_ _) | (with_reducible refine Kd.C_drew ?_)))
                 (case side2 => exact (Kd.V_reads' HO550.out).2.1)
                 rintro e w99 ⟨v552, rfl, ho0, hb⟩
                 refine ⟨_, rfl, ?_⟩
                 replace HO_6 := Aside0.mk (Kd.R_below (Wq HO_6) hb)
                 replace HO_7 := Aside0.mk (Kd.R_below (Wq HO_7) hb)
                 replace HO542 := Aside0.mk (Kd.V_elder' (Wq HO542) (Kd.R_base ho0) hb)
                 replace HO550 := Aside0.mk (Kd.V_elder' (Wq HO550) (Kd.R_base ho0) hb)
                 have HO553 := Aside0.mk (Kd.R_lower (Kd.R_new' ho0 (Kd.R_lt (Wq HO545))) (below_size Bq))
                 replace HO545 := Aside0.mk (Kd.R_elder' (Wq HO545) (Kd.R_base ho0) hb)
                 replace BK507 := Aside0.mk (blk_below (g := gb507) (o := .cells #[.int .i64 t501, .int .i64 t502, .int .i64 t503, .int .i64 t504, .int .i64 t505] 34 (0, 0)) (Kq BK507) hb)
                 replace HB := Aside0.mk (below_step Bq hb)
                 clear hb ho0; (try clear A67)
                 refine hK.out _ _ trivial (fun hHeld => ?_)
                 clear hK K
                 refine norm_ (a' := ?_) ?_ ?_
                 rotate_left
                 ·show Act.put _ (some 126) _ = _
                  simp only [Act.put, List.setIfInBounds_toArray, List.set_cons_zero, List.set_cons_succ, i64_w, i32_w]
                  rfl
                 refine pq 16 (some 16) (bl 18 131071) ?_
                 refine pq 17 (some 17) (bl 18 262143) ?_
                 refine done_ (done_of HT_.out (by kernel_rfl)) ?_
                 try go_wp2
                 replace HO_6 := Aside0.mk (Kd.R_drew HO_6.out)
                 replace HO_7 := Aside0.mk (Kd.R_drew HO_7.out)
                 replace HO542 := Aside0.mk (Kd.V_drew HO542.out)
                 replace HO550 := Aside0.mk (Kd.V_drew HO550.out)
                 replace HO545 := Aside0.mk (Kd.R_drew HO545.out)
                 replace HO553 := Aside0.mk (Kd.R_drew HO553.out)
                 replace BK507 := Aside0.mk (blk_drew BK507.out)
                 replace HB := Aside0.mk (below_drew1 HB.out)
                 obtain ⟨Ao101, co101, eo101⟩ := Kd.R_slice HO545.out
                 (first | subst eo101 | (injection eo101 with f1_ f2_ f3_; have f4_ := f1_.symm; have f5_ := f3_.symm; clear f1_ f2_ f3_; subst f4_; subst f5_))
                 refine start_ (n := 21) (S := fun w' => True) (ds := []) (bl 21 0) (by kernel_rfl) rfl rfl trivial (fun hHeld => ?_); refine with_tabW chatelainelaw7_PkeParts.tab17 chatelainelaw7_PkeParts.bits17 (fun HT_ HW_ => ?_)
                 generalize w99.drew = w100 at HO_6 HO_7 HO542 HO550 HO545 HO553 BK507 HB hHeld ⊢
                 refine pq 0 (some 127) (bl 21 1) ?_
                 refine one_ (i := 1) (N := some 128) (bl 21 3) rfl rfl (one_of HT_.out (by kernel_rfl)) (by decide) (fun K hK => ?_)
                 refine goes_ Tryd.func17 (by kernel_rfl) rfl #[.slice Ao101 t543.length co101] (by rfl) rfl rfl Mq ?_
                 with_reducible refine (poly_May.calls k3 _ _ t543 true _ ?side1 ?side2 A68.out).mono ?_
                 (case side1 => repeat (first | exact (Kd.R_reads' HO545.out).2.2 | (with_reducible refine Kd.C_alloc ?_ _) | (with_reducible refine Kd.C_drewN ?_ _) | (with_reducible refine Kd.C_drew ?_)))
                 (case side2 => exact (Kd.R_reads' HO545.out).2.1)
                 rintro e w' ⟨rfl, ⟨nd, rfl⟩⟩
                 refine ⟨_, rfl, ?_⟩
                 obtain ⟨Ao102, co102, eo102⟩ := Kd.R_slice HO553.out
                 (first | subst eo102 | (injection eo102 with f1_ f2_ f3_; have f4_ := f1_.symm; have f5_ := f3_.symm; clear f1_ f2_ f3_; subst f4_; subst f5_))
                 refine hK.out _ _ trivial (fun hHeld => ?_)
                 clear hK K
                 refine norm_ (a' := ?_) ?_ ?_
                 rotate_left
                 ·show Act.put _ (some 128) _ = _
                  simp only [Act.put, List.setIfInBounds_toArray, List.set_cons_zero, List.set_cons_succ, i64_w, i32_w]
                  rfl
                 refine pq 2 (some 129) (bl 21 7) ?_
                 refine pq 3 (some 130) (bl 21 15) ?_
                 refine pq 4 (some 131) (bl 21 31) ?_
                 refine one_ (i := 5) (N := some 132) (bl 21 63) rfl rfl (one_of HT_.out (by kernel_rfl)) (by decide) (fun K hK => ?_)
                 refine goes_ Tryd.func17 (by kernel_rfl) rfl #[.slice Ao102 t551.length co102] (by rfl) rfl rfl Mq ?_
                 with_reducible refine (poly_May.calls k3 _ _ t551 false _ ?side1 ?side2 A70.out).mono ?_
                 (case side1 => repeat (first | exact (Kd.R_reads' HO553.out).2.2 | (with_reducible refine Kd.C_alloc ?_ _) | (with_reducible refine Kd.C_drewN ?_ _) | (with_reducible refine Kd.C_drew ?_)))
                 (case side2 => exact (Kd.R_reads' HO553.out).2.1)
                 rintro e w' ⟨rfl, ⟨nd, rfl⟩⟩
                 refine ⟨_, rfl, ?_⟩
                 refine hK.out _ _ trivial (fun hHeld => ?_)
                 clear hK K
                 refine norm_ (a' := ?_) ?_ ?_
                 rotate_left
                 ·show Act.put _ (some 132) _ = _
                  simp only [Act.put, List.setIfInBounds_toArray, List.set_cons_zero, List.set_cons_succ, i64_w, i32_w]
                  rfl
                 refine pq 6 (some 133) (bl 21 127) ?_
                 refine pq 7 (some 134) (bl 21 255) ?_
                 refine pq 8 (some 135) (bl 21 511) ?_
                 refine pn 9 (some 136) (bl 21 1023) ?_
                 refine pn 10 (some 137) (bl 21 2047) ?_
                 refine pn 11 (some 138) (bl 21 4095) ?_
                 refine pn 12 (some 139) (bl 21 8191) ?_
                 refine pn 13 (some 140) (bl 21 16383) ?_
                 refine pn 14 (some 141) (bl 21 32767) ?_
                 refine pn 15 (some 142) (bl 21 65535) ?_
                 refine pn 16 (some 143) (bl 21 131071) ?_
                 refine pn 17 (some 144) (bl 21 262143) ?_
                 refine pn 18 (some 145) (bl 21 524287) ?_
                 refine pn 19 (some 146) (bl 21 1048575) ?_
                 refine pq 20 (some 147) (bl 21 2097151) ?_
                 refine done_ (done_of HT_.out (by kernel_rfl)) ?_
                 try go_wp2
                 go_ret
                 exact ⟨by first | rfl | (simp [errW_none, errW_some] <;> rfl) | (simp only [← hji59]; first | rfl | (simp [errW_none, errW_some] <;> rfl)) | (simp [*, errW_none, errW_some] <;> rfl), Bq⟩
               ·replace c69 := Bool.eq_false_iff.mpr c69
                subst c69
                rw [if_neg nf] at H
                obtain rfl := Option.some.inj H
                have hcz103_0 : wr.cell? ⟨gb507, 0, none⟩ = some (.int .i64 t501) := (blk_cell BK507.out 0).trans rfl
                have hcz103_1 : wr.cell? ⟨gb507, 1, none⟩ = some (.int .i64 t502) := (blk_cell BK507.out 1).trans rfl
                have hcz103_2 : wr.cell? ⟨gb507, 2, none⟩ = some (.int .i64 t503) := (blk_cell BK507.out 2).trans rfl
                have hcz103_3 : wr.cell? ⟨gb507, 3, none⟩ = some (.int .i64 t504) := (blk_cell BK507.out 3).trans rfl
                have hcz103_4 : wr.cell? ⟨gb507, 4, none⟩ = some (.int .i64 t505) := (blk_cell BK507.out 4).trans rfl
                have hfz103_0 := blk_frozen BK507.out 0
                have hfz103_1 := blk_frozen BK507.out 1
                have hfz103_2 := blk_frozen BK507.out 2
                have hfz103_3 := blk_frozen BK507.out 3
                have hfz103_4 := blk_frozen BK507.out 4
                try go_wp2
                replace HO_6 := Aside0.mk (Kd.R_drew HO_6.out)
                replace HO_7 := Aside0.mk (Kd.R_drew HO_7.out)
                replace BK507 := Aside0.mk (blk_drew BK507.out)
                replace HB := Aside0.mk (below_drew1 HB.out)
                obtain ⟨Ao106, co106, eo106⟩ := Kd.R_slice HO_6.out
                (first | subst eo106 | (injection eo106 with f1_ f2_ f3_; have f4_ := f1_.symm; have f5_ := f3_.symm; clear f1_ f2_ f3_; subst f4_; subst f5_))
                have q105 : ((wrap64 (384 * (wrap64 (x15_3 + 1)))) : Int) ≤ ((t492.length : Int) : Int) := of_decide_eq_true Aq
                obtain ⟨i0105, hi0105, _, hsz105, _⟩ := info_parts info5
                have hroom105 : t492.length ≤ co106 := (Kd.R_reads' HO_6.out).2.1
                have hC105 : Kd.F (Kd.int .u8) _ _ Ao106 t492.length t492 := (Kd.V_at (base := w.heap.size) (Kd.R_V (Kd.R_types (HO_6.out) BK507.out (by decide)))).2.2
                have ql105 : ((ji59) : Int) ≤ ((wrap64 (384 * (wrap64 (x15_3 + 1)))) : Int) := of_decide_eq_true Aq
                have q0105 : (0 : Int) ≤ ((ji59) : Int) := of_decide_eq_true Aq
                have hcut105 := cut_mid (P := Tryd.prog) 22 5 .i64 .i64 Tryd.underlying22 hi0105 1 hsz105 Ao106 t492.length co106 (ji59) (wrap64 (384 * (wrap64 (x15_3 + 1)))) q0105 ql105 q105 hroom105
                have hr105 := Kd.F_mid (lo := ((ji59) : Int).toNat) (hi := ((wrap64 (384 * (wrap64 (x15_3 + 1)))) : Int).toNat) (c := co106) hC105 (by omega) (by omega) hroom105
                obtain ⟨A105, hA105⟩ : ∃ A1, A1 = (if co106 = ((ji59) : Int).toNat then Ao106 else (Ao106 : Option Addr).map (·.add (((ji59) : Int).toNat * 1))) := ⟨_, rfl⟩
                obtain ⟨c105, hc105⟩ : ∃ c1, c1 = co106 - ((ji59) : Int).toNat := ⟨_, rfl⟩
                have hy105 : y538.length = ((wrap64 (384 * (wrap64 (x15_3 + 1)))) : Int).toNat - ((ji59) : Int).toNat := (by rw [Ny538.out, List.length_drop, List.length_take] <;> omega)
                rw [show ((t492).take ((wrap64 (384 * (wrap64 (x15_3 + 1)))) : Int).toNat).drop ((ji59) : Int).toNat = y538 from Ny538.out.symm] at hr105
                replace hr105 : Kd.F (Kd.int .u8) _ _ A105 y538.length y538 := (by rw [hA105]; exact hr105)
                rw [← hy105, ← hA105, ← hc105] at hcut105
                have HO542 := Aside0.mk (show Kd.V (Kd.int .u8) 5 _ w.heap.size _ (.slice A105 y538.length c105) y538 from Kd.V_mk (by rw [hy105, hc105]; exact Nat.sub_le_sub_right (Nat.le_trans (by omega) hroom105) _) hr105)
                have HC542 := Aside0.mk (show y538.length ≤ c105 from by rw [hy105, hc105]; exact Nat.sub_le_sub_right (Nat.le_trans (by omega) hroom105) _)
                clear hr105 hC105 hroom105 hi0105 hsz105 hc105
                have KY105 := Aside0.mk hy105
                have KA105 := Aside0.mk hA105
                clear hy105 hA105
                replace q105 := eq_true q105
                obtain ⟨Ao108, co108, eo108⟩ := Kd.R_slice HO_7.out
                (first | subst eo108 | (injection eo108 with f1_ f2_ f3_; have f4_ := f1_.symm; have f5_ := f3_.symm; clear f1_ f2_ f3_; subst f4_; subst f5_))
                have q107 : ((wrap64 (384 * (wrap64 (x15_3 + 1)))) : Int) ≤ ((t495.length : Int) : Int) := of_decide_eq_true Aq
                obtain ⟨i0107, hi0107, _, hsz107, _⟩ := info_parts info5
                have hroom107 : t495.length ≤ co108 := (Kd.R_reads' HO_7.out).2.1
                have hC107 : Kd.F (Kd.int .u8) _ _ Ao108 t495.length t495 := (Kd.V_at (base := w.heap.size) (Kd.R_V (Kd.R_types (HO_7.out) BK507.out (by decide)))).2.2
                have ql107 : ((ji59) : Int) ≤ ((wrap64 (384 * (wrap64 (x15_3 + 1)))) : Int) := of_decide_eq_true Aq
                have q0107 : (0 : Int) ≤ ((ji59) : Int) := of_decide_eq_true Aq
                have hcut107 := cut_mid (P := Tryd.prog) 22 5 .i64 .i64 Tryd.underlying22 hi0107 1 hsz107 Ao108 t495.length co108 (ji59) (wrap64 (384 * (wrap64 (x15_3 + 1)))) q0107 ql107 q107 hroom107
                have hr107 := Kd.F_mid (lo := ((ji59) : Int).toNat) (hi := ((wrap64 (384 * (wrap64 (x15_3 + 1)))) : Int).toNat) (c := co108) hC107 (by omega) (by omega) hroom107
                obtain ⟨A107, hA107⟩ : ∃ A1, A1 = (if co108 = ((ji59) : Int).toNat then Ao108 else (Ao108 : Option Addr).map (·.add (((ji59) : Int).toNat * 1))) := ⟨_, rfl⟩
                obtain ⟨c107, hc107⟩ : ∃ c1, c1 = co108 - ((ji59) : Int).toNat := ⟨_, rfl⟩
                have hy107 : y546.length = ((wrap64 (384 * (wrap64 (x15_3 + 1)))) : Int).toNat - ((ji59) : Int).toNat := (by rw [Ny546.out, List.length_drop, List.length_take] <;> omega)
                rw [show ((t495).take ((wrap64 (384 * (wrap64 (x15_3 + 1)))) : Int).toNat).drop ((ji59) : Int).toNat = y546 from Ny546.out.symm] at hr107
                replace hr107 : Kd.F (Kd.int .u8) _ _ A107 y546.length y546 := (by rw [hA107]; exact hr107)
                rw [← hy107, ← hA107, ← hc107] at hcut107
                have HO550 := Aside0.mk (show Kd.V (Kd.int .u8) 5 _ w.heap.size _ (.slice A107 y546.length c107) y546 from Kd.V_mk (by rw [hy107, hc107]; exact Nat.sub_le_sub_right (Nat.le_trans (by omega) hroom107) _) hr107)
                have HC550 := Aside0.mk (show y546.length ≤ c107 from by rw [hy107, hc107]; exact Nat.sub_le_sub_right (Nat.le_trans (by omega) hroom107) _)
                clear hr107 hC107 hroom107 hi0107 hsz107 hc107
                have KY107 := Aside0.mk hy107
                have KA107 := Aside0.mk hA107
                clear hy107 hA107
                replace q107 := eq_true q107
                refine start_ (n := 18) (S := fun w' => True) (ds := []) (bl 18 0) (by kernel_rfl) rfl rfl trivial (fun hHeld => ?_); refine with_tabW chatelainelaw7_PkeParts.tab16 chatelainelaw7_PkeParts.bits16 (fun HT_ HW_ => ?_)
                generalize wr.drew = w104 at HO_6 HO_7 BK507 HB HO542 HO550 hHeld ⊢
                refine pq 0 (some 111) (bl 18 1) ?_
                refine pq 1 (some 112) (bl 18 3) ?_
                refine pq 2 (some 113) (bl 18 7) ?_
                refine pq 3 (some 114) (bl 18 15) ?_
                refine pq 4 (some 115) (bl 18 31) ?_
                refine pq 5 (some 116) (bl 18 63) ?_
                refine pq 6 (some 117) (bl 18 127) ?_
                refine pq 8 (some 119) (bl 18 383) ?_
                refine pq 9 (some 120) (bl 18 895) ?_
                refine pq 10 (some 121) (bl 18 1919) ?_
                refine pq 11 (some 122) (bl 18 3967) ?_
                refine pq 12 (some 123) (bl 18 8063) ?_
                refine pq 13 (some 124) (bl 18 16255) ?_
                refine pq 14 (some 125) (bl 18 32639) ?_
                refine one_ (i := 7) (N := some 118) (bl 18 32767) rfl rfl (one_of HT_.out (by kernel_rfl)) (by decide) (fun K hK => ?_)
                refine goes_ Tryd.func16 (by kernel_rfl) rfl #[.int .i64 12, .slice A105 y538.length c105] (by rfl) rfl rfl (by (try simp only [List.map_toArray, List.map_cons, List.map_nil]); first | done | rfl | (simp only [List.length_drop, List.length_take]; rfl) | (simp only [hy105]; rfl)) ?_
                with_reducible refine (bits_Unpack.calls k3 12 _ _ y538 t543 _ ?side1 ?side2 A63.out).mono ?_
                (case side1 => repeat (first | exact (Kd.V_reads' HO542.out).2.2 | (with_reducible refine Kd.C_alloc ?_ _) | (with_reducible refine Kd.C_drewN ?_ _) | (with_reducible refine Kd.C_drew ?_)))
                (case side2 => exact (Kd.V_reads' HO542.out).2.1)
                rintro e w109 ⟨v544, rfl, ho0, hb⟩
                refine ⟨_, rfl, ?_⟩
                replace HO_6 := Aside0.mk (Kd.R_below (Wq HO_6) hb)
                replace HO_7 := Aside0.mk (Kd.R_below (Wq HO_7) hb)
                replace HO542 := Aside0.mk (Kd.V_elder' (Wq HO542) (Kd.R_base ho0) hb)
                replace HO550 := Aside0.mk (Kd.V_elder' (Wq HO550) (Kd.R_base ho0) hb)
                have HO545 := Aside0.mk (Kd.R_lower ho0 (below_size Bq))
                replace BK507 := Aside0.mk (blk_below (g := gb507) (o := .cells #[.int .i64 t501, .int .i64 t502, .int .i64 t503, .int .i64 t504, .int .i64 t505] 34 (0, 0)) (Kq BK507) hb)
                replace HB := Aside0.mk (below_step Bq hb)
                clear hb ho0; (try clear A63)
                refine hK.out _ _ trivial (fun hHeld => ?_)
                clear hK K
                refine norm_ (a' := ?_) ?_ ?_
                rotate_left
                ·show Act.put _ (some 118) _ = _
                 simp only [Act.put, List.setIfInBounds_toArray, List.set_cons_zero, List.set_cons_succ, i64_w, i32_w]
                 rfl
                refine one_ (i := 15) (N := some 126) (bl 18 65535) rfl rfl (one_of HT_.out (by kernel_rfl)) (by decide) (fun K hK => ?_)
                refine goes_ Tryd.func16 (by kernel_rfl) rfl #[.int .i64 12, .slice A107 y546.length c107] (by rfl) rfl rfl (by (try simp only [List.map_toArray, List.map_cons, List.map_nil]); first | done | rfl | (simp only [List.length_drop, List.length_take]; rfl) | (simp only [hy107]; rfl)) ?_
                with_reducible refine (bits_Unpack.calls k3 12 _ _ y546 t551 _ ?side1 ?side2 A67.out).mono ?_
                (case side1 => repeat (first | exact (Kd.V_reads' HO550.out).2.2 | (with_reducible refine Kd.C_alloc ?_ _) | (with_reducible refine Kd.C_drewN ?_ _) | (with_reducible refine Kd.C_drew ?_)))
                (case side2 => exact (Kd.V_reads' HO550.out).2.1)
                rintro e w110 ⟨v552, rfl, ho0, hb⟩
                refine ⟨_, rfl, ?_⟩
                replace HO_6 := Aside0.mk (Kd.R_below (Wq HO_6) hb)
                replace HO_7 := Aside0.mk (Kd.R_below (Wq HO_7) hb)
                replace HO542 := Aside0.mk (Kd.V_elder' (Wq HO542) (Kd.R_base ho0) hb)
                replace HO550 := Aside0.mk (Kd.V_elder' (Wq HO550) (Kd.R_base ho0) hb)
                have HO553 := Aside0.mk (Kd.R_lower (Kd.R_new' ho0 (Kd.R_lt (Wq HO545))) (below_size Bq))
                replace HO545 := Aside0.mk (Kd.R_elder' (Wq HO545) (Kd.R_base ho0) hb)
                replace BK507 := Aside0.mk (blk_below (g := gb507) (o := .cells #[.int .i64 t501, .int .i64 t502, .int .i64 t503, .int .i64 t504, .int .i64 t505] 34 (0, 0)) (Kq BK507) hb)
                replace HB := Aside0.mk (below_step Bq hb)
                clear hb ho0; (try clear A67)
                refine hK.out _ _ trivial (fun hHeld => ?_)
                clear hK K
                refine norm_ (a' := ?_) ?_ ?_
                rotate_left
                ·show Act.put _ (some 126) _ = _
                 simp only [Act.put, List.setIfInBounds_toArray, List.set_cons_zero, List.set_cons_succ, i64_w, i32_w]
                 rfl
                refine pq 16 (some 16) (bl 18 131071) ?_
                refine pq 17 (some 17) (bl 18 262143) ?_
                refine done_ (done_of HT_.out (by kernel_rfl)) ?_
                try go_wp2
                replace HO_6 := Aside0.mk (Kd.R_drew HO_6.out)
                replace HO_7 := Aside0.mk (Kd.R_drew HO_7.out)
                replace HO542 := Aside0.mk (Kd.V_drew HO542.out)
                replace HO550 := Aside0.mk (Kd.V_drew HO550.out)
                replace HO545 := Aside0.mk (Kd.R_drew HO545.out)
                replace HO553 := Aside0.mk (Kd.R_drew HO553.out)
                replace BK507 := Aside0.mk (blk_drew BK507.out)
                replace HB := Aside0.mk (below_drew1 HB.out)
                obtain ⟨Ao112, co112, eo112⟩ := Kd.R_slice HO545.out
                (first | subst eo112 | (injection eo112 with f1_ f2_ f3_; have f4_ := f1_.symm; have f5_ := f3_.symm; clear f1_ f2_ f3_; subst f4_; subst f5_))
                refine start_ (n := 21) (S := fun w' => True) (ds := []) (bl 21 0) (by kernel_rfl) rfl rfl trivial (fun hHeld => ?_); refine with_tabW chatelainelaw7_PkeParts.tab17 chatelainelaw7_PkeParts.bits17 (fun HT_ HW_ => ?_)
                generalize w110.drew = w111 at HO_6 HO_7 HO542 HO550 HO545 HO553 BK507 HB hHeld ⊢
                refine pq 0 (some 127) (bl 21 1) ?_
                refine one_ (i := 1) (N := some 128) (bl 21 3) rfl rfl (one_of HT_.out (by kernel_rfl)) (by decide) (fun K hK => ?_)
                refine goes_ Tryd.func17 (by kernel_rfl) rfl #[.slice Ao112 t543.length co112] (by rfl) rfl rfl Mq ?_
                with_reducible refine (poly_May.calls k3 _ _ t543 false _ ?side1 ?side2 A68.out).mono ?_
                (case side1 => repeat (first | exact (Kd.R_reads' HO545.out).2.2 | (with_reducible refine Kd.C_alloc ?_ _) | (with_reducible refine Kd.C_drewN ?_ _) | (with_reducible refine Kd.C_drew ?_)))
                (case side2 => exact (Kd.R_reads' HO545.out).2.1)
                rintro e w' ⟨rfl, ⟨nd, rfl⟩⟩
                refine ⟨_, rfl, ?_⟩
                refine hK.out _ _ trivial (fun hHeld => ?_)
                clear hK K
                refine norm_ (a' := ?_) ?_ ?_
                rotate_left
                ·show Act.put _ (some 128) _ = _
                 simp only [Act.put, List.setIfInBounds_toArray, List.set_cons_zero, List.set_cons_succ, i64_w, i32_w]
                 rfl
                refine pq 2 (some 129) (bl 21 7) ?_
                refine pq 3 (some 130) (bl 21 15) ?_
                refine pn 4 (some 131) (bl 21 31) ?_
                refine pn 5 (some 132) (bl 21 63) ?_
                refine pn 6 (some 133) (bl 21 127) ?_
                refine pq 7 (some 134) (bl 21 255) ?_
                refine pq 8 (some 135) (bl 21 511) ?_
                refine pn 9 (some 136) (bl 21 1023) ?_
                refine pn 10 (some 137) (bl 21 2047) ?_
                refine pn 11 (some 138) (bl 21 4095) ?_
                refine pn 12 (some 139) (bl 21 8191) ?_
                refine pn 13 (some 140) (bl 21 16383) ?_
                refine pn 14 (some 141) (bl 21 32767) ?_
                refine pn 15 (some 142) (bl 21 65535) ?_
                refine pn 16 (some 143) (bl 21 131071) ?_
                refine pn 17 (some 144) (bl 21 262143) ?_
                refine pn 18 (some 145) (bl 21 524287) ?_
                refine pn 19 (some 146) (bl 21 1048575) ?_
                refine pq 20 (some 147) (bl 21 2097151) ?_
                refine done_ (done_of HT_.out (by kernel_rfl)) ?_
                try go_wp2
                go_ret
                exact ⟨by first | rfl | (simp [errW_none, errW_some] <;> rfl) | (simp only [← hji59]; first | rfl | (simp [errW_none, errW_some] <;> rfl)) | (simp [*, errW_none, errW_some] <;> rfl), Bq⟩
              ·rw [if_neg c66] at H
               exact absurd H (by simp)
             ·rw [if_neg c62] at H
              exact absurd H (by simp)
            ·rw [if_neg c61] at H
             exact absurd H (by simp)
           ·rw [if_neg c60] at H
            exact absurd H (by simp)
          ·rw [if_neg c58] at H
           have c58b0 : decide (x15_3 < t501) = false := decide_eq_false c58
           clear c58
           replace H := Option.bind_eq_some_iff.mp H
           obtain ⟨t531, A1130, H⟩ := H
           try dsimp only at H
           have A113 := Aside0.mk A1130
           clear A1130
           have hcz114_0 : wr.cell? ⟨gb507, 0, none⟩ = some (.int .i64 t501) := (blk_cell BK507.out 0).trans rfl
           have hcz114_1 : wr.cell? ⟨gb507, 1, none⟩ = some (.int .i64 t502) := (blk_cell BK507.out 1).trans rfl
           have hcz114_2 : wr.cell? ⟨gb507, 2, none⟩ = some (.int .i64 t503) := (blk_cell BK507.out 2).trans rfl
           have hcz114_3 : wr.cell? ⟨gb507, 3, none⟩ = some (.int .i64 t504) := (blk_cell BK507.out 3).trans rfl
           have hcz114_4 : wr.cell? ⟨gb507, 4, none⟩ = some (.int .i64 t505) := (blk_cell BK507.out 4).trans rfl
           have hfz114_0 := blk_frozen BK507.out 0
           have hfz114_1 := blk_frozen BK507.out 1
           have hfz114_2 := blk_frozen BK507.out 2
           have hfz114_3 := blk_frozen BK507.out 3
           have hfz114_4 := blk_frozen BK507.out 4
           obtain ⟨Ao115, co115, eo115⟩ := Kd.R_slice HO_6.out
           subst eo115
           repeat (first | (go_big_may; go_says (first | ((with_reducible refine gate_callee (f := 19) rfl ?_); refine goesL_ (some 150) rfl rfl Tryd.func19 (by kernel_rfl) rfl #[.int .i64 (wrap64 (1 + t488)), .slice Ao115 t492.length co115] rfl Mq ?_; (with_reducible refine (pke_May.calls k3 (wrap64 (1 + t488)) _ _ t492 t531 _ ?side1 ?side2 A113.out).mono ?_); (case side1 => repeat (first | exact (Kd.R_reads' HO_6.out).2.2 | (with_reducible refine Kd.C_alloc ?_ _) | (with_reducible refine Kd.C_drewN ?_ _) | (with_reducible refine Kd.C_drew ?_))); (case side2 => exact (Kd.R_reads' HO_6.out).2.1); rintro e w116 ⟨v532, rfl, ho0, hb⟩; refine ⟨_, rfl, ?_⟩; replace HO_6 := Aside0.mk (Kd.R_below (Wq HO_6) hb); replace HO_7 := Aside0.mk (Kd.R_below (Wq HO_7) hb); have HO533 := Aside0.mk (Kd.R_lower ho0 (below_size Bq)); replace BK507 := Aside0.mk (blk_below (g := gb507) (o := .cells #[.int .i64 t501, .int .i64 t502, .int .i64 t503, .int .i64 t504, .int .i64 t505] 34 (0, 0)) (Kq BK507) hb); replace HB := Aside0.mk (below_step Bq hb); clear hb ho0; (try clear A113)))) | go_values | go_skip | go_guarded | ((with_reducible refine own_cond ?_); (first | refine own_condT rfl ?_ | refine own_condF rfl ?_)) | ((with_reducible refine own_ite ?_); (first | rw [own_iteT] | rw [own_iteF])) | ((fail_if_success (with_reducible refine own_ite ?_)); (fail_if_success (with_reducible refine own_cond ?_)); (first | (go_step; (first | (fail_if_success (with_reducible refine own_upon ?_)) | go_step | go_upon); (fail_if_success ((case' isTrue => skip); (case' isFalse => skip)))) | go_upon | ((with_reducible refine own_upon ?_); go_simp) | dsimp only)))
           by_cases c117 : t531.isEmpty = true
           ·rw [if_pos c117] at H
            replace c117 := Aside0.mk c117
            replace H := Option.bind_eq_some_iff.mp H
            obtain ⟨t534, A1180, H⟩ := H
            try dsimp only at H
            have A118 := Aside0.mk A1180
            clear A1180
            obtain rfl := eRow_none HO533.out c117.out
            repeat (first | (go_big_may; go_says (first | (go_at_call 19; (with_reducible refine (pke_May.calls k3 (wrap64 (1 + (Int.tmod (wrap64 (1 + t488)) 3))) _ _ t492 t534 _ ?side1 ?side2 A118.out).mono ?_); (case side1 => repeat (first | exact (Kd.R_reads' HO_6.out).2.2 | (with_reducible refine Kd.C_alloc ?_ _) | (with_reducible refine Kd.C_drewN ?_ _) | (with_reducible refine Kd.C_drew ?_))); (case side2 => exact (Kd.R_reads' HO_6.out).2.1); rintro e w119 ⟨v535, rfl, ho0, hb⟩; replace HO_6 := Aside0.mk (Kd.R_below (Wq HO_6) hb); replace HO_7 := Aside0.mk (Kd.R_below (Wq HO_7) hb); replace HO533 := Aside0.mk (Kd.R_below (Wq HO533) hb); have HO536 := Aside0.mk (Kd.R_lower ho0 (below_size Bq)); replace BK507 := Aside0.mk (blk_below (g := gb507) (o := .cells #[.int .i64 t501, .int .i64 t502, .int .i64 t503, .int .i64 t504, .int .i64 t505] 34 (0, 0)) (Kq BK507) hb); replace HB := Aside0.mk (below_step Bq hb); clear hb ho0; (try clear A118)))) | go_values | go_skip | go_guarded | ((with_reducible refine own_cond ?_); (first | refine own_condT rfl ?_ | refine own_condF rfl ?_)) | ((with_reducible refine own_ite ?_); (first | rw [own_iteT] | rw [own_iteF])) | ((fail_if_success (with_reducible refine own_ite ?_)); (fail_if_success (with_reducible refine own_cond ?_)); (first | (go_step; (first | (fail_if_success (with_reducible refine own_upon ?_)) | go_step | go_upon); (fail_if_success ((case' isTrue => skip); (case' isFalse => skip)))) | go_upon | ((with_reducible refine own_upon ?_); go_simp) | dsimp only)))
            by_cases c120 : t534.isEmpty = true
            ·rw [if_pos c120] at H
             replace c120 := Aside0.mk c120
             obtain rfl := Option.some.inj H
             obtain rfl := eRow_none HO536.out c120.out
             go_wp2
             go_ret
             exact ⟨by first | rfl | (simp [errW_none, errW_some] <;> rfl) | (simp [*, errW_none, errW_some] <;> rfl), Bq⟩
            ·rw [if_neg c120] at H
             replace c120 := Aside0.mk c120
             replace H := Option.bind_eq_some_iff.mp H
             obtain ⟨t537, A1210, H⟩ := H
             try dsimp only at H
             have A121 := Aside0.mk A1210
             clear A1210
             obtain rfl := Option.some.inj H
             obtain ⟨gec120, rfl⟩ := eRow_some HO536.out c120.out
             go_wp2_with (first | (go_at_call 10; (with_reducible refine (chatelainelaw7_awake.calls k3  t537 _ ?side1 A121.out).mono ?_); (case side1 => exact pw_cell_below Bq HG.out); rintro e w122 ⟨rfl, hb⟩; replace HO_6 := Aside0.mk (Kd.R_below (Wq HO_6) hb); replace HO_7 := Aside0.mk (Kd.R_below (Wq HO_7) hb); replace HO533 := Aside0.mk (Kd.R_below (Wq HO533) hb); replace HO536 := Aside0.mk (Kd.R_below (Wq HO536) hb); replace BK507 := Aside0.mk (blk_below (g := gb507) (o := .cells #[.int .i64 t501, .int .i64 t502, .int .i64 t503, .int .i64 t504, .int .i64 t505] 34 (0, 0)) (Kq BK507) hb); replace HB := Aside0.mk (below_step Bq hb); clear hb; (try clear A121)))
             go_ret
             exact ⟨by first | rfl | (simp [errW_none, errW_some] <;> rfl) | (simp [*, errW_none, errW_some] <;> rfl), Bq⟩
           ·rw [if_neg c117] at H
            replace c117 := Aside0.mk c117
            obtain rfl := Option.some.inj H
            obtain ⟨gec117, rfl⟩ := eRow_some HO533.out c117.out
            go_wp2
            go_ret
            exact ⟨by first | rfl | (simp [errW_none, errW_some] <;> rfl) | (simp [*, errW_none, errW_some] <;> rfl), Bq⟩

/-- THE ONE PURE STATEMENT of chatelainelaw7_PkeParts: yours. -/
def chatelainelaw7_PkeParts.Pure : Prop := ∀ (a0 : Int) (l1 : List Int), (Lit.int .i64 a0).wf = true → l1.length ≤ maxLen → l1.length * 1 ≤ 140737488351232 → (∀ x ∈ l1, (Lit.int .u8 x).wf = true) → ∃ k, chatelainelaw7_PkeParts.f k a0 l1 = some true
theorem chatelainelaw7_PkeParts.walk (P : chatelainelaw7_PkeParts.Pure) (a0 : Int) (a1 : Option Addr) (len1 cap1 : Nat) (z1 : List Int) (w : World) (w0 : (Lit.int .i64 a0).wf = true) (w1 : (a1 = none ∧ len1 = 0 ∧ cap1 = 0 ∧ z1 = []) ∨ ∃ x, a1 = some x ∧ len1 ≤ cap1 ∧ cap1 ≤ maxLen ∧ z1.length = cap1 ∧ (∀ i, i < z1.length → w.cell? (x.add i) = some (.int .u8 (z1.getD i 0))) ∧ ∀ n ∈ z1, (Lit.int .u8 n).wf = true) (y1 : len1 * 1 ≤ 140737488351232) (hg_ : w.cell? ⟨0, 0, none⟩ = some (.iface 115 (.agg #[.pointer (some ⟨1, 26, none⟩)]))) :
  Calls Tryd.prog 4 #[.int .i64 a0, .slice a1 len1 cap1] w fun e w' => e = .returned (.bool true) ∧ Below w.heap.size w w' := by
 obtain ⟨l1, rfl, hr1, hm1, hw1, hc1⟩ := ReadsInt.ofRowC w1
 obtain ⟨k, h⟩ := P a0 l1 w0 hm1 y1 hw1
 refine (chatelainelaw7_PkeParts.calls k a0 _ _ l1 true w (Kd.C_of_reads (d := (0 : Int)) (h1 := fun _ => rfl) hr1) hc1 hg_ h).mono ?_
 rintro e w' ⟨rfl, hd⟩
 exact ⟨rfl, hd⟩

end Go.Proofs.YtkdfcgihgndnnaaDoor.PPA
end
section
/- What the printed functions of package ring come to: plain numbers. -/
namespace Go.Proofs.YtkdfcgihgndnnaaDoor.PolyB
open Go.RowKit Go.Proofs.YtkdfcgihgndnnaaDoor.PPA Go.Proofs.YtkdfcgihgndnnaaDoorW.PrintWords Go.Proofs.YtkdfcgihgndnnaaDoorW.PrintLast Go.Proofs.YtkdfcgihgndnnaaDoorW.PrintMore

theorem w64 {n : Int} (h0 : -9223372036854775808 ≤ n) (h1 : n ≤ 9223372036854775807) : wrap64 n = n := by unfold wrap64; omega

theorem wrap_i64_small {n : Int} (h0 : 0 ≤ n) (h1 : n ≤ 9223372036854775807) : IntKind.i64.wrap n = n := by
  rw [IntKind.wrap_i64]; omega
theorem and_mask (x : Int) (i : Nat) (hi : i ≤ 62) : Go.bits .and .i64 x (2 ^ i - 1) = x % 2 ^ i := by
  have hp : (0:Int) < 2 ^ i := Int.pow_pos (by decide)
  have hm : ((2:Int) ^ i - 1) = ((2 ^ i - 1 : Nat) : Int) := by
    have := Nat.two_pow_pos i
    rw [Int.natCast_sub this]; simp
  have h64 : (2:Nat) ^ i ≤ 2 ^ 62 := Nat.pow_le_pow_right (by decide) hi
  have hb : Go.bits .and .i64 x (2 ^ i - 1) = IntKind.i64.wrap (((BitVec.ofInt 64 x &&& BitVec.ofInt 64 (2 ^ i - 1)).toNat : Nat) : Int) := rfl
  rw [hb, hm, BitVec.ofInt_natCast, BitVec.toNat_and, BitVec.toNat_ofNat, Nat.mod_eq_of_lt (a := 2 ^ i - 1) (by omega), Nat.and_two_pow_sub_one_eq_mod, BitVec.toNat_ofInt]
  have e1 : ((((x % ((2 ^ 64 : Nat) : Int)).toNat % 2 ^ i : Nat)) : Int) = x % 2 ^ i := by
    have h0 : 0 ≤ x % ((2 ^ 64 : Nat) : Int) := Int.emod_nonneg _ (by decide)
    rw [Int.natCast_emod, Int.toNat_of_nonneg h0]
    have hd : ((2:Int) ^ i) ∣ ((2 ^ 64 : Nat) : Int) := ⟨2 ^ (64 - i), by rw [← Int.pow_add, show i + (64 - i) = 64 by omega]; rfl⟩
    have := Int.emod_emod_of_dvd x hd
    simpa using this
  rw [e1]
  have h1 := Int.emod_nonneg x (show (2:Int) ^ i ≠ 0 by omega)
  have h2 := Int.emod_lt_of_pos x hp
  have h3 : (2:Int) ^ i ≤ 2 ^ 62 := by exact_mod_cast h64
  exact wrap_i64_small h1 (by omega)
theorem tmod3329 (a : Int) : (0 ≤ Int.tmod a 3329 ∧ Int.tmod a 3329 = a % 3329) ∨ (Int.tmod a 3329 < 0 ∧ Int.tmod a 3329 = a % 3329 - 3329 ∧ -3329 < Int.tmod a 3329) := by
  have h := Int.tmod_eq_emod (a := a) (b := 3329)
  have hb := Int.emod_nonneg a (show (3329:Int) ≠ 0 by decide)
  have hl := Int.emod_lt_of_pos a (show (0:Int) < 3329 by decide)
  by_cases hc : 0 ≤ a ∨ (3329:Int) ∣ a
  · rw [if_pos hc] at h; omega
  · rw [if_neg hc] at h
    have h2 : ((Int.natAbs 3329 : Nat) : Int) = 3329 := by decide
    rw [h2] at h
    have h3 : a % 3329 ≠ 0 := fun h0 => hc (.inr (Int.dvd_of_emod_eq_zero h0))
    omega
theorem of_eq (a : Int) : ring_Of.f a = some (a % 3329) := by
  unfold ring_Of.f
  rcases tmod3329 a with ⟨h1, h2⟩ | ⟨h1, h2, h3⟩
  · rw [if_neg (by omega), h2]
  · rw [if_pos h1, w64 (by omega) (by omega)]; congr 1; omega
theorem tmod_pos {a : Int} (h : 0 ≤ a) (n : Int) : Int.tmod a n = a % n := Int.tmod_eq_emod_of_nonneg h
theorem em (a : Int) : 0 ≤ a % 3329 ∧ a % 3329 < 3329 := ⟨Int.emod_nonneg a (by decide), Int.emod_lt_of_pos a (by decide)⟩
theorem mul_bd {a b : Int} (ha : 0 ≤ a ∧ a < 3329) (hb : 0 ≤ b ∧ b < 3329) : 0 ≤ a * b ∧ a * b ≤ 11075584 := by
  refine ⟨Int.mul_nonneg ha.1 hb.1, ?_⟩
  have h1 : a * b ≤ 3328 * b := Int.mul_le_mul_of_nonneg_right (by omega) hb.1
  omega
theorem add_eq (a b : Int) : ring_Add.f a b = some ((a + b) % 3329) := by
  unfold ring_Add.f
  rw [of_eq, of_eq]; simp only [Option.bind_some]
  have h1 := em a; have h2 := em b
  rw [w64 (by omega) (by omega), tmod_pos (by omega)]; congr 1; omega
theorem emod_mul_right' (a b : Int) : a * (b % 3329) % 3329 = a * b % 3329 := by rw [Int.mul_emod, Int.emod_emod_of_dvd _ (Int.dvd_refl _), ← Int.mul_emod]
theorem emod_mul_left' (a b : Int) : a % 3329 * b % 3329 = a * b % 3329 := by rw [Int.mul_emod, Int.emod_emod_of_dvd _ (Int.dvd_refl _), ← Int.mul_emod]
theorem emod_pow (a : Int) (n : Nat) : (a % 3329) ^ n % 3329 = a ^ n % 3329 := by
  induction n with
  | zero => simp
  | succ n ih => rw [Int.pow_succ, Int.pow_succ, Int.mul_emod, ih, Int.emod_emod_of_dvd _ (Int.dvd_refl _), ← Int.mul_emod]
theorem pow_l0 (d : Nat) : ∀ (k : Nat) (a n out : Int), 0 ≤ a → a < 3329 → 0 ≤ out → out < 3329 → 0 ≤ n → n < 2 ^ d → n ≤ 9223372036854775807 → d < k →
    ring_Pow.l0 k a n out = some (out * a ^ n.toNat % 3329) := by
  induction d with
  | zero =>
    intro k a n out h1 h2 h3 h4 h5 h6 h7 hk
    obtain ⟨k, rfl⟩ : ∃ m, k = m + 1 := ⟨k - 1, by omega⟩
    have hn : n = 0 := by simp at h6; omega
    subst hn
    simp only [ring_Pow.l0]
    rw [if_neg (by omega)]
    simp; omega
  | succ d ih =>
    intro k a n out h1 h2 h3 h4 h5 h6 h7 hk
    obtain ⟨k, rfl⟩ : ∃ m, k = m + 1 := ⟨k - 1, by omega⟩
    simp only [ring_Pow.l0]
    by_cases hn : n = 0
    · subst hn; rw [if_neg (by omega)]; simp; omega
    · rw [if_pos (by omega), tmod_pos h5]
      have hm := mul_bd ⟨h1, h2⟩ ⟨h1, h2⟩
      have hm2 := mul_bd ⟨h3, h4⟩ ⟨h1, h2⟩
      rw [w64 (by omega) (by omega), tmod_pos hm.1, Int.tdiv_eq_ediv_of_nonneg h5, w64 (n := n / 2) (by omega) (by omega)]
      have hp : (2:Int) ^ (d + 1) = 2 * 2 ^ d := by rw [Int.pow_succ, Int.mul_comm]
      have e1 := em (a * a); have e2 := em (out * a)
      have key : ∀ o : Int, (o * (a * a % 3329) ^ (n / 2).toNat) % 3329 = (o * a ^ (2 * (n / 2).toNat)) % 3329 := by
        intro o
        rw [Int.pow_mul, show a ^ 2 = a * a by rw [Int.pow_succ, Int.pow_succ]; simp, ← emod_mul_right' o, emod_pow, emod_mul_right']
      by_cases ho : n % 2 = 1
      · rw [if_pos ho, w64 (by omega) (by omega), tmod_pos hm2.1, ih k _ _ _ e1.1 e1.2 e2.1 e2.2 (by omega) (by omega) (by omega) (by omega)]
        congr 1
        rw [key, emod_mul_left', show n.toNat = 2 * (n / 2).toNat + 1 by omega, Int.pow_succ, Int.mul_assoc, Int.mul_comm a]
      · rw [if_neg ho, ih k _ _ _ e1.1 e1.2 h3 h4 (by omega) (by omega) (by omega) (by omega)]
        congr 1
        rw [key, show n.toNat = 2 * (n / 2).toNat by omega]
theorem pow_eq (k : Nat) (a n : Int) (h0 : 0 ≤ n) (h1 : n ≤ 9223372036854775807) (hk : 63 < k) : ring_Pow.f k a n = some (a ^ n.toNat % 3329) := by
  unfold ring_Pow.f
  rw [if_neg (by omega), of_eq]; simp only [Option.bind_some]
  have e := em a
  rw [pow_l0 63 k _ n 1 e.1 e.2 (by decide) (by decide) h0 (by omega) h1 hk, Int.one_mul, emod_pow]
theorem low_eq (a n : Int) (hn : 0 < n) (hn' : n ≤ 9223372036854775807) : chatelainelaw0_Low.f a n = some (IntKind.u64.wrap a % n) ∧ 0 ≤ IntKind.u64.wrap a % n ∧ IntKind.u64.wrap a % n < n := by
  have e : IntKind.u64.wrap n = n := by simp [IntKind.wrap, IntKind.bits, IntKind.signed]; omega
  have e0 : 0 ≤ IntKind.u64.wrap a := by simp [IntKind.wrap, IntKind.bits, IntKind.signed]; omega
  have h1 := Int.emod_nonneg (IntKind.u64.wrap a) (show n ≠ 0 by omega)
  have h2 := Int.emod_lt_of_pos (IntKind.u64.wrap a) hn
  refine ⟨?_, h1, h2⟩
  unfold chatelainelaw0_Low.f
  rw [e, if_neg (by omega), Int.tmod_eq_emod_of_nonneg e0, w64 (by omega) (by omega)]

/-- The seven lowest bits of a number, turned round. -/
def rev7 (a : Int) : Int := 64 * (a % 2) + 32 * (a / 2 % 2) + 16 * (a / 4 % 2) + 8 * (a / 8 % 2) + 4 * (a / 16 % 2) + 2 * (a / 32 % 2) + a / 64 % 2
theorem and1 (x : Int) : Go.bits .and .i64 x 1 = x % 2 := and_mask x 1 (by decide)
theorem rev7_bd (a : Int) : 0 ≤ rev7 a ∧ rev7 a ≤ 127 := by unfold rev7; omega
theorem root_step (k : Nat) (a r i : Int) (hr0 : 0 ≤ r) (hr : r ≤ 1000) (hi : 0 ≤ i) (hi7 : i < 7) :
    ring_Root.l0 (k + 1) a r i = ring_Root.l0 k a (2 * r + shr .i64 a i % 2) (i + 1) := by
  simp only [ring_Root.l0]
  have h2 := Int.emod_nonneg (shr .i64 a i) (show (2:Int) ≠ 0 by decide)
  have h3 := Int.emod_lt_of_pos (shr .i64 a i) (show (0:Int) < 2 by decide)
  rw [if_pos hi7, if_pos hi, and1, w64 (n := 2 * r) (by omega) (by omega), w64 (n := i + 1) (by omega) (by omega), w64 (by omega) (by omega)]
theorem shr_lit (a : Int) (i : Nat) (hi : i ≤ 64) : shr .i64 a (i : Int) = a / 2 ^ i := by
  unfold shr
  rw [Int.toNat_natCast, show IntKind.i64.bits = 64 from rfl, Nat.min_eq_left hi]
theorem root_eq (k : Nat) (a : Int) (hk : 71 < k) : ring_Root.f k a = some (17 ^ (rev7 a).toNat % 3329) := by
  unfold ring_Root.f
  obtain ⟨k, rfl⟩ : ∃ m, k = m + 8 := ⟨k - 8, by omega⟩
  have s0 : shr .i64 a 0 = a := by have := shr_lit a 0 (by decide); simpa using this
  have s1 : shr .i64 a 1 = a / 2 := shr_lit a 1 (by decide)
  have s2 : shr .i64 a 2 = a / 4 := shr_lit a 2 (by decide)
  have s3 : shr .i64 a 3 = a / 8 := shr_lit a 3 (by decide)
  have s4 : shr .i64 a 4 = a / 16 := shr_lit a 4 (by decide)
  have s5 : shr .i64 a 5 = a / 32 := shr_lit a 5 (by decide)
  have s6 : shr .i64 a 6 = a / 64 := shr_lit a 6 (by decide)
  rw [root_step _ _ _ _ (by omega) (by omega) (by omega) (by omega), s0]
  rw [root_step _ _ _ _ (by omega) (by omega) (by omega) (by omega), show (0:Int) + 1 = 1 from rfl, s1]
  rw [root_step _ _ _ _ (by omega) (by omega) (by omega) (by omega), show (1:Int) + 1 = 2 from rfl, s2]
  rw [root_step _ _ _ _ (by omega) (by omega) (by omega) (by omega), show (2:Int) + 1 = 3 from rfl, s3]
  rw [root_step _ _ _ _ (by omega) (by omega) (by omega) (by omega), show (3:Int) + 1 = 4 from rfl, s4]
  rw [root_step _ _ _ _ (by omega) (by omega) (by omega) (by omega), show (4:Int) + 1 = 5 from rfl, s5]
  rw [root_step _ _ _ _ (by omega) (by omega) (by omega) (by omega), show (5:Int) + 1 = 6 from rfl, s6]
  simp only [ring_Root.l0]
  rw [if_neg (by decide)]
  rw [show (2 * (2 * (2 * (2 * (2 * (2 * (2 * 0 + a % 2) + a / 2 % 2) + a / 4 % 2) + a / 8 % 2) + a / 16 % 2) + a / 32 % 2) + a / 64 % 2) = rev7 a by unfold rev7; omega]
  have h := rev7_bd a
  rw [pow_eq k 17 (rev7 a) h.1 (by omega) (by omega)]; rfl
theorem bnd {α β : Type} {o : Option α} {x : α} {f : α → Option β} {r : Option β} (h : o = some x) (k : f x = r) : o.bind f = r := by rw [h]; exact k
theorem ifp {α : Type} {c : Prop} [Decidable c] {a b r : α} (h : c) (k : a = r) : (if c then a else b) = r := by rw [if_pos h]; exact k
theorem ifn {α : Type} {c : Prop} [Decidable c] {a b r : α} (h : ¬ c) (k : b = r) : (if c then a else b) = r := by rw [if_neg h]; exact k
end Go.Proofs.YtkdfcgihgndnnaaDoor.PolyB
end
section
/- Plain mathematics of polys modulo 3329: layers, their closed form, sums. No Go in it. -/
namespace Go.Proofs.YtkdfcgihgndnnaaDoor.Pm

/-! ### congruence modulo 3329 -/
def Cg (a b : Int) : Prop := a % 3329 = b % 3329
theorem Cg.refl (a : Int) : Cg a a := rfl
theorem Cg.of_eq {a b : Int} (h : a = b) : Cg a b := by rw [h]; exact Cg.refl b
theorem Cg.symm {a b : Int} (h : Cg a b) : Cg b a := Eq.symm h
theorem Cg.trans {a b c : Int} (h : Cg a b) (k : Cg b c) : Cg a c := Eq.trans h k
theorem Cg.add {a b c d : Int} (h : Cg a b) (k : Cg c d) : Cg (a + c) (b + d) := by
  unfold Cg at *; omega
theorem Cg.mul {a b c d : Int} (h : Cg a b) (k : Cg c d) : Cg (a * c) (b * d) := by
  unfold Cg at *; rw [Int.mul_emod, h, k, ← Int.mul_emod]
theorem Cg.mul_left {c d : Int} (a : Int) (k : Cg c d) : Cg (a * c) (a * d) := Cg.mul (Cg.refl a) k
/-! ### finite sums -/
def sum (f : Nat → Int) : Nat → Int
  | 0 => 0
  | n + 1 => sum f n + f n
/-! ### the numbers 17 ^ rev7 -/
def rv (i : Nat) : Nat := 64 * (i % 2) + 32 * (i / 2 % 2) + 16 * (i / 4 % 2) + 8 * (i / 8 % 2) + 4 * (i / 16 % 2) + 2 * (i / 32 % 2) + i / 64 % 2
def rtN (i : Nat) : Nat := 17 ^ rv i % 3329
def rt (i : Nat) : Int := (rtN i : Int)
/-- The number of pair i: 17 ^ (2 rev7 i + 1). -/
def zeN (i : Nat) : Nat := 17 ^ (2 * rv i + 1) % 3329
def ze (i : Nat) : Int := (zeN i : Int)
theorem rt_bd (i : Nat) : 0 ≤ rt i ∧ rt i < 3329 := by
  have : rtN i < 3329 := Nat.mod_lt _ (by decide)
  unfold rt; omega
theorem ze_bd (i : Nat) : 0 ≤ ze i ∧ ze i < 3329 := by
  have : zeN i < 3329 := Nat.mod_lt _ (by decide)
  unfold ze; omega
def allN (p : Nat → Bool) : Nat → Bool
  | 0 => true
  | n + 1 => p n && allN p n
/-! ### layers -/
/-- A layer forward: blocks of 2 L, the numbers z b. -/
def fwd (L : Nat) (z : Nat → Int) (f : Nat → Int) (n : Nat) : Int :=
  if n % (2 * L) < L then (f n + z (n / (2 * L)) * f (n + L)) % 3329 else (f (n - L) - z (n / (2 * L)) * f n) % 3329
def bwd (L : Nat) (z : Nat → Int) (f : Nat → Int) (n : Nat) : Int :=
  if n % (2 * L) < L then (f n + f (n + L)) % 3329 else (z (n / (2 * L)) * (f n - f (n - L))) % 3329
theorem fwd_bd (L : Nat) (z f : Nat → Int) (n : Nat) : 0 ≤ fwd L z f n ∧ fwd L z f n < 3329 := by
  unfold fwd; split <;> exact ⟨Int.emod_nonneg _ (by decide), Int.emod_lt_of_pos _ (by decide)⟩
/-- The layers' numbers: forward (L = 128 / i), back. -/
def zf (i : Nat) : Nat → Int := fun b => rt (i + b)
def zb (i : Nat) : Nat → Int := fun b => rt (2 * i - 1 - b)
def ntt (f : Nat → Int) : Nat → Int := fwd 2 (zf 64) (fwd 4 (zf 32) (fwd 8 (zf 16) (fwd 16 (zf 8) (fwd 32 (zf 4) (fwd 64 (zf 2) (fwd 128 (zf 1) f))))))
def inv (f : Nat → Int) : Nat → Int := fun n => bwd 128 (zb 1) (bwd 64 (zb 2) (bwd 32 (zb 4) (bwd 16 (zb 8) (bwd 8 (zb 16) (bwd 4 (zb 32) (bwd 2 (zb 64) f)))))) n * 3303 % 3329

/-! ### the closed form -/
/-- The number of block j behind the layer of length L = 128 / i: j even: z (j / 2); odd: its negative. -/
def cn (i j : Nat) : Int := if j % 2 = 0 then rt (i + j / 2) else - rt (i + j / 2)
/-- What a poly is at a layer: L = 128 / i, 256 = L M. -/
def At (L M : Nat) (c : Nat → Int) (f g : Nat → Int) : Prop := ∀ j t, t < L → j < M → Cg (g (j * L + t)) (sum (fun m => f (t + m * L) * c j ^ m) M)
end Go.Proofs.YtkdfcgihgndnnaaDoor.Pm
end
section
/- What the printed functions of package poly come to: the layers of PolyMath. -/
namespace Go.Proofs.YtkdfcgihgndnnaaDoor.PolyB
open Go.RowKit Go.Proofs.YtkdfcgihgndnnaaDoor.PPA Go.Proofs.YtkdfcgihgndnnaaDoor.Pm Go.Proofs.YtkdfcgihgndnnaaDoorW.PrintWords Go.Proofs.YtkdfcgihgndnnaaDoorW.PrintLast Go.Proofs.YtkdfcgihgndnnaaDoorW.PrintMore

def at_ (x : List Int) (n : Nat) : Int := x.getD n 0
theorem rd_at (x : List Int) (n : Nat) : rd x (n : Int) = at_ x n := by unfold rd at_; rw [Int.toNat_natCast]
theorem at_set (x : List Int) (a n : Nat) (v : Int) (h : a < x.length) : at_ (x.set a v) n = if n = a then v else at_ x n := by
  unfold at_
  rw [List.getD_eq_getElem?_getD, List.getD_eq_getElem?_getD, List.getElem?_set]
  by_cases e : a = n
  · subst e; rw [if_pos rfl, if_pos h, if_pos rfl]; rfl
  · rw [if_neg e, if_neg (fun e' => e e'.symm)]
def Poly (x : List Int) : Prop := x.length = 256 ∧ ∀ n, n < 256 → 0 ≤ at_ x n ∧ at_ x n < 3329
def ofN (f : Nat → Int) : List Int := (List.range 256).map f
theorem ofN_length (f : Nat → Int) : (ofN f).length = 256 := by unfold ofN; rw [List.length_map, List.length_range]
theorem at_ofN (f : Nat → Int) (n : Nat) (h : n < 256) : at_ (ofN f) n = f n := by
  unfold at_ ofN
  rw [List.getD_eq_getElem?_getD, List.getElem?_map, List.getElem?_range h]; rfl
theorem eq_ofN {x : List Int} {f : Nat → Int} (hl : x.length = 256) (h : ∀ n, n < 256 → at_ x n = f n) : x = ofN f := by
  apply List.ext_getElem
  · rw [hl, ofN_length]
  · intro n h1 h2
    have h3 := h n (by omega)
    have h4 := at_ofN f n (by omega)
    unfold at_ at h3 h4
    rw [List.getD_eq_getElem?_getD, List.getElem?_eq_getElem h1] at h3
    rw [List.getD_eq_getElem?_getD, List.getElem?_eq_getElem h2] at h4
    simp only [Option.getD_some] at h3 h4
    rw [h3, h4]
theorem poly_ofN {f : Nat → Int} (h : ∀ n, n < 256 → 0 ≤ f n ∧ f n < 3329) : Poly (ofN f) := ⟨ofN_length f, fun n hn => by rw [at_ofN f n hn]; exact h n hn⟩
/-! ### May, Clone, SameInts -/
theorem index_l0 (x : List Int) (hx : x.length ≤ 1000) : ∀ (m i k : Nat), i + m = x.length → m < k →
    ∃ r, slices_IndexFunc_int_int_at_poly_May_1.l0 k x (x.length : Int) (i : Int) = some r ∧ (0 ≤ r ↔ ∃ n, i ≤ n ∧ n < x.length ∧ ¬ (0 ≤ at_ x n ∧ at_ x n < 3329)) := by
  intro m
  induction m with
  | zero =>
    intro i k h hk
    obtain ⟨k, rfl⟩ : ∃ q, k = q + 1 := ⟨k - 1, by omega⟩
    refine ⟨-1, ?_, ?_⟩
    · simp only [slices_IndexFunc_int_int_at_poly_May_1.l0]; rw [if_neg (by omega)]
    · constructor
      · intro h; omega
      · rintro ⟨n, h1, h2, _⟩; omega
  | succ m ih =>
    intro i k h hk
    obtain ⟨k, rfl⟩ : ∃ q, k = q + 1 := ⟨k - 1, by omega⟩
    by_cases hb : 0 ≤ at_ x i ∧ at_ x i < 3329
    · obtain ⟨r, h1, h2⟩ := ih (i + 1) k (by omega) (by omega)
      refine ⟨r, ?_, h2.trans ?_⟩
      · simp only [slices_IndexFunc_int_int_at_poly_May_1.l0]
        refine ifp (by omega) (ifp (by omega) (ifp (by omega) ?_))
        rw [rd_at]
        refine bnd (x := false) ?_ ?_
        · unfold poly_May_1.f
          rw [if_neg (by omega), decide_eq_false (by omega)]
        · rw [if_neg (by decide), w64 (by omega) (by omega), show (i : Int) + 1 = ((i + 1 : Nat) : Int) by omega]; exact h1
      · constructor
        · rintro ⟨n, q1, q2, q3⟩; exact ⟨n, by omega, q2, q3⟩
        · rintro ⟨n, q1, q2, q3⟩
          refine ⟨n, ?_, q2, q3⟩
          by_cases e : n = i
          · subst e; exact absurd hb q3
          · omega
    · refine ⟨i, ?_, ?_⟩
      · simp only [slices_IndexFunc_int_int_at_poly_May_1.l0]
        refine ifp (by omega) (ifp (by omega) (ifp (by omega) ?_))
        rw [rd_at]
        refine bnd (x := true) ?_ (ifp rfl rfl)
        unfold poly_May_1.f
        by_cases h0 : at_ x i < 0
        · rw [if_pos h0]
        · rw [if_neg h0, decide_eq_true (by omega)]
      · exact ⟨fun _ => ⟨i, by omega, by omega, hb⟩, fun _ => by omega⟩
theorem may_yes (k : Nat) (x : List Int) (h : Poly x) (hk : 300 ≤ k) : poly_May.f k x = some true := by
  obtain ⟨h1, h2⟩ := h
  obtain ⟨r, q1, q2⟩ := index_l0 x (by omega) 256 0 k (by omega) (by omega)
  unfold poly_May.f slices_ContainsFunc_int_int_at_poly_May_1.f slices_IndexFunc_int_int_at_poly_May_1.f
  refine ifp (by omega) (bnd (x := false) (bnd q1 ?_) rfl)
  rw [decide_eq_false]
  intro h
  obtain ⟨n, _, c, d⟩ := q2.mp h
  exact d (h2 n (by omega))
theorem may_no (k : Nat) (x : List Int) (h : ¬ Poly x) (hk : 300 ≤ k) : poly_May.f k x = some false := by
  unfold poly_May.f slices_ContainsFunc_int_int_at_poly_May_1.f slices_IndexFunc_int_int_at_poly_May_1.f
  by_cases hl : x.length = 256
  · obtain ⟨r, q1, q2⟩ := index_l0 x (by omega) 256 0 k (by omega) (by omega)
    refine ifp (by omega) (bnd (x := true) (bnd q1 ?_) rfl)
    rw [decide_eq_true]
    refine q2.mpr ?_
    apply Classical.byContradiction
    intro hc
    refine h ⟨hl, fun n hn => Classical.byContradiction fun hb => hc ⟨n, by omega, by omega, hb⟩⟩
  · exact ifn (by omega) rfl
theorem clone_eq (x : List Int) (h : x.length ≤ 1000) : slices_Clone_int_int.f x = some x := by
  unfold slices_Clone_int_int.f
  refine bnd rfl (ifp ?_ ?_)
  · simp only [List.length_nil]; omega
  · simp
theorem root_rt (k : Nat) (i : Nat) (hk : 71 < k) : ring_Root.f k (i : Int) = some (rt i) := by
  rw [root_eq k _ hk]
  have : rev7 (i : Int) = (rv i : Int) := by unfold rev7 rv; omega
  rw [this, Int.toNat_natCast]
  congr 1

/-! ### Over -/
theorem over_l2 (g F : Nat → Int) (L s : Nat) (z i : Int) (hL : 1 ≤ L) (hs : s + 2 * L ≤ 256) (hz : 0 ≤ z ∧ z < 3329) (hg : ∀ n, n < 256 → 0 ≤ g n ∧ g n < 3329)
    (hF : ∀ t, t < L → F (s + t) = (g (s + t) + z * g (s + t + L)) % 3329 ∧ F (s + t + L) = (g (s + t) - z * g (s + t + L)) % 3329) :
    ∀ (m j k : Nat) (x : List Int), j + m = s + L → s ≤ j → x.length = 256 → (∀ n, n < 256 → at_ x n = if n < j ∨ (s + L ≤ n ∧ n < j + L) then F n else g n) → m < k →
      ∃ x', poly_Over.l2 k x i L s z j = poly_Over.l1 (k - m - 1) x' i L ((s + 2 * L : Nat) : Int) ∧ x'.length = 256 ∧ ∀ n, n < 256 → at_ x' n = if n < s + 2 * L then F n else g n := by
  intro m
  induction m with
  | zero =>
    intro j k x h hj hl hx hk
    obtain ⟨k, rfl⟩ : ∃ q, k = q + 1 := ⟨k - 1, by omega⟩
    refine ⟨x, ?_, hl, fun n hn => ?_⟩
    · simp only [poly_Over.l2]
      rw [w64 (n := (s : Int) + L) (by omega) (by omega), if_neg (by omega), w64 (n := 2 * (L : Int)) (by omega) (by omega), w64 (n := (s : Int) + 2 * L) (by omega) (by omega)]
      simp
    · rw [hx n hn]
      by_cases c : n < s + 2 * L
      · rw [if_pos c, if_pos (by omega)]
      · rw [if_neg c, if_neg (by omega)]
  | succ m ih =>
    intro j k x h hj hl hx hk
    obtain ⟨k, rfl⟩ : ∃ q, k = q + 1 := ⟨k - 1, by omega⟩
    have ha : at_ x j = g j := by rw [hx j (by omega), if_neg (by omega)]
    have hb : at_ x (j + L) = g (j + L) := by rw [hx (j + L) (by omega), if_neg (by omega)]
    have hga := hg j (by omega)
    have hgb := hg (j + L) (by omega)
    have hm := mul_bd hz hgb
    have ht := em (z * g (j + L))
    obtain ⟨F1, F2⟩ := hF (j - s) (by omega)
    rw [show s + (j - s) = j by omega] at F1 F2
    -- the step
    have hstep : poly_Over.l2 (k + 1) x i L s z j = poly_Over.l2 k ((x.set (j + L) (F (j + L))).set j (F j)) i L s z ((j + 1 : Nat) : Int) := by
      simp only [poly_Over.l2]
      rw [w64 (n := (s : Int) + L) (by omega) (by omega), w64 (n := (j : Int) + L) (by omega) (by omega), show (j : Int) + L = ((j + L : Nat) : Int) by omega, rd_at, rd_at, ha, hb]
      refine ifp (by omega) (ifp (by omega) (ifp (by omega) (ifp (by omega) (ifp (by omega) ?_))))
      rw [w64 (n := z * g (j + L)) (by omega) (by omega), tmod_pos hm.1, w64 (n := g j + 3329) (by omega) (by omega), w64 (n := g j + 3329 - z * g (j + L) % 3329) (by omega) (by omega), tmod_pos (a := g j + 3329 - z * g (j + L) % 3329) (by omega), Int.toNat_natCast]
      refine bnd rfl ?_
      have e1 : (g j + 3329 - z * g (j + L) % 3329) % 3329 = F (j + L) := by rw [F2]; omega
      rw [e1, rd_at, at_set x (j + L) j _ (by omega), if_neg (by omega), ha, w64 (n := g j + z * g (j + L) % 3329) (by omega) (by omega), tmod_pos (a := g j + z * g (j + L) % 3329) (by omega), Int.toNat_natCast, w64 (n := (j : Int) + 1) (by omega) (by omega)]
      have e2 : (g j + z * g (j + L) % 3329) % 3329 = F j := by rw [F1]; omega
      rw [e2]; rfl
    obtain ⟨x', h1, h2, h3⟩ := ih (j + 1) k ((x.set (j + L) (F (j + L))).set j (F j)) (by omega) (by omega) (by rw [List.length_set, List.length_set]; exact hl) (fun n hn => by
      rw [at_set _ j n _ (by rw [List.length_set]; omega), at_set x (j + L) n _ (by omega)]
      by_cases c1 : n = j
      · rw [if_pos c1, if_pos (by omega), c1]
      · rw [if_neg c1]
        by_cases c2 : n = j + L
        · rw [if_pos c2, if_pos (by omega), c2]
        · rw [if_neg c2, hx n hn]
          by_cases c3 : n < j ∨ (s + L ≤ n ∧ n < j + L)
          · rw [if_pos c3, if_pos (by omega)]
          · rw [if_neg c3, if_neg (by omega)]) (by omega)
    refine ⟨x', ?_, h2, h3⟩
    rw [hstep, h1, show k - m - 1 = k + 1 - (m + 1) - 1 by omega]
theorem over_l1 (g : Nat → Int) (L i0 : Nat) (hL : 1 ≤ L) (hi : i0 * L = 128) (hg : ∀ n, n < 256 → 0 ≤ g n ∧ g n < 3329)
    (hd : ∀ b t, b < i0 → t < L → (2 * L * b + t) / (2 * L) = b ∧ (2 * L * b + t) % (2 * L) = t ∧ (2 * L * b + t + L) / (2 * L) = b ∧ (2 * L * b + t + L) % (2 * L) = t + L) (hi2 : i0 ≤ 64) :
    ∀ (m b k : Nat) (x : List Int), b + m = i0 → x.length = 256 → (∀ n, n < 256 → at_ x n = if n < 2 * L * b then fwd L (zf i0) g n else g n) → (m + 1) * (L + 2) + 80 < k →
      ∃ x' k', k ≤ k' + (m + 1) * (L + 2) ∧ poly_Over.l1 k x ((i0 + b : Nat) : Int) L ((2 * L * b : Nat) : Int) = poly_Over.l0 k' x' ((2 * i0 : Nat) : Int) (Int.tdiv L 2) ∧ x'.length = 256 ∧ ∀ n, n < 256 → at_ x' n = fwd L (zf i0) g n := by
  intro m
  induction m with
  | zero =>
    intro b k x h hl hx hk
    obtain ⟨k, rfl⟩ : ∃ q, k = q + 1 := ⟨k - 1, by omega⟩
    have hb : b = i0 := by omega
    subst hb
    have h256 : 2 * L * b = 256 := by rw [Nat.mul_comm 2 L, Nat.mul_assoc, Nat.mul_comm L, Nat.mul_assoc, Nat.mul_comm 2, hi]
    have hLb : L ≤ 128 := Nat.le_of_dvd (by decide) ⟨b, by rw [Nat.mul_comm]; exact hi.symm⟩
    refine ⟨x, k, by omega, ?_, hl, fun n hn => by rw [hx n hn, if_pos (by omega)]⟩
    simp only [poly_Over.l1]
    rw [h256, if_neg (by decide), w64 (n := Int.tdiv L 2) (by rw [Int.tdiv_eq_ediv_of_nonneg (by omega)]; omega) (by rw [Int.tdiv_eq_ediv_of_nonneg (by omega)]; omega), show b + b = 2 * b by omega]
  | succ m ih =>
    intro b k x h hl hx hk
    obtain ⟨k, rfl⟩ : ∃ q, k = q + 1 := ⟨k - 1, by omega⟩
    have hbi : b + 1 ≤ i0 := by omega
    have hbl : 2 * L * (b + 1) ≤ 256 := by
      have := Nat.mul_le_mul_left (2 * L) hbi
      have h256 : 2 * L * i0 = 256 := by rw [Nat.mul_comm 2 L, Nat.mul_assoc, Nat.mul_comm L, Nat.mul_assoc, Nat.mul_comm 2, hi]
      omega
    have hs : 2 * L * b + 2 * L ≤ 256 := by rw [Nat.mul_add, Nat.mul_one] at hbl; exact hbl
    have hexp : (m + 1 + 1) * (L + 2) = (m + 1) * (L + 2) + (L + 2) := by rw [Nat.add_mul (m + 1), Nat.one_mul]
    obtain ⟨x1, h1, h2, h3⟩ := over_l2 g (fwd L (zf i0) g) L (2 * L * b) (rt (i0 + b)) ((i0 + (b + 1) : Nat) : Int) hL hs (rt_bd _) hg (fun t ht => by
      obtain ⟨d1, d2, d3, d4⟩ := hd b t (by omega) ht
      constructor
      · unfold fwd; rw [d1, d2, if_pos ht]; rfl
      · unfold fwd; rw [d3, d4, if_neg (by omega), show 2 * L * b + t + L - L = 2 * L * b + t by omega]; rfl) L (2 * L * b) k x (by omega) (by omega) hl (fun n hn => by
      rw [hx n hn]
      by_cases c : n < 2 * L * b
      · rw [if_pos c, if_pos (by omega)]
      · rw [if_neg c, if_neg (by omega)]) (by omega)
    obtain ⟨x2, k2, q0, q1, q2, q3⟩ := ih (b + 1) (k - L - 1) x1 (by omega) h2 (fun n hn => by rw [h3 n hn, Nat.mul_add, Nat.mul_one]) (by omega)
    refine ⟨x2, k2, by omega, ?_, q2, q3⟩
    simp only [poly_Over.l1]
    refine ifp (by omega) (bnd (root_rt k (i0 + b) (by omega)) ?_)
    rw [w64 (n := ((i0 + b : Nat) : Int) + 1) (by omega) (by omega), show ((i0 + b : Nat) : Int) + 1 = ((i0 + (b + 1) : Nat) : Int) by omega]
    rw [h1, show 2 * L * b + 2 * L = 2 * L * (b + 1) by rw [Nat.mul_add, Nat.mul_one]]
    exact q1
theorem over_layer (g : Nat → Int) (L i0 : Nat) (hL : 2 ≤ L) (hi : i0 * L = 128) (hg : ∀ n, n < 256 → 0 ≤ g n ∧ g n < 3329)
    (hd : ∀ b t, b < i0 → t < L → (2 * L * b + t) / (2 * L) = b ∧ (2 * L * b + t) % (2 * L) = t ∧ (2 * L * b + t + L) / (2 * L) = b ∧ (2 * L * b + t + L) % (2 * L) = t + L) (hi2 : i0 ≤ 64)
    (k : Nat) (x : List Int) (hl : x.length = 256) (hx : ∀ n, n < 256 → at_ x n = g n) (hk : 600 < k) :
    ∃ x' k', k ≤ k' + 400 ∧ poly_Over.l0 k x (i0 : Int) L = poly_Over.l0 k' x' ((2 * i0 : Nat) : Int) ((L / 2 : Nat) : Int) ∧ x'.length = 256 ∧ ∀ n, n < 256 → at_ x' n = fwd L (zf i0) g n := by
  obtain ⟨k, rfl⟩ : ∃ q, k = q + 1 := ⟨k - 1, by omega⟩
  have hfuel : (i0 + 1) * (L + 2) ≤ 390 := by
    rw [Nat.add_mul, Nat.mul_add, hi]
    have : L ≤ 128 := Nat.le_of_dvd (by decide) ⟨i0, by rw [Nat.mul_comm]; exact hi.symm⟩
    omega
  obtain ⟨x', k', h0, h1, h2, h3⟩ := over_l1 g L i0 (by omega) hi hg hd hi2 i0 0 k x (by omega) hl (fun n hn => by rw [hx n hn, if_neg (by omega)]) (by omega)
  refine ⟨x', k', by omega, ?_, h2, h3⟩
  simp only [poly_Over.l0]
  refine ifp (by omega) ?_
  rw [Nat.mul_zero, Nat.add_zero] at h1
  rw [show Int.tdiv (L : Int) 2 = ((L / 2 : Nat) : Int) by rw [Int.tdiv_eq_ediv_of_nonneg (by omega)]; omega] at h1
  exact h1
theorem over_eq (k : Nat) (x : List Int) (h : Poly x) (hk : 5000 ≤ k) : poly_Over.f k x = some (ofN (ntt (at_ x))) := by
  unfold poly_Over.f
  refine bnd (may_yes k x h (by omega)) (ifp rfl (bnd (clone_eq x (by rw [h.1]; decide)) ?_))
  obtain ⟨x1, k1, a1, b1, c1, d1⟩ := over_layer (at_ x) 128 1 (by decide) rfl h.2 (fun b t hb ht => by omega) (by decide) k x h.1 (fun _ _ => rfl) (by omega)
  obtain ⟨x2, k2, a2, b2, c2, d2⟩ := over_layer _ 64 2 (by decide) rfl (fun n _ => fwd_bd _ _ _ n) (fun b t hb ht => by omega) (by decide) k1 x1 c1 d1 (by omega)
  obtain ⟨x3, k3, a3, b3, c3, d3⟩ := over_layer _ 32 4 (by decide) rfl (fun n _ => fwd_bd _ _ _ n) (fun b t hb ht => by omega) (by decide) k2 x2 c2 d2 (by omega)
  obtain ⟨x4, k4, a4, b4, c4, d4⟩ := over_layer _ 16 8 (by decide) rfl (fun n _ => fwd_bd _ _ _ n) (fun b t hb ht => by omega) (by decide) k3 x3 c3 d3 (by omega)
  obtain ⟨x5, k5, a5, b5, c5, d5⟩ := over_layer _ 8 16 (by decide) rfl (fun n _ => fwd_bd _ _ _ n) (fun b t hb ht => by omega) (by decide) k4 x4 c4 d4 (by omega)
  obtain ⟨x6, k6, a6, b6, c6, d6⟩ := over_layer _ 4 32 (by decide) rfl (fun n _ => fwd_bd _ _ _ n) (fun b t hb ht => by omega) (by decide) k5 x5 c5 d5 (by omega)
  obtain ⟨x7, k7, a7, b7, c7, d7⟩ := over_layer _ 2 64 (by decide) rfl (fun n _ => fwd_bd _ _ _ n) (fun b t hb ht => by omega) (by decide) k6 x6 c6 d6 (by omega)
  have e : poly_Over.l0 k x 1 128 = poly_Over.l0 k7 x7 128 1 := b1.trans (b2.trans (b3.trans (b4.trans (b5.trans (b6.trans b7)))))
  rw [e]
  obtain ⟨k7, rfl⟩ : ∃ q, k7 = q + 1 := ⟨k7 - 1, by omega⟩
  simp only [poly_Over.l0]
  rw [if_neg (by decide), eq_ofN c7 d7]
  rfl
theorem ntt_bd (f : Nat → Int) (n : Nat) : 0 ≤ ntt f n ∧ ntt f n < 3329 := fwd_bd _ _ _ n

/-! ### Back -/
end Go.Proofs.YtkdfcgihgndnnaaDoor.PolyB
end
section
/- Plain mathematics of polys, second part: back and over, pairs, turns. No Go in it. -/
namespace Go.Proofs.YtkdfcgihgndnnaaDoor.Pm

/-! ### there and back -/
/-- f is c times g, below 256. -/
def Sc (c : Int) (f g : Nat → Int) : Prop := ∀ n, n < 256 → Cg (f n) (c * g n)
/-- What is asked of a layer's length. -/
def Ln (L i : Nat) : Prop := ∀ n, n < 256 → (n % (2 * L) < L → n + L < 256 ∧ (n + L) % (2 * L) = n % (2 * L) + L ∧ (n + L) / (2 * L) = n / (2 * L)) ∧ (¬ n % (2 * L) < L → L ≤ n ∧ (n - L) % (2 * L) < L ∧ (n - L) / (2 * L) = n / (2 * L)) ∧ n / (2 * L) < i
theorem Sc.trans {c d : Int} {f g h : Nat → Int} (a : Sc c f g) (b : Sc d g h) : Sc (c * d) f h := fun n hn => by
  rw [Int.mul_assoc]; exact Cg.trans (a n hn) (Cg.mul_left c (b n hn))
/-! ### pairs -/
/-- The value of the even (b = 0) or odd (b = 1) numbers at the number of pair i. -/
def E (f : Nat → Int) (i b : Nat) : Int := sum (fun m => f (2 * m + b) * ze i ^ m) 128
/-- Times the unknown. -/
def sh (f : Nat → Int) (n : Nat) : Int := if n = 0 then - f 255 else f (n - 1)
/-- Turned by n places (n at most 256). -/
def T (n : Nat) (f : Nat → Int) (j : Nat) : Int := if n ≤ j then f (j - n) else - f (j + 256 - n)
def mono (n : Nat) (i : Nat) : Int := if i = n then 1 else 0
/-- The product, pair by pair, of what is carried over. -/
def tim (f g : Nat → Int) (n : Nat) : Int :=
  if n % 2 = 0 then (f n * g n + f (n + 1) * g (n + 1) % 3329 * ze (n / 2)) % 3329 else (f (n - 1) * g n + f n * g (n - 1)) % 3329
theorem tim_bd (f g : Nat → Int) (n : Nat) : 0 ≤ tim f g n ∧ tim f g n < 3329 := by
  unfold tim; split <;> exact ⟨Int.emod_nonneg _ (by decide), Int.emod_lt_of_pos _ (by decide)⟩
end Go.Proofs.YtkdfcgihgndnnaaDoor.Pm
end
