import Derived.Test.YtkdfcgihgndnnaaDoorPZ0
import Derived.Test.YtkdfcgihgndnnaaDoorPZ2
section
namespace Go.Proofs.YtkdfcgihgndnnaaDoor.PPA
open Go.RowKit Go.Proofs.YtkdfcgihgndnnaaDoorW.PrintWords Go.Proofs.YtkdfcgihgndnnaaDoorW.PrintLast Go.Proofs.YtkdfcgihgndnnaaDoorW.PrintMore Go.Proofs.YtkdfcgihgndnnaaDoorW.PrintZip
attribute [local go_sem] max2_int min2_int max_two min_two max_three min_three max_four min_four   -- for this text's walks alone
set_option linter.unusedVariables false
set_option linter.unusedSimpArgs false

/-! ### poly_each_at_ring_Add: function 48 -/
mutual
def poly_each_at_ring_Add.j0 : Nat → List Int → List Int → Bool → Option (List Int)
 | 0, _, _, _ => none
 | k + 1, x0, x1, x16 => if x16 = true then (some ([] : List Int)) else (if 256 ≤ 35184372088832 then ((some (List.replicate 256 0 : List Int)).bind fun y215 => (poly_each_at_ring_Add.l0 k x0 x1 y215 (y215.length : Int) 0)) else (none))
def poly_each_at_ring_Add.l0 : Nat → List Int → List Int → List Int → Int → Int → Option (List Int)
 | 0, _, _, _, _, _ => none
 | k + 1, x0, x1, x7, x19, x20 => if x20 < x19 then (if 0 ≤ x20 then (if x20 < (x0.length : Int) then (if x20 < (x1.length : Int) then ((ring_Add.f (rd x0 x20) (rd x1 x20)).bind fun t220 => (if x20 < (x7.length : Int) then (poly_each_at_ring_Add.l0 k x0 x1 (x7.set (x20 : Int).toNat t220) x19 (wrap64 (x20 + 1))) else (none))) else (none)) else (none)) else (none)) else (some x7)
end
def poly_each_at_ring_Add.f (k : Nat) (l0 : List Int) (l1 : List Int)  : Option (List Int) := (poly_May.f k l0).bind fun t213 => (if t213 = true then ((poly_May.f k l1).bind fun t214 => (poly_each_at_ring_Add.j0 k l0 l1 (!t214))) else (poly_each_at_ring_Add.j0 k l0 l1 true))
def poly_each_at_ring_Add.T7 : Bool × List (List Nat × List Nat) := (true, [([], []), ([], []), ([], []), ([], []), ([], []), ([3, 4], [3, 4]), ([5], [5]), ([], []), ([], []), ([7, 8], [7, 8]), ([9], [9]), ([2, 6, 10], [2, 6, 10]), ([0, 1, 0, 1, 2, 3, 4, 5, 6, 7, 8, 9, 10, 11], [0, 1]), ([12, 11, 11, 0, 1, 2, 3, 4, 5, 6, 7, 8, 9, 10, 11], [11, 12])])
def poly_each_at_ring_Add.B7 : List Nat := [0, 0, 0, 0, 0, 24, 56, 0, 0, 384, 896, 2044, 4095, 8191]
theorem poly_each_at_ring_Add.tab7 : rtab .any (opsOf Tryd.f48 7) = poly_each_at_ring_Add.T7 := by kernel_rfl
theorem poly_each_at_ring_Add.bits7 : waitsOk poly_each_at_ring_Add.T7.2 poly_each_at_ring_Add.B7 = true := by kernel_rfl
set_option maxHeartbeats 8000000 in
set_option maxRecDepth 100000 in
theorem poly_each_at_ring_Add.calls (k : Nat) (A0 : Option Addr) (c0 : Nat) (l0 : List Int) (A1 : Option Addr) (c1 : Nat) (l1 : List Int)  (r : List Int) (w : World) (hr0 : Kd.C (Kd.int .i64) w A0 l0.length l0) (hc0 : l0.length ≤ c0) (hr1 : Kd.C (Kd.int .i64) w A1 l1.length l1) (hc1 : l1.length ≤ c1) (h : poly_each_at_ring_Add.f k l0 l1 = some r) :
  Calls Tryd.prog 48 #[.slice A0 l0.length c0, .slice A1 l1.length c1, .func (.func 49) #[] #[]] w fun e w' => ∃ v0_ : Value, e = .returned (v0_) ∧ Kd.R (Kd.int .i64) 3 w' w.heap.size (fun _ => True) v0_ r ∧ Below w.heap.size w w' := by
 have HR0 := Aside0.mk hr0
 have HC0 := Aside0.mk hc0
 clear hr0 hc0
 have HR1 := Aside0.mk hr1
 have HC1 := Aside0.mk hc1
 clear hr1 hc1
 have HB := Aside0.mk (Below.refl w.heap.size w)
 have H := h
 unfold poly_each_at_ring_Add.f at H
 clear h
 have HC4 := Aside0.mk H
 clear H
 go_enter Tryd.func48, Tryd.ntmps48
 go_upto_region 1 with (fail)
 go_cut [16] (fun v16 wc => ∃ (kq : Nat) (x16_3 : Bool), v16 = .bool x16_3 ∧ Aside0 (poly_each_at_ring_Add.j0 kq l0 l1 x16_3 = some r) ∧ Aside0 (kq ≤ k) ∧ Aside0 (Below w.heap.size w wc))
 case first =>
  have H := HC4.out
  clear HC4
  replace H := Option.bind_eq_some_iff.mp H
  obtain ⟨t213, A50, H⟩ := H
  try dsimp only at H
  have A5 := Aside0.mk A50
  clear A50
  by_cases c6 : t213 = true
  ·subst c6
   rw [if_pos rfl] at H
   replace H := Option.bind_eq_some_iff.mp H
   obtain ⟨t214, A70, H⟩ := H
   try dsimp only at H
   have A7 := Aside0.mk A70
   clear A70
   have H' := Aside0.mk H
   clear H
   go_wp2_with (first | ((with_reducible refine gate_callee (f := 17) rfl ?_); refine goesL_ (some 10) rfl rfl Tryd.func17 (by kernel_rfl) rfl #[.slice A0 l0.length c0] rfl Mq ?_; (with_reducible refine (poly_May.calls k _ _ l0 true _ ?side1 ?side2 A5.out).mono ?_); (case side1 => exact Cq (Kd.C_below HR0.out HB.out)); (case side2 => exact HC0.out); rintro e w' ⟨rfl, ⟨nd, rfl⟩⟩; refine ⟨_, rfl, ?_⟩) | (go_at_call 17; (with_reducible refine (poly_May.calls k _ _ l1 t214 _ ?side1 ?side2 A7.out).mono ?_); (case side1 => exact Cq (Kd.C_below HR1.out Bq)); (case side2 => exact HC1.out); rintro e w' ⟨rfl, ⟨nd, rfl⟩⟩))
   go_meet
   case rel => exact ⟨_, (!t214), Rq, H', ⟨by first | omega | exact Nat.le_refl _⟩, ⟨Bq⟩⟩
  ·replace c6 := Bool.eq_false_iff.mpr c6
   subst c6
   rw [if_neg nf] at H
   have H' := Aside0.mk H
   clear H
   go_wp2_with (first | ((with_reducible refine gate_callee (f := 17) rfl ?_); refine goesL_ (some 10) rfl rfl Tryd.func17 (by kernel_rfl) rfl #[.slice A0 l0.length c0] rfl Mq ?_; (with_reducible refine (poly_May.calls k _ _ l0 false _ ?side1 ?side2 A5.out).mono ?_); (case side1 => exact Cq (Kd.C_below HR0.out HB.out)); (case side2 => exact HC0.out); rintro e w' ⟨rfl, ⟨nd, rfl⟩⟩; refine ⟨_, rfl, ?_⟩))
   go_meet
   case rel => exact ⟨_, (true), Rq, H', ⟨by first | omega | exact Nat.le_refl _⟩, ⟨Bq⟩⟩
 case rest =>
  clear HC4
  try clear c1
  try clear p2
  try clear c6
  try clear c7
  obtain ⟨kq, x16_3, rfl, HA, HJ3, HB⟩ := hcut
  cases kq with
  | zero => exact absurd HA.out (by simp [poly_each_at_ring_Add.j0])
  | succ kj3 =>
   have H := HA.out
   clear HA
   simp only [poly_each_at_ring_Add.j0] at H
   by_cases c8 : x16_3 = true
   ·subst c8
    rw [if_pos rfl] at H
    obtain rfl := Option.some.inj H
    go_wp2
    go_ret
    exact ⟨_, by first | rfl | (simp [errW_none, errW_some] <;> rfl) | (simp [*, errW_none, errW_some] <;> rfl), by first | exact Kd.R_nil _ _ _ _ _ | exact Kd.N_nil _ _ _ _ _ | exact Kd.V_nil _ _ _ _ _ | exact Kd.Q_nil _ _ _ _ _ | exact Kd.S_nil _ _ _ _ _, Bq⟩
   ·replace c8 := Bool.eq_false_iff.mpr c8
    subst c8
    rw [if_neg nf] at H
    by_cases c9 : 256 ≤ 35184372088832
    ·rw [if_pos c9] at H
     have c9b0 := eq_true c9
     have c9b1 : decide (256 ≤ 35184372088832) = true := decide_eq_true c9
     clear c9
     obtain ⟨y215, Ny215⟩ : ∃ y_ : List Int, Aside0 (y_ = (List.replicate 256 0)) := ⟨_, ⟨rfl⟩⟩
     first | rw [Option.bind_some, ← Ny215.out] at H | rw [← Ny215.out] at H
     have H' := Aside0.mk H
     clear H
     go_wp2_with (first | ((with_reducible refine gate_dst (N := 17) rfl ?_); refine Kd.R_make (Kd.int .i64) _ 3 rfl (N := 17) rfl 40 _ _ rfl 256 rfl rfl Tryd.underlying40 (.int .i64 0) 8 info3 rfl (by decide) (by omega) 0 (ok := fun _ => True) (okp := fun _ => True) rfl (fun _ hk => hk) trivial (by omega) (by omega) (Below.refl _ _) (Nat.le_refl _) ?_; intro v216 w10 ho11 hb hg_ hnew_; clear hg_ hnew_; (first | rw [← Ny215.out] at ho11 | (simp only [Int.reduceToNat] at ho11; rw [← Ny215.out] at ho11)); have HO217 := Aside0.mk (Kd.R_lower ho11 (below_size Bq)); replace HB := Aside0.mk (below_step Bq hb); clear hb ho11; obtain ⟨Ao12, co12, eo12⟩ := Kd.R_slice HO217.out; subst eo12))
     go_loopg [20] kj3 (fun kq v20 w' => ∃ (x7_2 : List Int) (x20_2 : Int), v20 = .int .i64 x20_2 ∧ Aside0 (poly_each_at_ring_Add.l0 kq l0 l1 x7_2 (y215.length : Int) x20_2 = some r) ∧ Aside0 (kq ≤ kj3) ∧ Aside0 (Kd.R (Kd.int .i64) 3 w' w.heap.size (fun _ => True) (.slice Ao12 y215.length co12) x7_2) ∧ Aside0 (Below w.heap.size w w'))
     case atStart => exact ⟨(y215), (0), Rq, H', ⟨Nat.le_refl _⟩, ⟨Wq HO217⟩, ⟨Bq⟩⟩
     case round =>
      clear H'
      try clear c1
      try clear p2
      try clear c6
      try clear c7
      try clear c8
      try clear c9
      try clear c9b0
      try clear c9b1
      try clear p2
      obtain ⟨x7_2, x20_2, rfl, HA, HK2, HO_7, HB⟩ := hrel
      have hl7_2 := (Kd.R_reads' HO_7.out).1
      rw [hl7_2] at HO_7
      (try simp only [hl7_2])
      cases gk with
      | zero => exact absurd HA.out (by simp [poly_each_at_ring_Add.l0])
      | succ k2 =>
       have H := HA.out
       clear HA
       simp only [poly_each_at_ring_Add.l0] at H
       by_cases c13 : x20_2 < (y215.length : Int)
       ·rw [if_pos c13] at H
        have c13b0 : decide (x20_2 < (y215.length : Int)) = true := decide_eq_true c13
        clear c13
        have c13l0 := c13b0
        (try simp only [hl7_2] at c13l0)
        by_cases c14 : 0 ≤ x20_2
        ·rw [if_pos c14] at H
         have c14b0 : decide (0 ≤ x20_2) = true := decide_eq_true c14
         clear c14
         by_cases c15 : x20_2 < (l0.length : Int)
         ·rw [if_pos c15] at H
          have c15b0 : decide (x20_2 < (l0.length : Int)) = true := decide_eq_true c15
          clear c15
          have c15l0 := c15b0
          (try simp only [hl7_2] at c15l0)
          by_cases c16 : x20_2 < (l1.length : Int)
          ·rw [if_pos c16] at H
           have c16b0 : decide (x20_2 < (l1.length : Int)) = true := decide_eq_true c16
           clear c16
           have c16l0 := c16b0
           (try simp only [hl7_2] at c16l0)
           replace H := Option.bind_eq_some_iff.mp H
           obtain ⟨t220, A170, H⟩ := H
           try dsimp only at H
           have A17 := Aside0.mk A170
           clear A170
           by_cases c18 : x20_2 < (x7_2.length : Int)
           ·rw [if_pos c18] at H
            have c18b0 : decide (x20_2 < (x7_2.length : Int)) = true := decide_eq_true c18
            clear c18
            have c18l0 := c18b0
            (try simp only [hl7_2] at c18l0)
            obtain ⟨y221, Ny221⟩ : ∃ y_ : List Int, Aside0 (y_ = (x7_2.set (x20_2 : Int).toNat t220)) := ⟨_, ⟨rfl⟩⟩
            first | rw [Option.bind_some, ← Ny221.out] at H | rw [← Ny221.out] at H
            have H' := Aside0.mk H
            clear H
            try go_wp2
            replace HO_7 := Aside0.mk (Kd.R_drew HO_7.out)
            replace HB := Aside0.mk (below_drew1 HB.out)
            have p218 : 0 ≤ (x20_2 : Int) := of_decide_eq_true Aq
            have q218 : x20_2 < (l0.length : Int) := of_decide_eq_true Aq
            obtain ⟨ad218, e218, hx218_0⟩ := Kd.at_int HR0.out x20_2 p218 q218
            have hw218_0 := hx218_0
            cases e218
            replace hx218_0 := (HB.out.cell (World.block_lt_of_cell? w _ hx218_0)).trans hx218_0
            replace p218 := eq_true p218
            replace q218 := eq_true q218
            have p219 : 0 ≤ (x20_2 : Int) := of_decide_eq_true Aq
            have q219 : x20_2 < (l1.length : Int) := of_decide_eq_true Aq
            obtain ⟨ad219, e219, hx219_0⟩ := Kd.at_int HR1.out x20_2 p219 q219
            have hw219_0 := hx219_0
            cases e219
            replace hx219_0 := (HB.out.cell (World.block_lt_of_cell? w _ hx219_0)).trans hx219_0
            replace p219 := eq_true p219
            replace q219 := eq_true q219
            refine start_ (n := 14) (S := fun w' => w'.cell? (ad218.add (x20_2).toNat) = some (.int .i64 (rd l0 x20_2)) ∧ w'.cell? (ad219.add (x20_2).toNat) = some (.int .i64 (rd l1 x20_2))) (ds := [13]) (bl 14 0) (by kernel_rfl) rfl rfl ⟨((HB.out.cell (World.block_lt_of_cell? w _ hw218_0)).trans hw218_0), ((HB.out.cell (World.block_lt_of_cell? w _ hw219_0)).trans hw219_0)⟩ (fun hHeld => ?_); refine with_tabW poly_each_at_ring_Add.tab7 poly_each_at_ring_Add.bits7 (fun HT_ HW_ => ?_)
            generalize wr.drew = w20 at HO_7 HB hx218_0 hx219_0 hHeld ⊢
            refine pq 0 (some 23) (bl 14 1) ?_
            refine pq 1 (some 24) (bl 14 3) ?_
            refine pq 2 (some 25) (bl 14 7) ?_
            refine pq 3 (some 26) (bl 14 15) ?_
            refine pq 4 (some 27) (bl 14 31) ?_
            refine pq 5 (some 28) (bl 14 63) ?_
            refine pq 7 (some 30) (bl 14 191) ?_
            refine pq 8 (some 31) (bl 14 447) ?_
            refine pq 9 (some 32) (bl 14 959) ?_
            refine tq 6 (some 29) (bl 14 1023) ?_
            refine tq 10 (some 33) (bl 14 2047) ?_
            refine one_ (i := 11) (N := some 34) (bl 14 4095) rfl rfl (one_of HT_.out (by kernel_rfl)) (by decide) (fun K hK => ?_)
            refine own_goesV Tryd.func49 (by kernel_rfl) rfl #[.int .i64 (rd l0 x20_2), .int .i64 (rd l1 x20_2)] (by rfl) rfl rfl (by first | rfl | (simp; done)) Mq ?_
            with_reducible refine (ring_Add.calls (rd l0 x20_2) (rd l1 x20_2) t220 _ A17.out).mono ?_
            rintro e w' ⟨rfl, ⟨nd, rfl⟩⟩
            refine ⟨_, rfl, ?_⟩
            have p19 : 0 ≤ (x20_2 : Int) := of_decide_eq_true Aq
            have q19 : (x20_2 : Int) < ((x7_2.length : Int) : Int) := of_decide_eq_true Aq
            obtain ⟨go19, co19, eo19, gb19, gl19, cl19, HG19⟩ := Kd.R_form HO_7.out (by omega)
            (first | cases eo19 | (injection eo19 with ea_ en_ ec_; (first | subst ea_ | (injection ea_ with ea_; subst ea_)); subst ec_; clear en_))
            have GB19 := Aside0.mk gb19
            have GG19 := Aside0.mk HG19
            clear gb19 gl19 HG19
            obtain ⟨hx19_0, hf19_0⟩ := Kd.R_celln 0 HO_7.out (x20_2 : Int) p19 q19
            replace p19 := eq_true p19
            replace q19 := eq_true q19
            have HP21 := Kd.R_putn HO_7.out (x20_2 : Int) t220
            rw [← Ny221.out] at HP21
            have HQ21 := Aside0.mk HP21
            clear HP21
            refine hK.out _ _ ⟨((HB.out.cell (World.block_lt_of_cell? w _ hw218_0)).trans hw218_0), ((HB.out.cell (World.block_lt_of_cell? w _ hw219_0)).trans hw219_0)⟩ (fun hHeld => ?_)
            clear hK K
            refine norm_ (a' := ?_) ?_ ?_
            rotate_left
            ·show Act.put _ (some 34) _ = _
             simp only [Act.put, List.setIfInBounds_toArray, List.set_cons_zero, List.set_cons_succ, i64_w, i32_w]
             rfl
            refine pq 12 (some 35) (bl 14 8191) ?_
            refine last_ (i := 13) (N := none) (bl 14 16383) rfl rfl (one_of HT_.out (by kernel_rfl)) (by decide) (fun K hK => ?_)
            refine skip_ (w1 := ?_) (by rfl) rfl ?_ ?_
            rotate_left
            ·go_simp
             rfl
            refine hK.out _ _ ?_
            clear hK K
            refine done_ (done_of HT_.out (by kernel_rfl)) ?_
            try go_wp2
            (try simp only [← hl7_2])
            go_roundg k2
            case measure => have := HJ3.out; have := HK2.out; omega
            case rel => exact ⟨(y221), (wrap64 (x20_2 + 1)), Rq, H', ⟨by have := HJ3.out; have := HK2.out; omega⟩, ⟨by (try simp only [hl7_2]); (with_reducible repeat (first | apply Kd.R_alloc | apply Kd.R_drewN | apply Kd.R_drew)); exact HQ21.out⟩, ⟨by repeat (first | (with_reducible first | exact HB.out | apply below_alloc | apply pw_below_drewN | apply below_drew1 | refine below_set ?_ GB19.out) | exact HB.out)⟩⟩
           ·rw [if_neg c18] at H
            exact absurd H (by simp)
          ·rw [if_neg c16] at H
           exact absurd H (by simp)
         ·rw [if_neg c15] at H
          exact absurd H (by simp)
        ·rw [if_neg c14] at H
         exact absurd H (by simp)
       ·rw [if_neg c13] at H
        have c13b0 : decide (x20_2 < (y215.length : Int)) = false := decide_eq_false c13
        clear c13
        have c13l0 := c13b0
        (try simp only [hl7_2] at c13l0)
        obtain rfl := Option.some.inj H
        go_wp2
        go_ret
        exact ⟨_, by first | rfl | (simp [errW_none, errW_some] <;> rfl) | (simp [*, errW_none, errW_some] <;> rfl), Wq HO_7, Bq⟩
    ·rw [if_neg c9] at H
     exact absurd H (by simp)

end Go.Proofs.YtkdfcgihgndnnaaDoor.PPA
end
section
namespace Go.Proofs.YtkdfcgihgndnnaaDoor.PPA
open Go.RowKit Go.Proofs.YtkdfcgihgndnnaaDoorW.PrintWords Go.Proofs.YtkdfcgihgndnnaaDoorW.PrintLast Go.Proofs.YtkdfcgihgndnnaaDoorW.PrintMore Go.Proofs.YtkdfcgihgndnnaaDoorW.PrintZip
attribute [local go_sem] max2_int min2_int max_two min_two max_three min_three max_four min_four   -- for this text's walks alone
set_option linter.unusedVariables false
set_option linter.unusedSimpArgs false

/-! ### poly_Add: function 30 -/
def poly_Add.f (k : Nat) (l0 : List Int) (l1 : List Int) : Option (List Int) := (poly_each_at_ring_Add.f k l0 l1).bind fun t222 => (some t222)
set_option maxHeartbeats 8000000 in
set_option maxRecDepth 100000 in
theorem poly_Add.calls (k : Nat) (A0 : Option Addr) (c0 : Nat) (l0 : List Int) (A1 : Option Addr) (c1 : Nat) (l1 : List Int) (r : List Int) (w : World) (hr0 : Kd.C (Kd.int .i64) w A0 l0.length l0) (hc0 : l0.length ≤ c0) (hr1 : Kd.C (Kd.int .i64) w A1 l1.length l1) (hc1 : l1.length ≤ c1) (h : poly_Add.f k l0 l1 = some r) :
  Calls Tryd.prog 30 #[.slice A0 l0.length c0, .slice A1 l1.length c1] w fun e w' => ∃ v0_ : Value, e = .returned (v0_) ∧ Kd.R (Kd.int .i64) 3 w' w.heap.size (fun _ => True) v0_ r ∧ Below w.heap.size w w' := by
 have HR0 := Aside0.mk hr0
 have HC0 := Aside0.mk hc0
 clear hr0 hc0
 have HR1 := Aside0.mk hr1
 have HC1 := Aside0.mk hc1
 clear hr1 hc1
 have HB := Aside0.mk (Below.refl w.heap.size w)
 have H := h
 unfold poly_Add.f at H
 clear h
 replace H := Option.bind_eq_some_iff.mp H
 obtain ⟨t222, A30, H⟩ := H
 try dsimp only at H
 have A3 := Aside0.mk A30
 clear A30
 obtain rfl := Option.some.inj H
 go_enter Tryd.func30, Tryd.ntmps30
 go_wp2_with (first | ((with_reducible refine gate_callee (f := 48) rfl ?_); refine goesL_ (some 7) rfl rfl Tryd.func48 (by kernel_rfl) rfl #[.slice A0 l0.length c0, .slice A1 l1.length c1, .func (.func 49) #[] #[]] rfl Mq ?_; (with_reducible refine (poly_each_at_ring_Add.calls k _ _ l0 _ _ l1  t222 _ ?side1 ?side2 ?side3 ?side4 A3.out).mono ?_); (case side1 => exact Cq (HR0.out)); (case side2 => exact HC0.out); (case side3 => exact Cq (HR1.out)); (case side4 => exact HC1.out); rintro e w4 ⟨v223, rfl, ho0, hb⟩; refine ⟨_, rfl, ?_⟩; have HO224 := Aside0.mk (Kd.R_lower ho0 (below_size Bq)); replace HB := Aside0.mk (below_step Bq hb); clear hb ho0; (try clear A3)))
 go_ret
 exact ⟨_, by first | rfl | (simp [errW_none, errW_some] <;> rfl) | (simp [*, errW_none, errW_some] <;> rfl), Wq HO224, Bq⟩

end Go.Proofs.YtkdfcgihgndnnaaDoor.PPA
end
section
namespace Go.Proofs.YtkdfcgihgndnnaaDoor.PPA
open Go.RowKit Go.Proofs.YtkdfcgihgndnnaaDoorW.PrintWords Go.Proofs.YtkdfcgihgndnnaaDoorW.PrintLast Go.Proofs.YtkdfcgihgndnnaaDoorW.PrintMore Go.Proofs.YtkdfcgihgndnnaaDoorW.PrintZip
attribute [local go_sem] max2_int min2_int max_two min_two max_three min_three max_four min_four   -- for this text's walks alone
set_option linter.unusedVariables false
set_option linter.unusedSimpArgs false

/-! ### poly_Times: function 50 -/
mutual
def poly_Times.j0 : Nat → List Int → List Int → Bool → Option (List Int)
 | 0, _, _, _ => none
 | k + 1, x0, x1, x20 => if x20 = true then (some ([] : List Int)) else (if 256 ≤ 35184372088832 then (poly_Times.l0 k x0 x1 (List.replicate 256 0) 0) else (none))
def poly_Times.l0 : Nat → List Int → List Int → List Int → Int → Option (List Int)
 | 0, _, _, _, _ => none
 | k + 1, x0, x1, x5, x22 => if x22 < 128 then ((ring_Root.f k x22).bind fun t230 => (if 0 ≤ (wrap64 (2 * x22)) then (if (wrap64 (2 * x22)) < (x0.length : Int) then (if 0 ≤ (wrap64 ((wrap64 (2 * x22)) + 1)) then (if (wrap64 ((wrap64 (2 * x22)) + 1)) < (x0.length : Int) then (if (wrap64 (2 * x22)) < (x1.length : Int) then (if (wrap64 ((wrap64 (2 * x22)) + 1)) < (x1.length : Int) then (if (wrap64 (2 * x22)) < (x5.length : Int) then (if (wrap64 ((wrap64 (2 * x22)) + 1)) < (x5.length : Int) then (poly_Times.l0 k x0 x1 ((x5.set ((wrap64 (2 * x22)) : Int).toNat (Int.tmod (wrap64 ((wrap64 ((rd x0 (wrap64 (2 * x22))) * (rd x1 (wrap64 (2 * x22))))) + (wrap64 ((Int.tmod (wrap64 ((rd x0 (wrap64 ((wrap64 (2 * x22)) + 1))) * (rd x1 (wrap64 ((wrap64 (2 * x22)) + 1))))) 3329) * (Int.tmod (wrap64 ((Int.tmod (wrap64 (17 * t230)) 3329) * t230)) 3329))))) 3329)).set ((wrap64 ((wrap64 (2 * x22)) + 1)) : Int).toNat (Int.tmod (wrap64 ((wrap64 ((rd x0 (wrap64 (2 * x22))) * (rd x1 (wrap64 ((wrap64 (2 * x22)) + 1))))) + (wrap64 ((rd x0 (wrap64 ((wrap64 (2 * x22)) + 1))) * (rd x1 (wrap64 (2 * x22))))))) 3329)) (wrap64 (x22 + 1))) else (none)) else (none)) else (none)) else (none)) else (none)) else (none)) else (none)) else (none))) else (some x5)
end
def poly_Times.f (k : Nat) (l0 : List Int) (l1 : List Int) : Option (List Int) := (poly_May.f k l0).bind fun t225 => (if t225 = true then ((poly_May.f k l1).bind fun t226 => (poly_Times.j0 k l0 l1 (!t226))) else (poly_Times.j0 k l0 l1 true))
set_option maxHeartbeats 8000000 in
set_option maxRecDepth 100000 in
theorem poly_Times.calls (k : Nat) (A0 : Option Addr) (c0 : Nat) (l0 : List Int) (A1 : Option Addr) (c1 : Nat) (l1 : List Int) (r : List Int) (w : World) (hr0 : Kd.C (Kd.int .i64) w A0 l0.length l0) (hc0 : l0.length ≤ c0) (hr1 : Kd.C (Kd.int .i64) w A1 l1.length l1) (hc1 : l1.length ≤ c1) (h : poly_Times.f k l0 l1 = some r) :
  Calls Tryd.prog 50 #[.slice A0 l0.length c0, .slice A1 l1.length c1] w fun e w' => ∃ v0_ : Value, e = .returned (v0_) ∧ Kd.R (Kd.int .i64) 3 w' w.heap.size (fun _ => True) v0_ r ∧ Below w.heap.size w w' := by
 have HR0 := Aside0.mk hr0
 have HC0 := Aside0.mk hc0
 clear hr0 hc0
 have HR1 := Aside0.mk hr1
 have HC1 := Aside0.mk hc1
 clear hr1 hc1
 have HB := Aside0.mk (Below.refl w.heap.size w)
 have H := h
 unfold poly_Times.f at H
 clear h
 have HC3 := Aside0.mk H
 clear H
 go_enter Tryd.func50, Tryd.ntmps50
 go_upto_region 1 with (fail)
 repeat (go_quiet (fail); go_upto_region 1 with (fail))
 go_cut [20] (fun v20 wc => ∃ (kq : Nat) (x20_2 : Bool), v20 = .bool x20_2 ∧ Aside0 (poly_Times.j0 kq l0 l1 x20_2 = some r) ∧ Aside0 (kq ≤ k) ∧ Aside0 (Below w.heap.size w wc))
 case first =>
  have H := HC3.out
  clear HC3
  replace H := Option.bind_eq_some_iff.mp H
  obtain ⟨t225, A40, H⟩ := H
  try dsimp only at H
  have A4 := Aside0.mk A40
  clear A40
  by_cases c5 : t225 = true
  ·subst c5
   rw [if_pos rfl] at H
   replace H := Option.bind_eq_some_iff.mp H
   obtain ⟨t226, A60, H⟩ := H
   try dsimp only at H
   have A6 := Aside0.mk A60
   clear A60
   have H' := Aside0.mk H
   clear H
   go_wp2_with (first | (go_at_call 17; (with_reducible refine (poly_May.calls k _ _ l0 true _ ?side1 ?side2 A4.out).mono ?_); (case side1 => exact Cq (Kd.C_below HR0.out HB.out)); (case side2 => exact HC0.out); rintro e w' ⟨rfl, ⟨nd, rfl⟩⟩; (try first | exact ⟨rfl, _, World.drewN_drewN _ _ _⟩ | exact ⟨rfl, _, Eq.trans (World.drewN_drewN _ _ _) (congrArg (World.drewN _) (Nat.add_assoc _ _ _))⟩)) | (go_at_call 17; (with_reducible refine (poly_May.calls k _ _ l1 t226 _ ?side1 ?side2 A6.out).mono ?_); (case side1 => exact Cq (Kd.C_below HR1.out Bq)); (case side2 => exact HC1.out); rintro e w' ⟨rfl, ⟨nd, rfl⟩⟩; (try first | exact ⟨rfl, _, World.drewN_drewN _ _ _⟩ | exact ⟨rfl, _, Eq.trans (World.drewN_drewN _ _ _) (congrArg (World.drewN _) (Nat.add_assoc _ _ _))⟩)))
   repeat (go_quiet (first | (go_at_call 17; (with_reducible refine (poly_May.calls k _ _ l0 true _ ?side1 ?side2 A4.out).mono ?_); (case side1 => exact Cq (Kd.C_below HR0.out HB.out)); (case side2 => exact HC0.out); rintro e w' ⟨rfl, ⟨nd, rfl⟩⟩; (try first | exact ⟨rfl, _, World.drewN_drewN _ _ _⟩ | exact ⟨rfl, _, Eq.trans (World.drewN_drewN _ _ _) (congrArg (World.drewN _) (Nat.add_assoc _ _ _))⟩)) | (go_at_call 17; (with_reducible refine (poly_May.calls k _ _ l1 t226 _ ?side1 ?side2 A6.out).mono ?_); (case side1 => exact Cq (Kd.C_below HR1.out Bq)); (case side2 => exact HC1.out); rintro e w' ⟨rfl, ⟨nd, rfl⟩⟩; (try first | exact ⟨rfl, _, World.drewN_drewN _ _ _⟩ | exact ⟨rfl, _, Eq.trans (World.drewN_drewN _ _ _) (congrArg (World.drewN _) (Nat.add_assoc _ _ _))⟩))); try go_wp2_with (first | (go_at_call 17; (with_reducible refine (poly_May.calls k _ _ l0 true _ ?side1 ?side2 A4.out).mono ?_); (case side1 => exact Cq (Kd.C_below HR0.out HB.out)); (case side2 => exact HC0.out); rintro e w' ⟨rfl, ⟨nd, rfl⟩⟩; (try first | exact ⟨rfl, _, World.drewN_drewN _ _ _⟩ | exact ⟨rfl, _, Eq.trans (World.drewN_drewN _ _ _) (congrArg (World.drewN _) (Nat.add_assoc _ _ _))⟩)) | (go_at_call 17; (with_reducible refine (poly_May.calls k _ _ l1 t226 _ ?side1 ?side2 A6.out).mono ?_); (case side1 => exact Cq (Kd.C_below HR1.out Bq)); (case side2 => exact HC1.out); rintro e w' ⟨rfl, ⟨nd, rfl⟩⟩; (try first | exact ⟨rfl, _, World.drewN_drewN _ _ _⟩ | exact ⟨rfl, _, Eq.trans (World.drewN_drewN _ _ _) (congrArg (World.drewN _) (Nat.add_assoc _ _ _))⟩))))
   go_meet
   case rel => exact ⟨_, (!t226), Rq, H', ⟨by first | omega | exact Nat.le_refl _⟩, ⟨Bq⟩⟩
  ·replace c5 := Bool.eq_false_iff.mpr c5
   subst c5
   rw [if_neg nf] at H
   have H' := Aside0.mk H
   clear H
   go_wp2_with (first | (go_at_call 17; (with_reducible refine (poly_May.calls k _ _ l0 false _ ?side1 ?side2 A4.out).mono ?_); (case side1 => exact Cq (Kd.C_below HR0.out HB.out)); (case side2 => exact HC0.out); rintro e w' ⟨rfl, ⟨nd, rfl⟩⟩; (try first | exact ⟨rfl, _, World.drewN_drewN _ _ _⟩ | exact ⟨rfl, _, Eq.trans (World.drewN_drewN _ _ _) (congrArg (World.drewN _) (Nat.add_assoc _ _ _))⟩)))
   repeat (go_quiet (first | (go_at_call 17; (with_reducible refine (poly_May.calls k _ _ l0 false _ ?side1 ?side2 A4.out).mono ?_); (case side1 => exact Cq (Kd.C_below HR0.out HB.out)); (case side2 => exact HC0.out); rintro e w' ⟨rfl, ⟨nd, rfl⟩⟩; (try first | exact ⟨rfl, _, World.drewN_drewN _ _ _⟩ | exact ⟨rfl, _, Eq.trans (World.drewN_drewN _ _ _) (congrArg (World.drewN _) (Nat.add_assoc _ _ _))⟩))); try go_wp2_with (first | (go_at_call 17; (with_reducible refine (poly_May.calls k _ _ l0 false _ ?side1 ?side2 A4.out).mono ?_); (case side1 => exact Cq (Kd.C_below HR0.out HB.out)); (case side2 => exact HC0.out); rintro e w' ⟨rfl, ⟨nd, rfl⟩⟩; (try first | exact ⟨rfl, _, World.drewN_drewN _ _ _⟩ | exact ⟨rfl, _, Eq.trans (World.drewN_drewN _ _ _) (congrArg (World.drewN _) (Nat.add_assoc _ _ _))⟩))))
   go_meet
   case rel => exact ⟨_, (true), Rq, H', ⟨by first | omega | exact Nat.le_refl _⟩, ⟨Bq⟩⟩
 case rest =>
  clear HC3
  try clear c1
  try clear p2
  try clear c5
  obtain ⟨kq, x20_2, rfl, HA, HJ2, HB⟩ := hcut
  cases kq with
  | zero => exact absurd HA.out (by simp [poly_Times.j0])
  | succ kj2 =>
   have H := HA.out
   clear HA
   simp only [poly_Times.j0] at H
   by_cases c7 : x20_2 = true
   ·subst c7
    rw [if_pos rfl] at H
    obtain rfl := Option.some.inj H
    go_wp2
    repeat (go_quiet (fail); try go_wp2)
    go_ret
    exact ⟨_, by first | rfl | (simp [errW_none, errW_some] <;> rfl) | (simp [*, errW_none, errW_some] <;> rfl), by first | exact Kd.R_nil _ _ _ _ _ | exact Kd.N_nil _ _ _ _ _ | exact Kd.V_nil _ _ _ _ _ | exact Kd.Q_nil _ _ _ _ _ | exact Kd.S_nil _ _ _ _ _, Bq⟩
   ·replace c7 := Bool.eq_false_iff.mpr c7
    subst c7
    rw [if_neg nf] at H
    by_cases c8 : 256 ≤ 35184372088832
    ·rw [if_pos c8] at H
     have c8b0 := eq_true c8
     have c8b1 : decide (256 ≤ 35184372088832) = true := decide_eq_true c8
     clear c8
     obtain ⟨y227, Ny227⟩ : ∃ y_ : List Int, Aside0 (y_ = (List.replicate 256 0)) := ⟨_, ⟨rfl⟩⟩
     first | rw [Option.bind_some, ← Ny227.out] at H | rw [← Ny227.out] at H
     have H' := Aside0.mk H
     clear H
     go_wp2_with (first | ((with_reducible refine gate_dst (N := 21) rfl ?_); refine Kd.R_make (Kd.int .i64) _ 3 rfl (N := 21) rfl 40 _ _ rfl 256 rfl rfl Tryd.underlying40 (.int .i64 0) 8 info3 rfl (by decide) (by omega) 0 (ok := fun _ => True) (okp := fun _ => True) rfl (fun _ hk => hk) trivial (by omega) (by omega) (Below.refl _ _) (Nat.le_refl _) ?_; intro v228 w9 ho10 hb hg_ hnew_; clear hg_ hnew_; (first | rw [← Ny227.out] at ho10 | (simp only [Int.reduceToNat] at ho10; rw [← Ny227.out] at ho10)); have HO229 := Aside0.mk (Kd.R_lower ho10 (below_size Bq)); replace HB := Aside0.mk (below_step Bq hb); clear hb ho10))
     repeat (go_quiet (first | ((with_reducible refine gate_dst (N := 21) rfl ?_); refine Kd.R_make (Kd.int .i64) _ 3 rfl (N := 21) rfl 40 _ _ rfl 256 rfl rfl Tryd.underlying40 (.int .i64 0) 8 info3 rfl (by decide) (by omega) 0 (ok := fun _ => True) (okp := fun _ => True) rfl (fun _ hk => hk) trivial (by omega) (by omega) (Below.refl _ _) (Nat.le_refl _) ?_; intro v228 w9 ho10 hb hg_ hnew_; clear hg_ hnew_; (first | rw [← Ny227.out] at ho10 | (simp only [Int.reduceToNat] at ho10; rw [← Ny227.out] at ho10)); have HO229 := Aside0.mk (Kd.R_lower ho10 (below_size Bq)); replace HB := Aside0.mk (below_step Bq hb); clear hb ho10)); try go_wp2_with (first | ((with_reducible refine gate_dst (N := 21) rfl ?_); refine Kd.R_make (Kd.int .i64) _ 3 rfl (N := 21) rfl 40 _ _ rfl 256 rfl rfl Tryd.underlying40 (.int .i64 0) 8 info3 rfl (by decide) (by omega) 0 (ok := fun _ => True) (okp := fun _ => True) rfl (fun _ hk => hk) trivial (by omega) (by omega) (Below.refl _ _) (Nat.le_refl _) ?_; intro v228 w9 ho10 hb hg_ hnew_; clear hg_ hnew_; (first | rw [← Ny227.out] at ho10 | (simp only [Int.reduceToNat] at ho10; rw [← Ny227.out] at ho10)); have HO229 := Aside0.mk (Kd.R_lower ho10 (below_size Bq)); replace HB := Aside0.mk (below_step Bq hb); clear hb ho10)))
     go_loopg [22] kj2 (fun kq v22 w' => ∃ (x5_2 : List Int) (x22_2 : Int), v22 = .int .i64 x22_2 ∧ Aside0 (poly_Times.l0 kq l0 l1 x5_2 x22_2 = some r) ∧ Aside0 (kq ≤ kj2) ∧ Aside0 (Kd.R (Kd.int .i64) 3 w' w.heap.size (fun _ => True) v228 x5_2) ∧ Aside0 (Below w.heap.size w w'))
     case atStart => exact ⟨(y227), (0), Rq, H', ⟨Nat.le_refl _⟩, ⟨Wq HO229⟩, ⟨Bq⟩⟩
     case round =>
      clear H'
      try clear c1
      try clear p2
      try clear c5
      try clear c7
      try clear c8
      try clear c8b0
      try clear c8b1
      try clear p2
      obtain ⟨x5_2, x22_2, rfl, HA, HK2, HO_5, HB⟩ := hrel
      cases gk with
      | zero => exact absurd HA.out (by simp [poly_Times.l0])
      | succ k2 =>
       have H := HA.out
       clear HA
       simp only [poly_Times.l0] at H
       by_cases c11 : x22_2 < 128
       ·rw [if_pos c11] at H
        have c11b0 : decide (x22_2 < 128) = true := decide_eq_true c11
        clear c11
        replace H := Option.bind_eq_some_iff.mp H
        obtain ⟨t230, A120, H⟩ := H
        try dsimp only at H
        have A12 := Aside0.mk A120
        clear A120
        obtain ⟨ji13, hji13⟩ : ∃ j_ : Int, (wrap64 (2 * x22_2)) = j_ := ⟨_, rfl⟩
        replace H : (if 0 ≤ (ji13) then (if (ji13) < (l0.length : Int) then (if 0 ≤ (wrap64 ((ji13) + 1)) then (if (wrap64 ((ji13) + 1)) < (l0.length : Int) then (if (ji13) < (l1.length : Int) then (if (wrap64 ((ji13) + 1)) < (l1.length : Int) then (if (ji13) < (x5_2.length : Int) then (if (wrap64 ((ji13) + 1)) < (x5_2.length : Int) then (poly_Times.l0 k2 l0 l1 ((x5_2.set ((ji13) : Int).toNat (Int.tmod (wrap64 ((wrap64 ((rd l0 (ji13)) * (rd l1 (ji13)))) + (wrap64 ((Int.tmod (wrap64 ((rd l0 (wrap64 ((ji13) + 1))) * (rd l1 (wrap64 ((ji13) + 1))))) 3329) * (Int.tmod (wrap64 ((Int.tmod (wrap64 (17 * t230)) 3329) * t230)) 3329))))) 3329)).set ((wrap64 ((ji13) + 1)) : Int).toNat (Int.tmod (wrap64 ((wrap64 ((rd l0 (ji13)) * (rd l1 (wrap64 ((ji13) + 1))))) + (wrap64 ((rd l0 (wrap64 ((ji13) + 1))) * (rd l1 (ji13)))))) 3329)) (wrap64 (x22_2 + 1))) else (none)) else (none)) else (none)) else (none)) else (none)) else (none)) else (none)) else (none)) = some r := by first | (rw [hji13] at H; exact H) | (simp only [hji13] at H ⊢; exact H)
        (try rw [hji13] at A12)
        have hji13w : (IntKind.i64.wrap (2 * x22_2)) = ji13 := (i64_w _).trans hji13
        by_cases c14 : 0 ≤ (ji13)
        ·rw [if_pos c14] at H
         have c14b0 : decide (0 ≤ (ji13)) = true := decide_eq_true c14
         clear c14
         by_cases c15 : (ji13) < (l0.length : Int)
         ·rw [if_pos c15] at H
          have c15b0 : decide ((ji13) < (l0.length : Int)) = true := decide_eq_true c15
          clear c15
          obtain ⟨ji16, hji16⟩ : ∃ j_ : Int, (wrap64 ((ji13) + 1)) = j_ := ⟨_, rfl⟩
          replace H : (if 0 ≤ (ji16) then (if (ji16) < (l0.length : Int) then (if (ji13) < (l1.length : Int) then (if (ji16) < (l1.length : Int) then (if (ji13) < (x5_2.length : Int) then (if (ji16) < (x5_2.length : Int) then (poly_Times.l0 k2 l0 l1 ((x5_2.set ((ji13) : Int).toNat (Int.tmod (wrap64 ((wrap64 ((rd l0 (ji13)) * (rd l1 (ji13)))) + (wrap64 ((Int.tmod (wrap64 ((rd l0 (ji16)) * (rd l1 (ji16)))) 3329) * (Int.tmod (wrap64 ((Int.tmod (wrap64 (17 * t230)) 3329) * t230)) 3329))))) 3329)).set ((ji16) : Int).toNat (Int.tmod (wrap64 ((wrap64 ((rd l0 (ji13)) * (rd l1 (ji16)))) + (wrap64 ((rd l0 (ji16)) * (rd l1 (ji13)))))) 3329)) (wrap64 (x22_2 + 1))) else (none)) else (none)) else (none)) else (none)) else (none)) else (none)) = some r := by first | (rw [hji16] at H; exact H) | (simp only [hji16] at H ⊢; exact H)
          (try rw [hji16] at A12)
          have hji16w : (IntKind.i64.wrap ((ji13) + 1)) = ji16 := (i64_w _).trans hji16
          by_cases c17 : 0 ≤ (ji16)
          ·rw [if_pos c17] at H
           have c17b0 : decide (0 ≤ (ji16)) = true := decide_eq_true c17
           clear c17
           by_cases c18 : (ji16) < (l0.length : Int)
           ·rw [if_pos c18] at H
            have c18b0 : decide ((ji16) < (l0.length : Int)) = true := decide_eq_true c18
            clear c18
            by_cases c19 : (ji13) < (l1.length : Int)
            ·rw [if_pos c19] at H
             have c19b0 : decide ((ji13) < (l1.length : Int)) = true := decide_eq_true c19
             clear c19
             by_cases c20 : (ji16) < (l1.length : Int)
             ·rw [if_pos c20] at H
              have c20b0 : decide ((ji16) < (l1.length : Int)) = true := decide_eq_true c20
              clear c20
              by_cases c21 : (ji13) < (x5_2.length : Int)
              ·rw [if_pos c21] at H
               have c21b0 : decide ((ji13) < (x5_2.length : Int)) = true := decide_eq_true c21
               clear c21
               obtain ⟨y235, Ny235⟩ : ∃ y_ : List Int, Aside0 (y_ = (x5_2.set ((ji13) : Int).toNat (Int.tmod (wrap64 ((wrap64 ((rd l0 (ji13)) * (rd l1 (ji13)))) + (wrap64 ((Int.tmod (wrap64 ((rd l0 (ji16)) * (rd l1 (ji16)))) 3329) * (Int.tmod (wrap64 ((Int.tmod (wrap64 (17 * t230)) 3329) * t230)) 3329))))) 3329))) := ⟨_, ⟨rfl⟩⟩
               first | rw [Option.bind_some, ← Ny235.out] at H | rw [← Ny235.out] at H
               by_cases c23 : (ji16) < (x5_2.length : Int)
               ·rw [if_pos c23] at H
                have c23b0 : decide ((ji16) < (x5_2.length : Int)) = true := decide_eq_true c23
                clear c23
                obtain ⟨y236, Ny236⟩ : ∃ y_ : List Int, Aside0 (y_ = (y235.set ((ji16) : Int).toNat (Int.tmod (wrap64 ((wrap64 ((rd l0 (ji13)) * (rd l1 (ji16)))) + (wrap64 ((rd l0 (ji16)) * (rd l1 (ji13)))))) 3329))) := ⟨_, ⟨rfl⟩⟩
                first | rw [Option.bind_some, ← Ny236.out] at H | rw [← Ny236.out] at H
                have H' := Aside0.mk H
                clear H
                go_wp2_with (first | (go_at_call 66; (with_reducible refine (ring_Root.calls k2 x22_2 t230 _ A12.out).mono ?_); rintro e w' ⟨rfl, ⟨nd, rfl⟩⟩; (try first | exact ⟨rfl, _, World.drewN_drewN _ _ _⟩ | exact ⟨rfl, _, Eq.trans (World.drewN_drewN _ _ _) (congrArg (World.drewN _) (Nat.add_assoc _ _ _))⟩); have p231 : 0 ≤ ((ji13) : Int) := of_decide_eq_true Aq; have q231 : (ji13) < (l0.length : Int) := of_decide_eq_true Aq; obtain ⟨ad231, e231, hx231_0⟩ := Kd.at_int HR0.out (ji13) p231 q231; cases e231; replace hx231_0 := (HB.out.cell (World.block_lt_of_cell? w _ hx231_0)).trans hx231_0; replace p231 := eq_true p231; replace q231 := eq_true q231; have p232 : 0 ≤ ((ji16) : Int) := of_decide_eq_true Aq; have q232 : (ji16) < (l0.length : Int) := of_decide_eq_true Aq; obtain ⟨ad232, e232, hx232_0⟩ := Kd.at_int HR0.out (ji16) p232 q232; obtain rfl : ad231 = ad232 := (by injection e232); replace hx232_0 := (HB.out.cell (World.block_lt_of_cell? w _ hx232_0)).trans hx232_0; replace p232 := eq_true p232; replace q232 := eq_true q232; have p233 : 0 ≤ ((ji13) : Int) := of_decide_eq_true Aq; have q233 : (ji13) < (l1.length : Int) := of_decide_eq_true Aq; obtain ⟨ad233, e233, hx233_0⟩ := Kd.at_int HR1.out (ji13) p233 q233; cases e233; replace hx233_0 := (HB.out.cell (World.block_lt_of_cell? w _ hx233_0)).trans hx233_0; replace p233 := eq_true p233; replace q233 := eq_true q233; have p234 : 0 ≤ ((ji16) : Int) := of_decide_eq_true Aq; have q234 : (ji16) < (l1.length : Int) := of_decide_eq_true Aq; obtain ⟨ad234, e234, hx234_0⟩ := Kd.at_int HR1.out (ji16) p234 q234; obtain rfl : ad233 = ad234 := (by injection e234); replace hx234_0 := (HB.out.cell (World.block_lt_of_cell? w _ hx234_0)).trans hx234_0; replace p234 := eq_true p234; replace q234 := eq_true q234; have p22 : 0 ≤ ((ji13) : Int) := of_decide_eq_true Aq; have q22 : ((ji13) : Int) < ((x5_2.length : Int) : Int) := of_decide_eq_true Aq; obtain ⟨go22, co22, eo22, gb22, gl22, cl22, HG22⟩ := Kd.R_form HO_5.out (by omega); (first | cases eo22 | (injection eo22 with ea_ en_ ec_; (first | subst ea_ | (injection ea_ with ea_; subst ea_)); subst ec_; clear en_)); have GB22 := Aside0.mk gb22; have GG22 := Aside0.mk HG22; clear gb22 gl22 HG22; obtain ⟨hx22_0, hf22_0⟩ := Kd.R_celln 0 HO_5.out ((ji13) : Int) p22 q22; replace p22 := eq_true p22; replace q22 := eq_true q22; obtain ⟨hy25_, hz25_⟩ := Kd.R_celln 0 HO_5.out ((ji13) : Int) (of_decide_eq_true Aq) (of_decide_eq_true Aq); have HP25 := Kd.R_putg HO_5.out ((ji13) : Int) (Int.tmod (wrap64 ((wrap64 ((rd l0 (ji13)) * (rd l1 (ji13)))) + (wrap64 ((Int.tmod (wrap64 ((rd l0 (ji16)) * (rd l1 (ji16)))) 3329) * (Int.tmod (wrap64 ((Int.tmod (wrap64 (17 * t230)) 3329) * t230)) 3329))))) 3329)) | ((with_reducible refine gate_store (t := 3) (p := 69) rfl ?_); (try ((repeat rw [World.drewN_drewN]); rw [drewN_self wr]; generalize hq_ : World.drewN wr _ = wr; have n0_ := Aside0.mk (Kd.R_at hq_ HO_5.out); have n1_ := Aside0.mk (below_at hq_ HB.out); clear hq_ HO_5 HB; have HO_5 := n0_; have HB := n1_; clear n0_ n1_; (try (obtain ⟨hy25_, hz25_⟩ := Kd.R_celln 0 HO_5.out ((ji13) : Int) (of_decide_eq_true Aq) (of_decide_eq_true Aq))); (try (have HP25 := Kd.R_putg HO_5.out ((ji13) : Int) (Int.tmod (wrap64 ((wrap64 ((rd l0 (ji13)) * (rd l1 (ji13)))) + (wrap64 ((Int.tmod (wrap64 ((rd l0 (ji16)) * (rd l1 (ji16)))) 3329) * (Int.tmod (wrap64 ((Int.tmod (wrap64 (17 * t230)) 3329) * t230)) 3329))))) 3329))))); refine store_event (t := 3) (p := 69) (v := ?vo_w26) (w1 := (wr.setCell ⟨go22, ((ji13) : Int).toNat, none⟩ (.int .i64 (Int.tmod (wrap64 ((wrap64 ((rd l0 (ji13)) * (rd l1 (ji13)))) + (wrap64 ((Int.tmod (wrap64 ((rd l0 (ji16)) * (rd l1 (ji16)))) 3329) * (Int.tmod (wrap64 ((Int.tmod (wrap64 (17 * t230)) 3329) * t230)) 3329))))) 3329)))) ?hg ?ho ?hn ?hr ?_; (case ho => rfl); (case hg => rfl); (case hn => rfl); (case hr => first | (go_simp; done) | (go_simp; rfl)); intro w26 hw; have hg : wr.grownBy w26 (some go22) := (by rw [hw]; exact HP25.2); have hp_ : Kd.R (Kd.int .i64) 3 w26 w.heap.size (fun _ => True) (.slice (some ⟨go22, 0, none⟩) x5_2.length co22) y235 := (by rw [hw, Ny235.out]; exact HP25.1); clear HP25; replace HO_5 := Aside0.mk (hp_); replace HB := Aside0.mk ((by rw [hw]; exact below_set (HB.out) GB22.out : Below w.heap.size w w26)); clear hg hw hp_; have p24 : 0 ≤ ((ji16) : Int) := of_decide_eq_true Aq; have q24 : ((ji16) : Int) < ((x5_2.length : Int) : Int) := of_decide_eq_true Aq; obtain ⟨hx24_0, hf24_0⟩ := Kd.R_celln 0 HO_5.out ((ji16) : Int) p24 q24; replace p24 := eq_true p24; replace q24 := eq_true q24; obtain ⟨hy27_, hz27_⟩ := Kd.R_celln 0 HO_5.out ((ji16) : Int) (of_decide_eq_true Aq) (of_decide_eq_true Aq); have HP27 := Kd.R_putg HO_5.out ((ji16) : Int) (Int.tmod (wrap64 ((wrap64 ((rd l0 (ji13)) * (rd l1 (ji16)))) + (wrap64 ((rd l0 (ji16)) * (rd l1 (ji13)))))) 3329)) | ((with_reducible refine gate_store (t := 3) (p := 82) rfl ?_); (try ((repeat rw [World.drewN_drewN]); rw [drewN_self w26]; generalize hq_ : World.drewN w26 _ = w26; have n0_ := Aside0.mk (Kd.R_at hq_ HO_5.out); have n1_ := Aside0.mk (below_at hq_ HB.out); clear hq_ HO_5 HB; have HO_5 := n0_; have HB := n1_; clear n0_ n1_; (try (obtain ⟨hy27_, hz27_⟩ := Kd.R_celln 0 HO_5.out ((ji16) : Int) (of_decide_eq_true Aq) (of_decide_eq_true Aq))); (try (have HP27 := Kd.R_putg HO_5.out ((ji16) : Int) (Int.tmod (wrap64 ((wrap64 ((rd l0 (ji13)) * (rd l1 (ji16)))) + (wrap64 ((rd l0 (ji16)) * (rd l1 (ji13)))))) 3329))))); refine store_event (t := 3) (p := 82) (v := ?vo_w28) (w1 := (w26.setCell ⟨go22, ((ji16) : Int).toNat, none⟩ (.int .i64 (Int.tmod (wrap64 ((wrap64 ((rd l0 (ji13)) * (rd l1 (ji16)))) + (wrap64 ((rd l0 (ji16)) * (rd l1 (ji13)))))) 3329)))) ?hg ?ho ?hn ?hr ?_; (case ho => rfl); (case hg => rfl); (case hn => rfl); (case hr => first | (go_simp; done) | (go_simp; rfl)); intro w28 hw; have hg : w26.grownBy w28 (some go22) := (by rw [hw]; exact HP27.2); have hp_ : Kd.R (Kd.int .i64) 3 w28 w.heap.size (fun _ => True) (.slice (some ⟨go22, 0, none⟩) x5_2.length co22) y236 := (by rw [hw, Ny236.out]; exact HP27.1); clear HP27; replace HO_5 := Aside0.mk (hp_); replace HB := Aside0.mk ((by rw [hw]; exact below_set (HB.out) GB22.out : Below w.heap.size w w28)); clear hg hw hp_))
                repeat (go_quiet (first | (go_at_call 66; (with_reducible refine (ring_Root.calls k2 x22_2 t230 _ A12.out).mono ?_); rintro e w' ⟨rfl, ⟨nd, rfl⟩⟩; (try first | exact ⟨rfl, _, World.drewN_drewN _ _ _⟩ | exact ⟨rfl, _, Eq.trans (World.drewN_drewN _ _ _) (congrArg (World.drewN _) (Nat.add_assoc _ _ _))⟩); have p231 : 0 ≤ ((ji13) : Int) := of_decide_eq_true Aq; have q231 : (ji13) < (l0.length : Int) := of_decide_eq_true Aq; obtain ⟨ad231, e231, hx231_0⟩ := Kd.at_int HR0.out (ji13) p231 q231; cases e231; replace hx231_0 := (HB.out.cell (World.block_lt_of_cell? w _ hx231_0)).trans hx231_0; replace p231 := eq_true p231; replace q231 := eq_true q231; have p232 : 0 ≤ ((ji16) : Int) := of_decide_eq_true Aq; have q232 : (ji16) < (l0.length : Int) := of_decide_eq_true Aq; obtain ⟨ad232, e232, hx232_0⟩ := Kd.at_int HR0.out (ji16) p232 q232; obtain rfl : ad231 = ad232 := (by injection e232); replace hx232_0 := (HB.out.cell (World.block_lt_of_cell? w _ hx232_0)).trans hx232_0; replace p232 := eq_true p232; replace q232 := eq_true q232; have p233 : 0 ≤ ((ji13) : Int) := of_decide_eq_true Aq; have q233 : (ji13) < (l1.length : Int) := of_decide_eq_true Aq; obtain ⟨ad233, e233, hx233_0⟩ := Kd.at_int HR1.out (ji13) p233 q233; cases e233; replace hx233_0 := (HB.out.cell (World.block_lt_of_cell? w _ hx233_0)).trans hx233_0; replace p233 := eq_true p233; replace q233 := eq_true q233; have p234 : 0 ≤ ((ji16) : Int) := of_decide_eq_true Aq; have q234 : (ji16) < (l1.length : Int) := of_decide_eq_true Aq; obtain ⟨ad234, e234, hx234_0⟩ := Kd.at_int HR1.out (ji16) p234 q234; obtain rfl : ad233 = ad234 := (by injection e234); replace hx234_0 := (HB.out.cell (World.block_lt_of_cell? w _ hx234_0)).trans hx234_0; replace p234 := eq_true p234; replace q234 := eq_true q234; have p22 : 0 ≤ ((ji13) : Int) := of_decide_eq_true Aq; have q22 : ((ji13) : Int) < ((x5_2.length : Int) : Int) := of_decide_eq_true Aq; obtain ⟨go22, co22, eo22, gb22, gl22, cl22, HG22⟩ := Kd.R_form HO_5.out (by omega); (first | cases eo22 | (injection eo22 with ea_ en_ ec_; (first | subst ea_ | (injection ea_ with ea_; subst ea_)); subst ec_; clear en_)); have GB22 := Aside0.mk gb22; have GG22 := Aside0.mk HG22; clear gb22 gl22 HG22; obtain ⟨hx22_0, hf22_0⟩ := Kd.R_celln 0 HO_5.out ((ji13) : Int) p22 q22; replace p22 := eq_true p22; replace q22 := eq_true q22; obtain ⟨hy25_, hz25_⟩ := Kd.R_celln 0 HO_5.out ((ji13) : Int) (of_decide_eq_true Aq) (of_decide_eq_true Aq); have HP25 := Kd.R_putg HO_5.out ((ji13) : Int) (Int.tmod (wrap64 ((wrap64 ((rd l0 (ji13)) * (rd l1 (ji13)))) + (wrap64 ((Int.tmod (wrap64 ((rd l0 (ji16)) * (rd l1 (ji16)))) 3329) * (Int.tmod (wrap64 ((Int.tmod (wrap64 (17 * t230)) 3329) * t230)) 3329))))) 3329)) | ((with_reducible refine gate_store (t := 3) (p := 69) rfl ?_); (try ((repeat rw [World.drewN_drewN]); rw [drewN_self wr]; generalize hq_ : World.drewN wr _ = wr; have n0_ := Aside0.mk (Kd.R_at hq_ HO_5.out); have n1_ := Aside0.mk (below_at hq_ HB.out); clear hq_ HO_5 HB; have HO_5 := n0_; have HB := n1_; clear n0_ n1_; (try (obtain ⟨hy25_, hz25_⟩ := Kd.R_celln 0 HO_5.out ((ji13) : Int) (of_decide_eq_true Aq) (of_decide_eq_true Aq))); (try (have HP25 := Kd.R_putg HO_5.out ((ji13) : Int) (Int.tmod (wrap64 ((wrap64 ((rd l0 (ji13)) * (rd l1 (ji13)))) + (wrap64 ((Int.tmod (wrap64 ((rd l0 (ji16)) * (rd l1 (ji16)))) 3329) * (Int.tmod (wrap64 ((Int.tmod (wrap64 (17 * t230)) 3329) * t230)) 3329))))) 3329))))); refine store_event (t := 3) (p := 69) (v := ?vo_w26) (w1 := (wr.setCell ⟨go22, ((ji13) : Int).toNat, none⟩ (.int .i64 (Int.tmod (wrap64 ((wrap64 ((rd l0 (ji13)) * (rd l1 (ji13)))) + (wrap64 ((Int.tmod (wrap64 ((rd l0 (ji16)) * (rd l1 (ji16)))) 3329) * (Int.tmod (wrap64 ((Int.tmod (wrap64 (17 * t230)) 3329) * t230)) 3329))))) 3329)))) ?hg ?ho ?hn ?hr ?_; (case ho => rfl); (case hg => rfl); (case hn => rfl); (case hr => first | (go_simp; done) | (go_simp; rfl)); intro w26 hw; have hg : wr.grownBy w26 (some go22) := (by rw [hw]; exact HP25.2); have hp_ : Kd.R (Kd.int .i64) 3 w26 w.heap.size (fun _ => True) (.slice (some ⟨go22, 0, none⟩) x5_2.length co22) y235 := (by rw [hw, Ny235.out]; exact HP25.1); clear HP25; replace HO_5 := Aside0.mk (hp_); replace HB := Aside0.mk ((by rw [hw]; exact below_set (HB.out) GB22.out : Below w.heap.size w w26)); clear hg hw hp_; have p24 : 0 ≤ ((ji16) : Int) := of_decide_eq_true Aq; have q24 : ((ji16) : Int) < ((x5_2.length : Int) : Int) := of_decide_eq_true Aq; obtain ⟨hx24_0, hf24_0⟩ := Kd.R_celln 0 HO_5.out ((ji16) : Int) p24 q24; replace p24 := eq_true p24; replace q24 := eq_true q24; obtain ⟨hy27_, hz27_⟩ := Kd.R_celln 0 HO_5.out ((ji16) : Int) (of_decide_eq_true Aq) (of_decide_eq_true Aq); have HP27 := Kd.R_putg HO_5.out ((ji16) : Int) (Int.tmod (wrap64 ((wrap64 ((rd l0 (ji13)) * (rd l1 (ji16)))) + (wrap64 ((rd l0 (ji16)) * (rd l1 (ji13)))))) 3329)) | ((with_reducible refine gate_store (t := 3) (p := 82) rfl ?_); (try ((repeat rw [World.drewN_drewN]); rw [drewN_self w26]; generalize hq_ : World.drewN w26 _ = w26; have n0_ := Aside0.mk (Kd.R_at hq_ HO_5.out); have n1_ := Aside0.mk (below_at hq_ HB.out); clear hq_ HO_5 HB; have HO_5 := n0_; have HB := n1_; clear n0_ n1_; (try (obtain ⟨hy27_, hz27_⟩ := Kd.R_celln 0 HO_5.out ((ji16) : Int) (of_decide_eq_true Aq) (of_decide_eq_true Aq))); (try (have HP27 := Kd.R_putg HO_5.out ((ji16) : Int) (Int.tmod (wrap64 ((wrap64 ((rd l0 (ji13)) * (rd l1 (ji16)))) + (wrap64 ((rd l0 (ji16)) * (rd l1 (ji13)))))) 3329))))); refine store_event (t := 3) (p := 82) (v := ?vo_w28) (w1 := (w26.setCell ⟨go22, ((ji16) : Int).toNat, none⟩ (.int .i64 (Int.tmod (wrap64 ((wrap64 ((rd l0 (ji13)) * (rd l1 (ji16)))) + (wrap64 ((rd l0 (ji16)) * (rd l1 (ji13)))))) 3329)))) ?hg ?ho ?hn ?hr ?_; (case ho => rfl); (case hg => rfl); (case hn => rfl); (case hr => first | (go_simp; done) | (go_simp; rfl)); intro w28 hw; have hg : w26.grownBy w28 (some go22) := (by rw [hw]; exact HP27.2); have hp_ : Kd.R (Kd.int .i64) 3 w28 w.heap.size (fun _ => True) (.slice (some ⟨go22, 0, none⟩) x5_2.length co22) y236 := (by rw [hw, Ny236.out]; exact HP27.1); clear HP27; replace HO_5 := Aside0.mk (hp_); replace HB := Aside0.mk ((by rw [hw]; exact below_set (HB.out) GB22.out : Below w.heap.size w w28)); clear hg hw hp_)); try go_wp2_with (first | (go_at_call 66; (with_reducible refine (ring_Root.calls k2 x22_2 t230 _ A12.out).mono ?_); rintro e w' ⟨rfl, ⟨nd, rfl⟩⟩; (try first | exact ⟨rfl, _, World.drewN_drewN _ _ _⟩ | exact ⟨rfl, _, Eq.trans (World.drewN_drewN _ _ _) (congrArg (World.drewN _) (Nat.add_assoc _ _ _))⟩); have p231 : 0 ≤ ((ji13) : Int) := of_decide_eq_true Aq; have q231 : (ji13) < (l0.length : Int) := of_decide_eq_true Aq; obtain ⟨ad231, e231, hx231_0⟩ := Kd.at_int HR0.out (ji13) p231 q231; cases e231; replace hx231_0 := (HB.out.cell (World.block_lt_of_cell? w _ hx231_0)).trans hx231_0; replace p231 := eq_true p231; replace q231 := eq_true q231; have p232 : 0 ≤ ((ji16) : Int) := of_decide_eq_true Aq; have q232 : (ji16) < (l0.length : Int) := of_decide_eq_true Aq; obtain ⟨ad232, e232, hx232_0⟩ := Kd.at_int HR0.out (ji16) p232 q232; obtain rfl : ad231 = ad232 := (by injection e232); replace hx232_0 := (HB.out.cell (World.block_lt_of_cell? w _ hx232_0)).trans hx232_0; replace p232 := eq_true p232; replace q232 := eq_true q232; have p233 : 0 ≤ ((ji13) : Int) := of_decide_eq_true Aq; have q233 : (ji13) < (l1.length : Int) := of_decide_eq_true Aq; obtain ⟨ad233, e233, hx233_0⟩ := Kd.at_int HR1.out (ji13) p233 q233; cases e233; replace hx233_0 := (HB.out.cell (World.block_lt_of_cell? w _ hx233_0)).trans hx233_0; replace p233 := eq_true p233; replace q233 := eq_true q233; have p234 : 0 ≤ ((ji16) : Int) := of_decide_eq_true Aq; have q234 : (ji16) < (l1.length : Int) := of_decide_eq_true Aq; obtain ⟨ad234, e234, hx234_0⟩ := Kd.at_int HR1.out (ji16) p234 q234; obtain rfl : ad233 = ad234 := (by injection e234); replace hx234_0 := (HB.out.cell (World.block_lt_of_cell? w _ hx234_0)).trans hx234_0; replace p234 := eq_true p234; replace q234 := eq_true q234; have p22 : 0 ≤ ((ji13) : Int) := of_decide_eq_true Aq; have q22 : ((ji13) : Int) < ((x5_2.length : Int) : Int) := of_decide_eq_true Aq; obtain ⟨go22, co22, eo22, gb22, gl22, cl22, HG22⟩ := Kd.R_form HO_5.out (by omega); (first | cases eo22 | (injection eo22 with ea_ en_ ec_; (first | subst ea_ | (injection ea_ with ea_; subst ea_)); subst ec_; clear en_)); have GB22 := Aside0.mk gb22; have GG22 := Aside0.mk HG22; clear gb22 gl22 HG22; obtain ⟨hx22_0, hf22_0⟩ := Kd.R_celln 0 HO_5.out ((ji13) : Int) p22 q22; replace p22 := eq_true p22; replace q22 := eq_true q22; obtain ⟨hy25_, hz25_⟩ := Kd.R_celln 0 HO_5.out ((ji13) : Int) (of_decide_eq_true Aq) (of_decide_eq_true Aq); have HP25 := Kd.R_putg HO_5.out ((ji13) : Int) (Int.tmod (wrap64 ((wrap64 ((rd l0 (ji13)) * (rd l1 (ji13)))) + (wrap64 ((Int.tmod (wrap64 ((rd l0 (ji16)) * (rd l1 (ji16)))) 3329) * (Int.tmod (wrap64 ((Int.tmod (wrap64 (17 * t230)) 3329) * t230)) 3329))))) 3329)) | ((with_reducible refine gate_store (t := 3) (p := 69) rfl ?_); (try ((repeat rw [World.drewN_drewN]); rw [drewN_self wr]; generalize hq_ : World.drewN wr _ = wr; have n0_ := Aside0.mk (Kd.R_at hq_ HO_5.out); have n1_ := Aside0.mk (below_at hq_ HB.out); clear hq_ HO_5 HB; have HO_5 := n0_; have HB := n1_; clear n0_ n1_; (try (obtain ⟨hy25_, hz25_⟩ := Kd.R_celln 0 HO_5.out ((ji13) : Int) (of_decide_eq_true Aq) (of_decide_eq_true Aq))); (try (have HP25 := Kd.R_putg HO_5.out ((ji13) : Int) (Int.tmod (wrap64 ((wrap64 ((rd l0 (ji13)) * (rd l1 (ji13)))) + (wrap64 ((Int.tmod (wrap64 ((rd l0 (ji16)) * (rd l1 (ji16)))) 3329) * (Int.tmod (wrap64 ((Int.tmod (wrap64 (17 * t230)) 3329) * t230)) 3329))))) 3329))))); refine store_event (t := 3) (p := 69) (v := ?vo_w26) (w1 := (wr.setCell ⟨go22, ((ji13) : Int).toNat, none⟩ (.int .i64 (Int.tmod (wrap64 ((wrap64 ((rd l0 (ji13)) * (rd l1 (ji13)))) + (wrap64 ((Int.tmod (wrap64 ((rd l0 (ji16)) * (rd l1 (ji16)))) 3329) * (Int.tmod (wrap64 ((Int.tmod (wrap64 (17 * t230)) 3329) * t230)) 3329))))) 3329)))) ?hg ?ho ?hn ?hr ?_; (case ho => rfl); (case hg => rfl); (case hn => rfl); (case hr => first | (go_simp; done) | (go_simp; rfl)); intro w26 hw; have hg : wr.grownBy w26 (some go22) := (by rw [hw]; exact HP25.2); have hp_ : Kd.R (Kd.int .i64) 3 w26 w.heap.size (fun _ => True) (.slice (some ⟨go22, 0, none⟩) x5_2.length co22) y235 := (by rw [hw, Ny235.out]; exact HP25.1); clear HP25; replace HO_5 := Aside0.mk (hp_); replace HB := Aside0.mk ((by rw [hw]; exact below_set (HB.out) GB22.out : Below w.heap.size w w26)); clear hg hw hp_; have p24 : 0 ≤ ((ji16) : Int) := of_decide_eq_true Aq; have q24 : ((ji16) : Int) < ((x5_2.length : Int) : Int) := of_decide_eq_true Aq; obtain ⟨hx24_0, hf24_0⟩ := Kd.R_celln 0 HO_5.out ((ji16) : Int) p24 q24; replace p24 := eq_true p24; replace q24 := eq_true q24; obtain ⟨hy27_, hz27_⟩ := Kd.R_celln 0 HO_5.out ((ji16) : Int) (of_decide_eq_true Aq) (of_decide_eq_true Aq); have HP27 := Kd.R_putg HO_5.out ((ji16) : Int) (Int.tmod (wrap64 ((wrap64 ((rd l0 (ji13)) * (rd l1 (ji16)))) + (wrap64 ((rd l0 (ji16)) * (rd l1 (ji13)))))) 3329)) | ((with_reducible refine gate_store (t := 3) (p := 82) rfl ?_); (try ((repeat rw [World.drewN_drewN]); rw [drewN_self w26]; generalize hq_ : World.drewN w26 _ = w26; have n0_ := Aside0.mk (Kd.R_at hq_ HO_5.out); have n1_ := Aside0.mk (below_at hq_ HB.out); clear hq_ HO_5 HB; have HO_5 := n0_; have HB := n1_; clear n0_ n1_; (try (obtain ⟨hy27_, hz27_⟩ := Kd.R_celln 0 HO_5.out ((ji16) : Int) (of_decide_eq_true Aq) (of_decide_eq_true Aq))); (try (have HP27 := Kd.R_putg HO_5.out ((ji16) : Int) (Int.tmod (wrap64 ((wrap64 ((rd l0 (ji13)) * (rd l1 (ji16)))) + (wrap64 ((rd l0 (ji16)) * (rd l1 (ji13)))))) 3329))))); refine store_event (t := 3) (p := 82) (v := ?vo_w28) (w1 := (w26.setCell ⟨go22, ((ji16) : Int).toNat, none⟩ (.int .i64 (Int.tmod (wrap64 ((wrap64 ((rd l0 (ji13)) * (rd l1 (ji16)))) + (wrap64 ((rd l0 (ji16)) * (rd l1 (ji13)))))) 3329)))) ?hg ?ho ?hn ?hr ?_; (case ho => rfl); (case hg => rfl); (case hn => rfl); (case hr => first | (go_simp; done) | (go_simp; rfl)); intro w28 hw; have hg : w26.grownBy w28 (some go22) := (by rw [hw]; exact HP27.2); have hp_ : Kd.R (Kd.int .i64) 3 w28 w.heap.size (fun _ => True) (.slice (some ⟨go22, 0, none⟩) x5_2.length co22) y236 := (by rw [hw, Ny236.out]; exact HP27.1); clear HP27; replace HO_5 := Aside0.mk (hp_); replace HB := Aside0.mk ((by rw [hw]; exact below_set (HB.out) GB22.out : Below w.heap.size w w28)); clear hg hw hp_)))
                go_roundg k2
                case measure => have := HJ2.out; have := HK2.out; omega
                case rel => exact ⟨(y236), (wrap64 (x22_2 + 1)), Rq, H', ⟨by have := HJ2.out; have := HK2.out; omega⟩, ⟨Wq HO_5⟩, ⟨Bq⟩⟩
               ·rw [if_neg c23] at H
                exact absurd H (by simp)
              ·rw [if_neg c21] at H
               exact absurd H (by simp)
             ·rw [if_neg c20] at H
              exact absurd H (by simp)
            ·rw [if_neg c19] at H
             exact absurd H (by simp)
           ·rw [if_neg c18] at H
            exact absurd H (by simp)
          ·rw [if_neg c17] at H
           exact absurd H (by simp)
         ·rw [if_neg c15] at H
          exact absurd H (by simp)
        ·rw [if_neg c14] at H
         exact absurd H (by simp)
       ·rw [if_neg c11] at H
        have c11b0 : decide (x22_2 < 128) = false := decide_eq_false c11
        clear c11
        obtain rfl := Option.some.inj H
        go_wp2
        repeat (go_quiet (fail); try go_wp2)
        go_ret
        exact ⟨_, by first | rfl | (simp [errW_none, errW_some] <;> rfl) | (simp [*, errW_none, errW_some] <;> rfl), Wq HO_5, Bq⟩
    ·rw [if_neg c8] at H
     exact absurd H (by simp)

end Go.Proofs.YtkdfcgihgndnnaaDoor.PPA
end
section
namespace Go.Proofs.YtkdfcgihgndnnaaDoor.PPA
open Go.RowKit Go.Proofs.YtkdfcgihgndnnaaDoorW.PrintWords Go.Proofs.YtkdfcgihgndnnaaDoorW.PrintLast Go.Proofs.YtkdfcgihgndnnaaDoorW.PrintMore Go.Proofs.YtkdfcgihgndnnaaDoorW.PrintZip
attribute [local go_sem] max2_int min2_int max_two min_two max_three min_three max_four min_four   -- for this text's walks alone
set_option linter.unusedVariables false
set_option linter.unusedSimpArgs false

/-! ### poly_Dot: function 31 -/
mutual
def poly_Dot.j0 : Nat → List (List Int) → List (List Int) → Bool → Option (List Int)
 | 0, _, _, _ => none
 | k + 1, x0, x1, x16 => if x16 = true then (some ([] : List Int)) else (if 256 ≤ 35184372088832 then (poly_Dot.l0 k x0 x1 (List.replicate 256 0) (x0.length : Int) 0) else (none))
def poly_Dot.l0 : Nat → List (List Int) → List (List Int) → List Int → Int → Int → Option (List Int)
 | 0, _, _, _, _, _ => none
 | k + 1, x0, x1, x5, x19, x20 => if x20 < x19 then (if 0 ≤ x20 then (if x20 < (x0.length : Int) then (if x20 < (x1.length : Int) then ((poly_Times.f k (rd_L3 x0 x20) (rd_L3 x1 x20)).bind fun t242 => ((poly_Add.f k x5 t242).bind fun t245 => (poly_Dot.l0 k x0 x1 t245 x19 (wrap64 (x20 + 1))))) else (none)) else (none)) else (none)) else (some x5)
end
def poly_Dot.f (k : Nat) (l0 : List (List Int)) (l1 : List (List Int)) : Option (List Int) := if (l0.length : Int) = (l1.length : Int) then (poly_Dot.j0 k l0 l1 ((l0.length : Int) == 0)) else (poly_Dot.j0 k l0 l1 true)
def poly_Dot.T7 : Bool × List (List Nat × List Nat) := (true, [([], []), ([], []), ([], []), ([1, 2], [1, 2]), ([3], [3]), ([], []), ([], []), ([5, 6], [5, 6]), ([7], [7]), ([4, 8], [4, 8]), ([0, 9, 9], [0, 9]), ([10, 10, 0, 1, 2, 3, 4, 5, 6, 7, 8, 9, 10], [0, 10])])
def poly_Dot.B7 : List Nat := [0, 0, 0, 6, 14, 0, 0, 96, 224, 510, 1023, 2047]
theorem poly_Dot.tab7 : rtab .any (opsOf Tryd.f31 7) = poly_Dot.T7 := by kernel_rfl
theorem poly_Dot.bits7 : waitsOk poly_Dot.T7.2 poly_Dot.B7 = true := by kernel_rfl
set_option maxHeartbeats 8000000 in
set_option maxRecDepth 100000 in
theorem poly_Dot.calls (k : Nat) (A0 : Option Addr) (c0 : Nat) (l0 : List (List Int)) (A1 : Option Addr) (c1 : Nat) (l1 : List (List Int)) (r : List Int) (w : World) (hr0 : Kd.C (Kd.slice 3 (Kd.int .i64)) w A0 l0.length l0) (hc0 : l0.length ≤ c0) (hr1 : Kd.C (Kd.slice 3 (Kd.int .i64)) w A1 l1.length l1) (hc1 : l1.length ≤ c1) (h : poly_Dot.f k l0 l1 = some r) :
  Calls Tryd.prog 31 #[.slice A0 l0.length c0, .slice A1 l1.length c1] w fun e w' => ∃ v0_ : Value, e = .returned (v0_) ∧ Kd.R (Kd.int .i64) 3 w' w.heap.size (fun _ => True) v0_ r ∧ Below w.heap.size w w' := by
 have HR0 := Aside0.mk hr0
 have HC0 := Aside0.mk hc0
 clear hr0 hc0
 have HR1 := Aside0.mk hr1
 have HC1 := Aside0.mk hc1
 clear hr1 hc1
 have HB := Aside0.mk (Below.refl w.heap.size w)
 have H := h
 unfold poly_Dot.f at H
 clear h
 have HC3 := Aside0.mk H
 clear H
 go_enter Tryd.func31, Tryd.ntmps31
 go_upto_region 1 with (fail)
 go_cut [16] (fun v16 wc => ∃ (kq : Nat) (x16_2 : Bool), v16 = .bool x16_2 ∧ Aside0 (poly_Dot.j0 kq l0 l1 x16_2 = some r) ∧ Aside0 (kq ≤ k) ∧ Aside0 (Below w.heap.size w wc))
 case first =>
  have H := HC3.out
  clear HC3
  by_cases c4 : (l0.length : Int) = (l1.length : Int)
  ·rw [if_pos c4] at H
   have c4b0 : ((l0.length : Int) == (l1.length : Int)) = true := beq_iff_eq.mpr c4
   have c4b1 : ((l0.length : Int) != (l1.length : Int)) = false := bne_eq_false_iff_eq.mpr c4
   have c4b2 : (l0.length == l1.length) = true := by first | simpa using c4 | (simp at c4 ⊢; omega)
   clear c4
   (first | rw [c4b0] | (simp only [i64_w, i32_w]; rw [c4b0]) | skip)
   have H' := Aside0.mk H
   clear H
   go_wp2
   go_meet
   case rel => exact ⟨_, (((l0.length : Int) == 0)), Rq, H', ⟨by first | omega | exact Nat.le_refl _⟩, ⟨Bq⟩⟩
  ·rw [if_neg c4] at H
   have c4b0 : ((l0.length : Int) == (l1.length : Int)) = false := beq_eq_false_iff_ne.mpr c4
   have c4b1 : ((l0.length : Int) != (l1.length : Int)) = true := bne_iff_ne.mpr c4
   have c4b2 : (l0.length == l1.length) = false := by first | simpa using c4 | (simp at c4 ⊢; omega)
   (first | rw [c4b0] | (simp only [i64_w, i32_w]; rw [c4b0]) | skip)
   have H' := Aside0.mk H
   clear H
   go_wp2
   go_meet
   case rel => exact ⟨_, (true), Rq, H', ⟨by first | omega | exact Nat.le_refl _⟩, ⟨Bq⟩⟩
 case rest =>
  clear HC3
  try clear c1
  try clear p2
  try clear c3
  try clear c4
  try clear c4b0
  try clear c4b1
  try clear c4b2
  obtain ⟨kq, x16_2, rfl, HA, HJ2, HB⟩ := hcut
  cases kq with
  | zero => exact absurd HA.out (by simp [poly_Dot.j0])
  | succ kj2 =>
   have H := HA.out
   clear HA
   simp only [poly_Dot.j0] at H
   by_cases c5 : x16_2 = true
   ·subst c5
    rw [if_pos rfl] at H
    obtain rfl := Option.some.inj H
    go_wp2
    go_ret
    exact ⟨_, by first | rfl | (simp [errW_none, errW_some] <;> rfl) | (simp [*, errW_none, errW_some] <;> rfl), by first | exact Kd.R_nil _ _ _ _ _ | exact Kd.N_nil _ _ _ _ _ | exact Kd.V_nil _ _ _ _ _ | exact Kd.Q_nil _ _ _ _ _ | exact Kd.S_nil _ _ _ _ _, Bq⟩
   ·replace c5 := Bool.eq_false_iff.mpr c5
    subst c5
    rw [if_neg nf] at H
    by_cases c6 : 256 ≤ 35184372088832
    ·rw [if_pos c6] at H
     have c6b0 := eq_true c6
     have c6b1 : decide (256 ≤ 35184372088832) = true := decide_eq_true c6
     clear c6
     obtain ⟨y237, Ny237⟩ : ∃ y_ : List Int, Aside0 (y_ = (List.replicate 256 0)) := ⟨_, ⟨rfl⟩⟩
     first | rw [Option.bind_some, ← Ny237.out] at H | rw [← Ny237.out] at H
     have H' := Aside0.mk H
     clear H
     go_wp2_with (first | ((with_reducible refine gate_dst (N := 17) rfl ?_); (try (refine gate_guard (by rfl) ?_; dsimp only)); refine Kd.R_make (Kd.int .i64) _ 3 rfl (N := 17) rfl 40 _ _ rfl 256 rfl rfl Tryd.underlying40 (.int .i64 0) 8 info3 rfl (by decide) (by omega) 0 (ok := fun _ => True) (okp := fun _ => True) rfl (fun _ hk => hk) trivial (by omega) (by omega) (Below.refl _ _) (Nat.le_refl _) ?_; intro v238 w7 ho8 hb hg_ hnew_; clear hg_ hnew_; (first | rw [← Ny237.out] at ho8 | (simp only [Int.reduceToNat] at ho8; rw [← Ny237.out] at ho8)); have HO239 := Aside0.mk (Kd.R_lower ho8 (below_size Bq)); replace HB := Aside0.mk (below_step Bq hb); clear hb ho8))
     go_loopg [5, 20] kj2 (fun kq v5 v20 w' => ∃ (x5_2 : List Int) (x20_2 : Int), v20 = .int .i64 x20_2 ∧ Aside0 (poly_Dot.l0 kq l0 l1 x5_2 (l0.length : Int) x20_2 = some r) ∧ Aside0 (kq ≤ kj2) ∧ Aside0 (Kd.R (Kd.int .i64) 3 w' w.heap.size (fun _ => True) v5 x5_2) ∧ Aside0 (Below w.heap.size w w'))
     case atStart => exact ⟨(y237), (0), Rq, H', ⟨Nat.le_refl _⟩, ⟨Wq HO239⟩, ⟨Bq⟩⟩
     case round =>
      clear H'
      try clear c1
      try clear p2
      try clear c3
      try clear c4
      try clear c4b0
      try clear c4b1
      try clear c4b2
      try clear c5
      try clear c6
      try clear c6b0
      try clear c6b1
      try clear p2
      obtain ⟨x5_2, x20_2, rfl, HA, HK2, HO_5, HB⟩ := hrel
      cases gk with
      | zero => exact absurd HA.out (by simp [poly_Dot.l0])
      | succ k2 =>
       have H := HA.out
       clear HA
       simp only [poly_Dot.l0] at H
       by_cases c9 : x20_2 < (l0.length : Int)
       ·rw [if_pos c9] at H
        have c9b0 : decide (x20_2 < (l0.length : Int)) = true := decide_eq_true c9
        clear c9
        by_cases c10 : 0 ≤ x20_2
        ·rw [if_pos c10] at H
         have c10b0 : decide (0 ≤ x20_2) = true := decide_eq_true c10
         clear c10
         by_cases c11 : x20_2 < (l0.length : Int)
         ·rw [if_pos c11] at H
          have c11b0 : decide (x20_2 < (l0.length : Int)) = true := decide_eq_true c11
          clear c11
          by_cases c12 : x20_2 < (l1.length : Int)
          ·rw [if_pos c12] at H
           have c12b0 : decide (x20_2 < (l1.length : Int)) = true := decide_eq_true c12
           clear c12
           replace H := Option.bind_eq_some_iff.mp H
           obtain ⟨t242, A130, H⟩ := H
           try dsimp only at H
           have A13 := Aside0.mk A130
           clear A130
           replace H := Option.bind_eq_some_iff.mp H
           obtain ⟨t245, A140, H⟩ := H
           try dsimp only at H
           have A14 := Aside0.mk A140
           clear A140
           have H' := Aside0.mk H
           clear H
           try go_wp2
           replace HO_5 := Aside0.mk (Kd.R_drew HO_5.out)
           replace HB := Aside0.mk (below_drew1 HB.out)
           have p240 : 0 ≤ (x20_2 : Int) := of_decide_eq_true Aq
           have q240 : x20_2 < (l0.length : Int) := of_decide_eq_true Aq
           obtain ⟨ad240, A240_0, c240_0, e240, hx240_0, hl240_0, hi240_0⟩ := at_L3 HR0.out x20_2 p240 q240
           have hw240_0 := hx240_0
           cases e240
           replace hx240_0 := (HB.out.cell (World.block_lt_of_cell? w _ hx240_0)).trans hx240_0
           have HR240_0 := Aside0.mk hi240_0
           have HC240_0 := Aside0.mk hl240_0
           clear hi240_0 hl240_0
           replace p240 := eq_true p240
           replace q240 := eq_true q240
           have p241 : 0 ≤ (x20_2 : Int) := of_decide_eq_true Aq
           have q241 : x20_2 < (l1.length : Int) := of_decide_eq_true Aq
           obtain ⟨ad241, A241_0, c241_0, e241, hx241_0, hl241_0, hi241_0⟩ := at_L3 HR1.out x20_2 p241 q241
           have hw241_0 := hx241_0
           cases e241
           replace hx241_0 := (HB.out.cell (World.block_lt_of_cell? w _ hx241_0)).trans hx241_0
           have HR241_0 := Aside0.mk hi241_0
           have HC241_0 := Aside0.mk hl241_0
           clear hi241_0 hl241_0
           replace p241 := eq_true p241
           replace q241 := eq_true q241
           refine start_ (n := 12) (S := fun w' => w'.cell? (ad240.add (x20_2).toNat) = some (.slice A240_0 (rd_L3 l0 x20_2).length c240_0) ∧ w'.cell? (ad241.add (x20_2).toNat) = some (.slice A241_0 (rd_L3 l1 x20_2).length c241_0)) (ds := []) (bl 12 0) (by kernel_rfl) rfl rfl ⟨((HB.out.cell (World.block_lt_of_cell? w _ hw240_0)).trans hw240_0), ((HB.out.cell (World.block_lt_of_cell? w _ hw241_0)).trans hw241_0)⟩ (fun hHeld => ?_); refine with_tabW poly_Dot.tab7 poly_Dot.bits7 (fun HT_ HW_ => ?_)
           generalize wr.drew = w15 at HO_5 HB HR240_0 HR241_0 hx240_0 hx241_0 hHeld ⊢
           refine pq 0 (some 23) (bl 12 1) ?_
           refine pq 1 (some 24) (bl 12 3) ?_
           refine pq 2 (some 25) (bl 12 7) ?_
           refine pq 3 (some 26) (bl 12 15) ?_
           refine pq 5 (some 28) (bl 12 47) ?_
           refine pq 6 (some 29) (bl 12 111) ?_
           refine pq 7 (some 30) (bl 12 239) ?_
           refine tq 4 (some 27) (bl 12 255) ?_
           refine tq 8 (some 31) (bl 12 511) ?_
           refine one_ (i := 9) (N := some 32) (bl 12 1023) rfl rfl (one_of HT_.out (by kernel_rfl)) (by decide) (fun K hK => ?_)
           refine goes_ Tryd.func50 (by kernel_rfl) rfl #[.slice A240_0 (rd_L3 l0 x20_2).length c240_0, .slice A241_0 (rd_L3 l1 x20_2).length c241_0] (by rfl) rfl rfl Mq ?_
           with_reducible refine (poly_Times.calls k2 _ _ (rd_L3 l0 x20_2) _ _ (rd_L3 l1 x20_2) t242 _ ?side1 ?side2 ?side3 ?side4 A13.out).mono ?_
           (case side1 => exact Cq (Kd.C_below HR240_0.out HB.out))
           (case side2 => exact HC240_0.out)
           (case side3 => exact Cq (Kd.C_below HR241_0.out HB.out))
           (case side4 => exact HC241_0.out)
           rintro e w16 ⟨v243, rfl, ho0, hb⟩
           refine ⟨_, rfl, ?_⟩
           have HO244 := Aside0.mk (Kd.R_lower (Kd.R_new' ho0 (Kd.R_lt (Wq HO_5))) (below_size Bq))
           replace HO_5 := Aside0.mk (Kd.R_elder' (Wq HO_5) (Kd.R_base ho0) hb)
           replace HB := Aside0.mk (below_step Bq hb)
           clear hb ho0; (try clear A13)
           obtain ⟨Ao17, co17, eo17⟩ := Kd.R_slice HO_5.out
           (first | subst eo17 | (injection eo17 with f1_ f2_ f3_; have f4_ := f1_.symm; have f5_ := f3_.symm; clear f1_ f2_ f3_; subst f4_; subst f5_))
           obtain ⟨Ao18, co18, eo18⟩ := Kd.R_slice HO244.out
           (first | subst eo18 | (injection eo18 with f1_ f2_ f3_; have f4_ := f1_.symm; have f5_ := f3_.symm; clear f1_ f2_ f3_; subst f4_; subst f5_))
           refine hK.out _ _ ⟨((HB.out.cell (World.block_lt_of_cell? w _ hw240_0)).trans hw240_0), ((HB.out.cell (World.block_lt_of_cell? w _ hw241_0)).trans hw241_0)⟩ (fun hHeld => ?_)
           clear hK K
           refine norm_ (a' := ?_) ?_ ?_
           rotate_left
           ·show Act.put _ (some 32) _ = _
            simp only [Act.put, List.setIfInBounds_toArray, List.set_cons_zero, List.set_cons_succ, i64_w, i32_w]
            rfl
           refine one_ (i := 10) (N := some 33) (bl 12 2047) rfl rfl (one_of HT_.out (by kernel_rfl)) (by decide) (fun K hK => ?_)
           refine goes_ Tryd.func30 (by kernel_rfl) rfl #[.slice Ao17 x5_2.length co17, .slice Ao18 t242.length co18] (by rfl) rfl rfl Mq ?_
           with_reducible refine (poly_Add.calls k2 _ _ x5_2 _ _ t242 t245 _ ?side1 ?side2 ?side3 ?side4 A14.out).mono ?_
           (case side1 => repeat (first | exact (Kd.R_reads' HO_5.out).2.2 | (with_reducible refine Kd.C_alloc ?_ _) | (with_reducible refine Kd.C_drewN ?_ _) | (with_reducible refine Kd.C_drew ?_)))
           (case side2 => exact (Kd.R_reads' HO_5.out).2.1)
           (case side3 => repeat (first | exact (Kd.R_reads' HO244.out).2.2 | (with_reducible refine Kd.C_alloc ?_ _) | (with_reducible refine Kd.C_drewN ?_ _) | (with_reducible refine Kd.C_drew ?_)))
           (case side4 => exact (Kd.R_reads' HO244.out).2.1)
           rintro e w19 ⟨v246, rfl, ho0, hb⟩
           refine ⟨_, rfl, ?_⟩
           have HO247 := Aside0.mk (Kd.R_lower (Kd.R_new' (Kd.R_new' ho0 (Kd.R_lt (Wq HO_5))) (Kd.R_lt (Wq HO244))) (below_size Bq))
           replace HO_5 := Aside0.mk (Kd.R_elder' (Wq HO_5) (Kd.R_base ho0) hb)
           replace HO244 := Aside0.mk (Kd.R_elder' (Wq HO244) (Kd.R_base ho0) hb)
           replace HB := Aside0.mk (below_step Bq hb)
           clear hb ho0; (try clear A14)
           refine hK.out _ _ ⟨((HB.out.cell (World.block_lt_of_cell? w _ hw240_0)).trans hw240_0), ((HB.out.cell (World.block_lt_of_cell? w _ hw241_0)).trans hw241_0)⟩ (fun hHeld => ?_)
           clear hK K
           refine norm_ (a' := ?_) ?_ ?_
           rotate_left
           ·show Act.put _ (some 33) _ = _
            simp only [Act.put, List.setIfInBounds_toArray, List.set_cons_zero, List.set_cons_succ, i64_w, i32_w]
            rfl
           refine pq 11 (some 5) (bl 12 4095) ?_
           refine done_ (done_of HT_.out (by kernel_rfl)) ?_
           try go_wp2
           go_roundg k2
           case measure => have := HJ2.out; have := HK2.out; omega
           case rel => exact ⟨(t245), (wrap64 (x20_2 + 1)), Rq, H', ⟨by have := HJ2.out; have := HK2.out; omega⟩, ⟨by (with_reducible repeat (first | apply Kd.R_alloc | apply Kd.R_drewN | apply Kd.R_drew)); exact Kd.R_mono HO247.out (fun _ hk => trivial)⟩, ⟨Bq⟩⟩
          ·rw [if_neg c12] at H
           exact absurd H (by simp)
         ·rw [if_neg c11] at H
          exact absurd H (by simp)
        ·rw [if_neg c10] at H
         exact absurd H (by simp)
       ·rw [if_neg c9] at H
        have c9b0 : decide (x20_2 < (l0.length : Int)) = false := decide_eq_false c9
        clear c9
        obtain rfl := Option.some.inj H
        go_wp2
        go_ret
        exact ⟨_, by first | rfl | (simp [errW_none, errW_some] <;> rfl) | (simp [*, errW_none, errW_some] <;> rfl), Wq HO_5, Bq⟩
    ·rw [if_neg c6] at H
     exact absurd H (by simp)

end Go.Proofs.YtkdfcgihgndnnaaDoor.PPA
end
section
namespace Go.Proofs.YtkdfcgihgndnnaaDoor.PPA
open Go.RowKit Go.Proofs.YtkdfcgihgndnnaaDoorW.PrintWords Go.Proofs.YtkdfcgihgndnnaaDoorW.PrintLast Go.Proofs.YtkdfcgihgndnnaaDoorW.PrintMore Go.Proofs.YtkdfcgihgndnnaaDoorW.PrintZip
attribute [local go_sem] max2_int min2_int max_two min_two max_three min_three max_four min_four   -- for this text's walks alone
set_option linter.unusedVariables false
set_option linter.unusedSimpArgs false

/-! ### pke_lay: function 32 -/
def pke_lay.l0 : Nat → List Int → List (List Int) → Int → Int → Option (List Int)
 | 0, _, _, _, _ => none
 | k + 1, x3, x6, x7, x8 => if x8 < x7 then (if 0 ≤ x8 then (if x8 < (x6.length : Int) then ((bits_Pack.f k 12 (rd_L3 x6 x8)).bind fun t256 => (if x3.length + t256.length < 140737488355328 then (pke_lay.l0 k (x3 ++ t256) x6 x7 (wrap64 (x8 + 1))) else (none))) else (none)) else (none)) else (some x3)
def pke_lay.f (k : Nat) (l0 : List (List Int)) : Option (List Int) := pke_lay.l0 k ([] : List Int) l0 (l0.length : Int) 0
set_option maxHeartbeats 8000000 in
set_option maxRecDepth 100000 in
theorem pke_lay.calls (k : Nat) (A0 : Option Addr) (c0 : Nat) (l0 : List (List Int)) (r : List Int) (w : World) (hr0 : Kd.C (Kd.slice 3 (Kd.int .i64)) w A0 l0.length l0) (hc0 : l0.length ≤ c0) (h : pke_lay.f k l0 = some r) :
  Calls Tryd.prog 32 #[.slice A0 l0.length c0] w fun e w' => ∃ v0_ : Value, e = .returned (v0_) ∧ Kd.R (Kd.int .u8) 5 w' w.heap.size (fun _ => True) v0_ r ∧ Below w.heap.size w w' := by
 have HR0 := Aside0.mk hr0
 have HC0 := Aside0.mk hc0
 clear hr0 hc0
 have HB := Aside0.mk (Below.refl w.heap.size w)
 have H := h
 unfold pke_lay.f at H
 clear h
 have H' := Aside0.mk H
 clear H
 go_enter Tryd.func32, Tryd.ntmps32
 go_wp2
 go_loopg [3, 8] k (fun kq v3 v8 w' => ∃ (x3_1 : List Int) (x8_1 : Int), v8 = .int .i64 x8_1 ∧ Aside0 (pke_lay.l0 kq x3_1 l0 (l0.length : Int) x8_1 = some r) ∧ Aside0 (kq ≤ k) ∧ Aside0 (Kd.R (Kd.int .u8) 5 w' w.heap.size (fun _ => True) v3 x3_1) ∧ Aside0 (Below w.heap.size w w'))
 case atStart => exact ⟨(([] : List Int)), (0), Rq, H', ⟨Nat.le_refl _⟩, ⟨by first | exact Kd.R_nil _ _ _ _ _ | exact Kd.N_nil _ _ _ _ _ | exact Kd.V_nil _ _ _ _ _ | exact Kd.Q_nil _ _ _ _ _ | exact Kd.S_nil _ _ _ _ _⟩, ⟨Bq⟩⟩
 case round =>
  clear H'
  obtain ⟨x3_1, x8_1, rfl, HA, HK1, HO_3, HB⟩ := hrel
  cases gk with
  | zero => exact absurd HA.out (by simp [pke_lay.l0])
  | succ k1 =>
   have H := HA.out
   clear HA
   simp only [pke_lay.l0] at H
   by_cases c2 : x8_1 < (l0.length : Int)
   ·rw [if_pos c2] at H
    have c2b0 : decide (x8_1 < (l0.length : Int)) = true := decide_eq_true c2
    clear c2
    by_cases c3 : 0 ≤ x8_1
    ·rw [if_pos c3] at H
     have c3b0 : decide (0 ≤ x8_1) = true := decide_eq_true c3
     clear c3
     by_cases c4 : x8_1 < (l0.length : Int)
     ·rw [if_pos c4] at H
      have c4b0 : decide (x8_1 < (l0.length : Int)) = true := decide_eq_true c4
      clear c4
      replace H := Option.bind_eq_some_iff.mp H
      obtain ⟨t256, A50, H⟩ := H
      try dsimp only at H
      have A5 := Aside0.mk A50
      clear A50
      by_cases c6 : x3_1.length + t256.length < 140737488355328
      ·rw [if_pos c6] at H
       have LMc6 := Aside0.mk c6
       clear c6
       obtain ⟨y259, Ny259⟩ : ∃ y_ : List Int, Aside0 (y_ = (x3_1 ++ t256)) := ⟨_, ⟨rfl⟩⟩
       first | rw [Option.bind_some, ← Ny259.out] at H | rw [← Ny259.out] at H
       have H' := Aside0.mk H
       clear H
       have p255 : 0 ≤ (x8_1 : Int) := of_decide_eq_true Aq
       have q255 : x8_1 < (l0.length : Int) := of_decide_eq_true Aq
       obtain ⟨ad255, A255_0, c255_0, e255, hx255_0, hl255_0, hi255_0⟩ := at_L3 HR0.out x8_1 p255 q255
       cases e255
       replace hx255_0 := (HB.out.cell (World.block_lt_of_cell? w _ hx255_0)).trans hx255_0
       have HR255_0 := Aside0.mk hi255_0
       have HC255_0 := Aside0.mk hl255_0
       clear hi255_0 hl255_0
       replace p255 := eq_true p255
       replace q255 := eq_true q255
       go_wp2_with (first | ((with_reducible refine gate_callee (f := 18) rfl ?_); refine goesL_ (some 14) rfl rfl Tryd.func18 (by kernel_rfl) rfl #[.int .i64 12, .slice A255_0 (rd_L3 l0 x8_1).length c255_0] rfl Mq ?_; (with_reducible refine (bits_Pack.calls k1 12 _ _ (rd_L3 l0 x8_1) t256 _ ?side1 ?side2 A5.out).mono ?_); (case side1 => exact Cq (Kd.C_below HR255_0.out HB.out)); (case side2 => exact HC255_0.out); rintro e w7 ⟨v257, rfl, ho0, hb⟩; refine ⟨_, rfl, ?_⟩; have HO258 := Aside0.mk (Kd.R_lower (Kd.R_new' ho0 (Kd.R_lt (Wq HO_3))) (below_size Bq)); replace HO_3 := Aside0.mk (Kd.R_elder' (Wq HO_3) (Kd.R_base ho0) hb); replace HB := Aside0.mk (below_step Bq hb); clear hb ho0; (try clear A5); obtain ⟨Ao9, co9, eo9⟩ := Kd.R_slice HO258.out; subst eo9) | ((with_reducible refine gate_builtin (b := .append) (xs := #[.tmp 12, .tmp 14]) rfl ?_); at_builtin; refine Kd.R_append_rows (Kd.int .u8) (w0 := w) w.heap.size rfl (.tmp 12) (.tmp 14) 22 5 (.int .u8 0) 1 rfl Tryd.underlying22 info5 rfl (by decide) (by omega) u3 x3_1 t256 _ _ _ (fun k_ => some k_ ≠ (.slice Ao9 t256.length co9 : Value).ownBlock) (fun _ => False) rfl rfl ?aO ?aR (fun _ _ h => h) (fun _ h => h.elim) ?aF ?aB ?aS ?aL ?_; (case aR => repeat (first | exact (Kd.R_reads' HO258.out).2.2 | (with_reducible refine Kd.C_alloc ?_ _) | (with_reducible refine Kd.C_drewN ?_ _) | (with_reducible refine Kd.C_drew ?_))); (case aB => exact Bq); (case aF => exact (fun k_ hk => Kd.fresh' (Kd.R_lt (Wq HO258)) k_ hk)); (case aO => exact (by (with_reducible repeat (first | apply Kd.R_alloc | apply Kd.R_drewN | apply Kd.R_drew)); exact Kd.R_mono HO_3.out (fun _ hk => hk.2))); (case aS => exact (below_size Bq)); (case aL => have := LMc6.out; omega); intro v260 w8 ho hb hg hat; rw [← Ny259.out] at ho; replace HO258 := Aside0.mk (Kd.R_after (ok := (fun _ => True)) (Wq HO258) hg hat); replace HB := Aside0.mk (hb); have HO261 := Aside0.mk (ho); clear HO_3; clear ho hb hg hat))
       go_roundg k1
       case measure => have := HK1.out; omega
       case rel => exact ⟨(y259), (wrap64 (x8_1 + 1)), Rq, H', ⟨by have := HK1.out; omega⟩, ⟨by (with_reducible repeat (first | apply Kd.R_alloc | apply Kd.R_drewN | apply Kd.R_drew)); exact Kd.R_mono HO261.out (fun _ hk => trivial)⟩, ⟨Bq⟩⟩
      ·rw [if_neg c6] at H
       exact absurd H (by simp)
     ·rw [if_neg c4] at H
      exact absurd H (by simp)
    ·rw [if_neg c3] at H
     exact absurd H (by simp)
   ·rw [if_neg c2] at H
    have c2b0 : decide (x8_1 < (l0.length : Int)) = false := decide_eq_false c2
    clear c2
    obtain rfl := Option.some.inj H
    go_wp2
    go_ret
    exact ⟨_, by first | rfl | (simp [errW_none, errW_some] <;> rfl) | (simp [*, errW_none, errW_some] <;> rfl), Wq HO_3, Bq⟩

end Go.Proofs.YtkdfcgihgndnnaaDoor.PPA
end
section
namespace Go.Proofs.YtkdfcgihgndnnaaDoor.PPA
open Go.RowKit Go.Proofs.YtkdfcgihgndnnaaDoorW.PrintWords Go.Proofs.YtkdfcgihgndnnaaDoorW.PrintLast Go.Proofs.YtkdfcgihgndnnaaDoorW.PrintMore Go.Proofs.YtkdfcgihgndnnaaDoorW.PrintZip
attribute [local go_sem] max2_int min2_int max_two min_two max_three min_three max_four min_four   -- for this text's walks alone
set_option linter.unusedVariables false
set_option linter.unusedSimpArgs false

/-! ### pke_Keys: function 8 -/
def pke_Keys.l0 : Nat → List Int → List (List Int) → List (List Int) → List (List Int) → List (List (List Int)) → Int → Int → Option (List Int × List Int × (List (S70)))
 | 0, _, _, _, _, _, _, _ => none
 | k + 1, x10, x12, x13, x14, x58, x59, x60 => if x60 < x59 then (if 0 ≤ x60 then (if x60 < (x58.length : Int) then ((poly_Dot.f k (rd_L6 x58 x60) x12).bind fun t310 => (if x60 < (x13.length : Int) then ((poly_Add.f k t310 (rd_L3 x13 x60)).bind fun t314 => (if x14.length < 5864062014805 then (pke_Keys.l0 k x10 x12 x13 (x14 ++ [t314]) x58 x59 (wrap64 (x60 + 1))) else (none))) else (none))) else (none)) else (none)) else ((pke_lay.f k x14).bind fun t320 => (if t320.length + x10.length < 140737488355328 then ((pke_lay.f k x12).bind fun t326 => (some ((t320 ++ x10), t326, ([] : List (S70))))) else (none)))
def pke_Keys.f (k : Nat) (a0 : Int) (l1 : List Int) : Option (List Int × List Int × (List (S70))) := (pke_Of.f a0).bind fun bt262 => (if bt262.2.2.2.2.2 = true then (if (l1.length : Int) = 32 then ((sponge_Sha512.f (([l1, (([(bt262.1) % 256] : List Int))] : List (List Int)))).bind fun t281 => (if 32 ≤ (t281.length : Int) then ((some (t281.take 32 : List Int)).bind fun y284 => ((some (t281.drop 32 : List Int)).bind fun y289 => ((pke_lean.f k bt262.2.1 y289 0 bt262.1).bind fun t294 => ((pke_over.f k t294).bind fun t297 => ((pke_lean.f k bt262.2.1 y289 bt262.1 bt262.1).bind fun t300 => ((pke_over.f k t300).bind fun t303 => ((pke_even.f k bt262.1 bt262.2.1 bt262.2.2.1 bt262.2.2.2.1 bt262.2.2.2.2.1 y284 false).bind fun t306 => (pke_Keys.l0 k y284 t297 t303 ([] : List (List Int)) t306 (t306.length : Int) 0)))))))) else (none))) else ((pke_fault.f 3).bind fun t272 => (some (([] : List Int), ([] : List Int), t272)))) else ((pke_fault.f 2).bind fun t269 => (some (([] : List Int), ([] : List Int), t269))))
def pke_Keys.T8 : Bool × List (List Nat × List Nat) := (true, [([], []), ([0], [0]), ([], []), ([], []), ([3], [3]), ([1, 2, 4], [1, 2, 4]), ([5, 5], [5]), ([], []), ([7], [7]), ([], []), ([], []), ([10], [10]), ([], []), ([12], [12]), ([8, 9, 11, 13, 6], [8, 9, 11, 13]), ([14, 14], [14]), ([6, 15, 0, 1, 2, 3, 4, 5, 6], [6]), ([15, 16, 0, 1, 2, 3, 4, 5, 6, 7, 8, 9, 10, 11, 12, 13, 14, 15, 16], [15])])
def pke_Keys.B8 : List Nat := [0, 1, 0, 0, 8, 31, 63, 0, 128, 0, 0, 1024, 0, 4096, 16383, 32767, 65535, 131071]
theorem pke_Keys.tab8 : rtab .any (opsOf Tryd.f8 8) = pke_Keys.T8 := by kernel_rfl
theorem pke_Keys.bits8 : waitsOk pke_Keys.T8.2 pke_Keys.B8 = true := by kernel_rfl
def pke_Keys.T13 : Bool × List (List Nat × List Nat) := (true, [([], []), ([], []), ([], []), ([1, 2], [1, 2]), ([], []), ([], []), ([4, 5], [4, 5]), ([6], [6]), ([3, 7, 3], [3, 7]), ([8], [8]), ([0, 9, 8], [0, 9]), ([10, 10, 0, 1, 2, 3, 4, 5, 6, 7, 8, 9, 10], [0, 10])])
def pke_Keys.B13 : List Nat := [0, 0, 0, 6, 0, 0, 48, 112, 254, 510, 1023, 2047]
theorem pke_Keys.tab13 : rtab .any (opsOf Tryd.f8 13) = pke_Keys.T13 := by kernel_rfl
theorem pke_Keys.bits13 : waitsOk pke_Keys.T13.2 pke_Keys.B13 = true := by kernel_rfl
set_option maxHeartbeats 8000000 in
set_option maxRecDepth 100000 in
theorem pke_Keys.calls (k : Nat) (a0 : Int) (P1_ : Nat → Prop) (A1 : Option Addr) (c1 : Nat) (l1 : List Int) (r1 : List Int) (r2 : List Int) (r3 : List (S70)) (w : World) (hs1 : Kd.V (Kd.int .u8) 5 w w.heap.size (fun k_ => P1_ k_) (.slice A1 l1.length c1) l1) (h : pke_Keys.f k a0 l1 = some (r1, r2, r3)) :
  Calls Tryd.prog 8 #[.int .i64 a0, .slice A1 l1.length c1] w fun e w' => ∃ v0_ v1_ v2_ : Value, e = .returned (.tuple #[v0_, v1_, v2_]) ∧ Kd.R (Kd.int .u8) 5 w' w.heap.size (fun k_ => (w.heap.size ≤ k_) ∧ some k_ ≠ (v1_ : Value).ownBlock) v0_ r1 ∧ Kd.R (Kd.int .u8) 5 w' w.heap.size (fun k_ => (w.heap.size ≤ k_) ∧ some k_ ≠ (v0_ : Value).ownBlock) v1_ r2 ∧ Kd.R k70 70 w' w.heap.size (fun k_ => (w.heap.size ≤ k_)) (eRow v2_) r3 ∧ Below w.heap.size w w' := by
 have hu34 := Tryd.underlying34
 have HO1 := Aside0.mk (show Kd.V (Kd.int .u8) 5 w w.heap.size (fun k_ => (P1_ k_ ∨ w.heap.size ≤ k_)) (.slice A1 l1.length c1) l1 from Kd.V_mono hs1 (fun k_ hk => .inl hk))
 have HB := Aside0.mk (Below.refl w.heap.size w)
 have H := h
 unfold pke_Keys.f at H
 clear h
 replace H := Option.bind_eq_some_iff.mp H
 obtain ⟨⟨t262, t263, t264, t265, t266, t267⟩, A30, H⟩ := H
 try dsimp only at H
 have A3 := Aside0.mk A30
 clear A30
 go_enter Tryd.func8, Tryd.ntmps8
 repeat (first | (go_big_may; go_says (first | ((with_reducible refine gate_callee (f := 13) rfl ?_); refine goesL_ (some 19) rfl rfl Tryd.func13 (by kernel_rfl) rfl #[.int .i64 a0] rfl Mq ?_; (with_reducible refine (pke_Of.calls a0 t262 t263 t264 t265 t266 t267 _ A3.out).mono ?_); rintro e w4 ⟨rfl, hb⟩; refine ⟨_, rfl, ?_⟩; replace HO1 := Aside0.mk (Kd.V_below (Wq HO1) hb); replace HB := Aside0.mk (below_step Bq hb); clear hb; (try clear A3)) | ((with_reducible refine gate_dst (N := 7) rfl ?_); refine box_event ?hg (N := 7) ?hd (cs := #[.int .i64 0, .int .i64 0, .int .i64 0, .int .i64 0, .int .i64 0]) (t := 34) ?hr ?_; (case hd => rfl); (case hg => rfl); (case hr => first | (go_simp; done) | (go_simp; rfl)); intro gb268 hg w5 hbox hb; replace HO1 := Aside0.mk (Kd.V_below (Kd.V_elderB (Wq HO1) gb268 (Nat.le_of_eq hg.symm)) hb); have BK268 := Aside0.mk (hbox); have GW268 := Aside0.mk ((by rw [hg]; exact (below_size Bq) : w.heap.size ≤ gb268)); have GE268 := Aside0.mk ((by rw [hg]; exact (below_size Bq) : w.heap.size ≤ gb268)); replace HB := Aside0.mk (below_step Bq hb); clear hb hbox hg; have hcz6_0 : w5.cell? ⟨gb268, 0, none⟩ = some (.int .i64 0) := (blk_cell BK268.out 0).trans rfl; have hcz6_1 : w5.cell? ⟨gb268, 1, none⟩ = some (.int .i64 0) := (blk_cell BK268.out 1).trans rfl; have hcz6_2 : w5.cell? ⟨gb268, 2, none⟩ = some (.int .i64 0) := (blk_cell BK268.out 2).trans rfl; have hcz6_3 : w5.cell? ⟨gb268, 3, none⟩ = some (.int .i64 0) := (blk_cell BK268.out 3).trans rfl; have hcz6_4 : w5.cell? ⟨gb268, 4, none⟩ = some (.int .i64 0) := (blk_cell BK268.out 4).trans rfl; have hfz6_0 := blk_frozen BK268.out 0; have hfz6_1 := blk_frozen BK268.out 1; have hfz6_2 := blk_frozen BK268.out 2; have hfz6_3 := blk_frozen BK268.out 3; have hfz6_4 := blk_frozen BK268.out 4))) | go_values | go_skip | go_guarded | ((with_reducible refine own_cond ?_); (first | refine own_condT rfl ?_ | refine own_condF rfl ?_)) | ((with_reducible refine own_ite ?_); (first | rw [own_iteT] | rw [own_iteF])) | ((fail_if_success (with_reducible refine own_ite ?_)); (fail_if_success (with_reducible refine own_cond ?_)); (first | (go_step; (first | (fail_if_success (with_reducible refine own_upon ?_)) | go_step | go_upon); (fail_if_success ((case' isTrue => skip); (case' isFalse => skip)))) | go_upon | ((with_reducible refine own_upon ?_); go_simp) | dsimp only)))
 by_cases c7 : t267 = true
 ·subst c7
  rw [if_pos rfl] at H
  by_cases c8 : (l1.length : Int) = 32
  ·rw [if_pos c8] at H
   have c8b0 : ((l1.length : Int) == 32) = true := beq_iff_eq.mpr c8
   have c8b1 : ((l1.length : Int) != 32) = false := bne_eq_false_iff_eq.mpr c8
   clear c8
   obtain ⟨y275, Ny275⟩ : ∃ y_ : List Int, Aside0 (y_ = (([(t262) % 256] : List Int))) := ⟨_, ⟨rfl⟩⟩
   first | rw [Option.bind_some, ← Ny275.out] at H | rw [← Ny275.out] at H
   obtain ⟨y278, Ny278⟩ : ∃ y_ : List (List Int), Aside0 (y_ = (([l1, y275] : List (List Int)))) := ⟨_, ⟨rfl⟩⟩
   first | rw [Option.bind_some, ← Ny278.out] at H | rw [← Ny278.out] at H
   replace H := Option.bind_eq_some_iff.mp H
   obtain ⟨t281, A90, H⟩ := H
   try dsimp only at H
   have A9 := Aside0.mk A90
   clear A90
   by_cases c10 : 32 ≤ (t281.length : Int)
   ·rw [if_pos c10] at H
    have c10b0 := eq_true c10
    have c10b1 : decide (32 ≤ (t281.length : Int)) = true := decide_eq_true c10
    clear c10
    obtain ⟨y284, Ny284⟩ : ∃ y_ : List Int, Aside0 (y_ = (t281.take 32)) := ⟨_, ⟨rfl⟩⟩
    first | rw [Option.bind_some, ← Ny284.out] at H | rw [← Ny284.out] at H
    have c11b0 := eq_true (of_decide_eq_true Aq : 32 ≤ (t281.length : Int))
    obtain ⟨y289, Ny289⟩ : ∃ y_ : List Int, Aside0 (y_ = (t281.drop 32)) := ⟨_, ⟨rfl⟩⟩
    first | rw [Option.bind_some, ← Ny289.out] at H | rw [← Ny289.out] at H
    replace H := Option.bind_eq_some_iff.mp H
    obtain ⟨t294, A120, H⟩ := H
    try dsimp only at H
    have A12 := Aside0.mk A120
    clear A120
    replace H := Option.bind_eq_some_iff.mp H
    obtain ⟨t297, A130, H⟩ := H
    try dsimp only at H
    have A13 := Aside0.mk A130
    clear A130
    replace H := Option.bind_eq_some_iff.mp H
    obtain ⟨t300, A140, H⟩ := H
    try dsimp only at H
    have A14 := Aside0.mk A140
    clear A140
    replace H := Option.bind_eq_some_iff.mp H
    obtain ⟨t303, A150, H⟩ := H
    try dsimp only at H
    have A15 := Aside0.mk A150
    clear A150
    replace H := Option.bind_eq_some_iff.mp H
    obtain ⟨t306, A160, H⟩ := H
    try dsimp only at H
    have A16 := Aside0.mk A160
    clear A160
    have H' := Aside0.mk H
    clear H
    have hcz17_0 : w5.cell? ⟨gb268, 0, none⟩ = some (.int .i64 0) := (blk_cell BK268.out 0).trans rfl
    have hcz17_1 : w5.cell? ⟨gb268, 1, none⟩ = some (.int .i64 0) := (blk_cell BK268.out 1).trans rfl
    have hcz17_2 : w5.cell? ⟨gb268, 2, none⟩ = some (.int .i64 0) := (blk_cell BK268.out 2).trans rfl
    have hcz17_3 : w5.cell? ⟨gb268, 3, none⟩ = some (.int .i64 0) := (blk_cell BK268.out 3).trans rfl
    have hcz17_4 : w5.cell? ⟨gb268, 4, none⟩ = some (.int .i64 0) := (blk_cell BK268.out 4).trans rfl
    have hfz17_0 := blk_frozen BK268.out 0
    have hfz17_1 := blk_frozen BK268.out 1
    have hfz17_2 := blk_frozen BK268.out 2
    have hfz17_3 := blk_frozen BK268.out 3
    have hfz17_4 := blk_frozen BK268.out 4
    try go_wp2_with (first | ((with_reducible refine gate_dst (N := 33) rfl ?_); refine Kd.R_lit (Kd.int .u8) _ 5 ?hg (N := 33) ?hd (xs := ([(t262) % 256] : List Int)) (inner := [.int .u8 ((t262) % 256)]) (ok := fun _ => True) (okp := fun _ => True) ?hr ?hp (fun _ hk => hk) trivial (Below.refl _ _) (Nat.le_refl _) (by simp) ?_; (case hd => rfl); (case hg => rfl); (case hr => first | (go_simp; done) | (go_simp; rfl)); (case hp => exact (Reps.one (show Kd.M (Kd.int .u8) _ _ _ ((t262) % 256) [.int .u8 ((t262) % 256)] from rfl) (Reps.none _ _))); intro v276 w18 ho19 hb hg_ hnew_; clear hg_ hnew_; (first | rw [← Ny275.out] at ho19 | (simp only [Int.reduceToNat] at ho19; rw [← Ny275.out] at ho19)); replace HO1 := Aside0.mk (Kd.V_elder' (by (with_reducible repeat (first | apply Kd.V_alloc | apply Kd.V_drewN | apply Kd.V_drew)); exact (Kd.V_mono (Kd.V_far (p := ⟨gb268, 4, none⟩) (Kd.V_far (p := ⟨gb268, 3, none⟩) (Kd.V_far (p := ⟨gb268, 2, none⟩) (Kd.V_far (p := ⟨gb268, 1, none⟩) (Kd.V_far (p := ⟨gb268, 0, none⟩) (Kd.V_mono HO1.out (fun k_ hk => (⟨hk, hk.2⟩ : _ ∧ k_ ≠ gb268))) (fun _ hk => hk.2) (.int .i64 t262)) (fun _ hk => hk.2) (.int .i64 t263)) (fun _ hk => hk.2) (.int .i64 t264)) (fun _ hk => hk.2) (.int .i64 t265)) (fun _ hk => hk.2) (.int .i64 t266)) (fun _ h_ => h_.1))) (Kd.R_base ho19) hb); have HO277 := Aside0.mk (Kd.R_lower (Kd.R_newM (M := fun k_ => (w.heap.size ≤ k_)) ho19 (below_size Bq) (fun k_ h_ => h_)) (below_size Bq)); replace BK268 := Aside0.mk (blk_below (g := gb268) (o := .cells #[.int .i64 t262, .int .i64 t263, .int .i64 t264, .int .i64 t265, .int .i64 t266] 34 (0, 0)) (by (with_reducible repeat (first | refine blk_drewN ?_ _ | refine blk_drew ?_ | refine blk_alloc ?_ _)); refine blk_put (cs := #[.int .i64 t262, .int .i64 t263, .int .i64 t264, .int .i64 t265, .int .i64 0]) ?_ 4 _ rfl; (with_reducible repeat (first | refine blk_drewN ?_ _ | refine blk_drew ?_ | refine blk_alloc ?_ _)); refine blk_put (cs := #[.int .i64 t262, .int .i64 t263, .int .i64 t264, .int .i64 0, .int .i64 0]) ?_ 3 _ rfl; (with_reducible repeat (first | refine blk_drewN ?_ _ | refine blk_drew ?_ | refine blk_alloc ?_ _)); refine blk_put (cs := #[.int .i64 t262, .int .i64 t263, .int .i64 0, .int .i64 0, .int .i64 0]) ?_ 2 _ rfl; (with_reducible repeat (first | refine blk_drewN ?_ _ | refine blk_drew ?_ | refine blk_alloc ?_ _)); refine blk_put (cs := #[.int .i64 t262, .int .i64 0, .int .i64 0, .int .i64 0, .int .i64 0]) ?_ 1 _ rfl; (with_reducible repeat (first | refine blk_drewN ?_ _ | refine blk_drew ?_ | refine blk_alloc ?_ _)); refine blk_put (cs := #[.int .i64 0, .int .i64 0, .int .i64 0, .int .i64 0, .int .i64 0]) ?_ 0 _ rfl; (with_reducible repeat (first | refine blk_drewN ?_ _ | refine blk_drew ?_ | refine blk_alloc ?_ _)); exact BK268.out) hb); replace HB := Aside0.mk (below_step Bq hb); clear hb ho19; obtain ⟨Ao20, co20, eo20⟩ := Kd.R_slice HO277.out; subst eo20) | ((with_reducible refine gate_dst (N := 34) rfl ?_); refine Kd.N_lit (Kd.slice 5 (Kd.int .u8)) _ 22 ?hg (N' := 34) ?hd (xs := ([l1, y275] : List (List Int))) (inner := [.slice A1 l1.length c1, .slice Ao20 y275.length co20]) (ok := (fun k_ => (P1_ k_ ∨ w.heap.size ≤ k_) ∧ k_ ≠ gb268)) (okp := (fun k_ => (P1_ k_ ∨ w.heap.size ≤ k_) ∧ k_ ≠ gb268)) ?hr ?hp (fun _ hk => hk) ((show ∀ k_, w18.heap.size ≤ k_ → (fun k_ => (P1_ k_ ∨ w.heap.size ≤ k_) ∧ k_ ≠ gb268) k_ from fun k_ hk => ⟨(.inr (Nat.le_trans (below_size Bq) hk)), Kd.freshB (g := gb268) (o := .cells #[.int .i64 t262, .int .i64 t263, .int .i64 t264, .int .i64 t265, .int .i64 t266] 34 (0, 0)) (Kq BK268) k_ hk⟩) _ (Nat.le_refl _)) (Below.refl _ _) (Nat.le_refl _) (by simp) ?_; (case hd => rfl); (case hg => rfl); (case hr => first | (go_simp; done) | (go_simp; rfl)); (case hp => exact (Reps.one (show Kd.FK (Kd.slice 5 (Kd.int .u8)) _ _ l1 [.slice A1 l1.length c1] from (Kd.FK_slice_mk (Kd.V_reads' (Kd.V_mono (ok' := (fun k_ => (P1_ k_ ∨ w.heap.size ≤ k_) ∧ k_ ≠ gb268)) (HO1.out) (fun k_ hk => ⟨hk.1.1, hk.1.2⟩))).2.1 (by (with_reducible repeat (first | apply Kd.F_alloc | apply Kd.F_drewN | apply Kd.F_drew)); exact Kd.V_F (Kd.V_mono (ok' := (fun k_ => (P1_ k_ ∨ w.heap.size ≤ k_) ∧ k_ ≠ gb268)) (HO1.out) (fun k_ hk => ⟨hk.1.1, hk.1.2⟩))))) (Reps.one (show Kd.FK (Kd.slice 5 (Kd.int .u8)) _ _ y275 [.slice Ao20 y275.length co20] from (Kd.FK_slice_mk (Kd.R_reads' (Kd.R_mono (ok' := (fun k_ => (P1_ k_ ∨ w.heap.size ≤ k_) ∧ k_ ≠ gb268)) (Kd.R_types (HO277.out) BK268.out (by decide)) (fun k_ hk => ⟨(.inr (hk.1.1)), hk.2⟩))).2.1 (by (with_reducible repeat (first | apply Kd.F_alloc | apply Kd.F_drewN | apply Kd.F_drew)); exact Kd.R_F (Kd.R_mono (ok' := (fun k_ => (P1_ k_ ∨ w.heap.size ≤ k_) ∧ k_ ≠ gb268)) (Kd.R_types (HO277.out) BK268.out (by decide)) (fun k_ hk => ⟨(.inr (hk.1.1)), hk.2⟩))))) (Reps.none _ _)))); intro v279 w21 ho22 hb hg_ hnew_; clear hg_ hnew_; (first | rw [← Ny278.out] at ho22 | (simp only [Int.reduceToNat] at ho22; rw [← Ny278.out] at ho22)); replace HO1 := Aside0.mk (Kd.V_elder' (Wq HO1) (Kd.N_base ho22) hb); have HO280 := Aside0.mk (Kd.N_lower ho22 (below_size Bq)); replace BK268 := Aside0.mk (blk_below (g := gb268) (o := .cells #[.int .i64 t262, .int .i64 t263, .int .i64 t264, .int .i64 t265, .int .i64 t266] 34 (0, 0)) (Kq BK268) hb); replace HB := Aside0.mk (below_step Bq hb); clear HO277; clear hb ho22; obtain ⟨Ao23, co23, eo23⟩ := Kd.N_slice HO280.out; subst eo23) | ((with_reducible refine gate_callee (f := 15) rfl ?_); refine goesL_ (some 35) rfl rfl Tryd.func15 (by kernel_rfl) rfl #[.slice Ao23 y278.length co23] rfl Mq ?_; (with_reducible refine (sponge_Sha512.calls _ _ y278 t281 _ ?side1 ?side2 A9.out).mono ?_); (case side1 => repeat (first | exact (Kd.N_reads' HO280.out).2.2 | (with_reducible refine Kd.C_alloc ?_ _) | (with_reducible refine Kd.C_drewN ?_ _) | (with_reducible refine Kd.C_drew ?_))); (case side2 => exact (Kd.N_reads' HO280.out).2.1); rintro e w24 ⟨v282, rfl, ho0, hb⟩; refine ⟨_, rfl, ?_⟩; replace HO1 := Aside0.mk (Kd.V_elder' (Wq HO1) (Kd.R_base ho0) hb); replace HO280 := Aside0.mk (Kd.N_elder' (Wq HO280) (Kd.R_base ho0) hb); have HO283 := Aside0.mk (Kd.R_lower (Kd.R_newM (M := fun k_ => (w.heap.size ≤ k_)) ho0 (below_size Bq) (fun k_ h_ => h_)) (below_size Bq)); replace BK268 := Aside0.mk (blk_below (g := gb268) (o := .cells #[.int .i64 t262, .int .i64 t263, .int .i64 t264, .int .i64 t265, .int .i64 t266] 34 (0, 0)) (Kq BK268) hb); replace HB := Aside0.mk (below_step Bq hb); clear hb ho0; (try clear A9)))
    replace HO1 := Aside0.mk (Kd.V_drew HO1.out)
    replace HO280 := Aside0.mk (Kd.N_drew HO280.out)
    replace HO283 := Aside0.mk (Kd.R_drew HO283.out)
    replace BK268 := Aside0.mk (blk_drew BK268.out)
    replace HB := Aside0.mk (below_drew1 HB.out)
    obtain ⟨Ao27, co27, eo27⟩ := Kd.R_slice HO283.out
    (first | subst eo27 | (injection eo27 with f1_ f2_ f3_; have f4_ := f1_.symm; have f5_ := f3_.symm; clear f1_ f2_ f3_; subst f4_; subst f5_))
    have q26 : (32 : Int) ≤ ((t281.length : Int) : Int) := of_decide_eq_true Aq
    obtain ⟨i026, hi026, _, hsz26, _⟩ := info_parts info5
    have hroom26 : t281.length ≤ co27 := (Kd.R_reads' HO283.out).2.1
    have hC26 : Kd.F (Kd.int .u8) _ _ Ao27 t281.length t281 := (Kd.V_at (base := w.heap.size) (Kd.V_mono (ok' := (fun k_ => ((((P1_ k_ ∨ w.heap.size ≤ k_) ∧ True) ∧ some k_ ≠ (.slice Ao23 y278.length co23 : Value).ownBlock) ∧ k_ ≠ gb268))) (Kd.R_V (Kd.R_types (Kd.R_apart' (HO283.out) (Kd.N_typed HO280.out) (by decide)) BK268.out (by decide))) (fun k_ hk => ⟨⟨⟨(.inr (hk.1.1.1)), trivial⟩, hk.1.2⟩, hk.2⟩))).2.2
    have hcut26 := cut_to (P := Tryd.prog) 22 5 .i64 Tryd.underlying22 hi026 Ao27 t281.length co27 32 (by omega) q26 hroom26
    have hr26 := Kd.F_take (m := 32) hC26 (by omega)
    have hy26 : y284.length = (32 : Int).toNat := (by rw [Ny284.out, List.length_take]; omega)
    rw [← Ny284.out] at hr26
    rw [← hy26] at hcut26
    have HO288 := Aside0.mk (show Kd.V (Kd.int .u8) 5 _ w.heap.size _ (.slice Ao27 y284.length co27) y284 from Kd.V_mk (by omega) hr26)
    have HC288 := Aside0.mk (show y284.length ≤ co27 from by omega)
    clear hr26 hC26 hroom26 hi026 hsz26
    have KY26 := Aside0.mk hy26
    clear hy26
    replace q26 := eq_true q26
    have q28 : (32 : Int) ≤ ((t281.length : Int) : Int) := of_decide_eq_true Aq
    obtain ⟨i028, hi028, _, hsz28, _⟩ := info_parts info5
    have hroom28 : t281.length ≤ co27 := (Kd.R_reads' HO283.out).2.1
    have hC28 : Kd.F (Kd.int .u8) _ _ Ao27 t281.length t281 := (Kd.V_at (base := w.heap.size) (Kd.V_mono (ok' := (fun k_ => ((((P1_ k_ ∨ w.heap.size ≤ k_) ∧ True) ∧ some k_ ≠ (.slice Ao23 y278.length co23 : Value).ownBlock) ∧ k_ ≠ gb268))) (Kd.R_V (Kd.R_types (Kd.R_apart' (HO283.out) (Kd.N_typed HO280.out) (by decide)) BK268.out (by decide))) (fun k_ hk => ⟨⟨⟨(.inr (hk.1.1.1)), trivial⟩, hk.1.2⟩, hk.2⟩))).2.2
    have hcut28 := cut_from (P := Tryd.prog) 22 5 .i64 Tryd.underlying22 hi028 1 hsz28 Ao27 t281.length co27 32 (by omega) q28
    have hr28 := Kd.F_cut (m := (32 : Int).toNat) (c := co27) hC28 (by omega) hroom28
    obtain ⟨A28, hA28⟩ : ∃ A1, A1 = (if co27 = (32 : Int).toNat then Ao27 else (Ao27 : Option Addr).map (·.add ((32 : Int).toNat * 1))) := ⟨_, rfl⟩
    obtain ⟨c28, hc28⟩ : ∃ c1, c1 = co27 - (32 : Int).toNat := ⟨_, rfl⟩
    have hy28 : y289.length = t281.length - (32 : Int).toNat := (by rw [Ny289.out, List.length_drop] <;> omega)
    rw [show (t281).drop (32 : Int).toNat = y289 from Ny289.out.symm] at hr28
    replace hr28 : Kd.F (Kd.int .u8) _ _ A28 y289.length y289 := (by rw [hA28]; exact hr28)
    rw [← hy28, ← hA28, ← hc28] at hcut28
    have HO293 := Aside0.mk (show Kd.V (Kd.int .u8) 5 _ w.heap.size _ (.slice A28 y289.length c28) y289 from Kd.V_mk (by rw [hy28, hc28]; exact Nat.sub_le_sub_right hroom28 _) hr28)
    have HC293 := Aside0.mk (show y289.length ≤ c28 from by rw [hy28, hc28]; exact Nat.sub_le_sub_right hroom28 _)
    clear hr28 hC28 hroom28 hi028 hsz28 hc28
    have KY28 := Aside0.mk hy28
    have KA28 := Aside0.mk hA28
    clear hy28 hA28
    replace q28 := eq_true q28
    refine start_ (n := 6) (S := fun w' => True) (ds := []) (bl 6 0) (by kernel_rfl) rfl rfl trivial (fun hHeld => ?_)
    generalize w24.drew = w25 at HO1 HO280 HO283 BK268 HB HO288 HO293 hHeld ⊢
    refine pq 0 (some 36) (bl 6 1) ?_
    refine pq 1 (some 37) (bl 6 3) ?_
    refine pq 2 (some 38) (bl 6 7) ?_
    refine pq 3 (some 39) (bl 6 15) ?_
    refine pq 4 (some 10) (bl 6 31) ?_
    refine pq 5 (some 11) (bl 6 63) ?_
    refine done_ (by kernel_rfl) ?_
    try go_wp2
    replace HO1 := Aside0.mk (Kd.V_drew HO1.out)
    replace HO280 := Aside0.mk (Kd.N_drew HO280.out)
    replace HO283 := Aside0.mk (Kd.R_drew HO283.out)
    replace HO288 := Aside0.mk (Kd.V_drew HO288.out)
    replace HO293 := Aside0.mk (Kd.V_drew HO293.out)
    replace BK268 := Aside0.mk (blk_drew BK268.out)
    replace HB := Aside0.mk (below_drew1 HB.out)
    refine start_ (n := 18) (S := fun w' => w'.cell? ⟨gb268, 0, none⟩ = some (.int .i64 t262) ∧ w'.cell? ⟨gb268, 1, none⟩ = some (.int .i64 t263) ∧ w'.cell? ⟨gb268, 2, none⟩ = some (.int .i64 t264) ∧ w'.cell? ⟨gb268, 3, none⟩ = some (.int .i64 t265) ∧ w'.cell? ⟨gb268, 4, none⟩ = some (.int .i64 t266)) (ds := []) (bl 18 0) (by kernel_rfl) rfl rfl ⟨(blk_cell BK268.out 0).trans rfl, (blk_cell BK268.out 1).trans rfl, (blk_cell BK268.out 2).trans rfl, (blk_cell BK268.out 3).trans rfl, (blk_cell BK268.out 4).trans rfl⟩ (fun hHeld => ?_); refine with_tabW pke_Keys.tab8 pke_Keys.bits8 (fun HT_ HW_ => ?_)
    generalize w25.drew = w29 at HO1 HO280 HO283 HO288 HO293 BK268 HB hHeld ⊢
    refine pq 0 (some 40) (bl 18 1) ?_
    refine pq 2 (some 42) (bl 18 5) ?_
    refine pq 3 (some 43) (bl 18 13) ?_
    refine pq 7 (some 47) (bl 18 141) ?_
    refine pq 9 (some 49) (bl 18 653) ?_
    refine pq 10 (some 50) (bl 18 1677) ?_
    refine pq 12 (some 52) (bl 18 5773) ?_
    refine tq 1 (some 41) (bl 18 5775) ?_
    refine tq 4 (some 44) (bl 18 5791) ?_
    refine tq 8 (some 48) (bl 18 6047) ?_
    refine tq 11 (some 51) (bl 18 8095) ?_
    refine tq 13 (some 53) (bl 18 16287) ?_
    refine one_ (i := 5) (N := some 45) (bl 18 16319) rfl rfl (one_of HT_.out (by kernel_rfl)) (by decide) (fun K hK => ?_)
    refine goes_ Tryd.func28 (by kernel_rfl) rfl #[.int .i64 t263, .slice A28 y289.length c28, .int .i64 0, .int .i64 t262] (by rfl) rfl rfl (by (try simp only [List.map_toArray, List.map_cons, List.map_nil]); first | done | rfl | (simp only [List.length_drop, List.length_take]; rfl) | (simp only [hy28]; rfl)) ?_
    with_reducible refine (pke_lean.calls k t263 _ _ y289 0 t262 t294 _ ?side1 ?side2 A12.out).mono ?_
    (case side1 => repeat (first | exact (Kd.V_reads' HO293.out).2.2 | (with_reducible refine Kd.C_alloc ?_ _) | (with_reducible refine Kd.C_drewN ?_ _) | (with_reducible refine Kd.C_drew ?_)))
    (case side2 => exact (Kd.V_reads' HO293.out).2.1)
    rintro e w30 ⟨v295, rfl, ho0, hb⟩
    refine ⟨_, rfl, ?_⟩
    replace HO1 := Aside0.mk (Kd.V_elder' (Wq HO1) (Kd.S_base ho0) hb)
    replace HO288 := Aside0.mk (Kd.V_elder' (Wq HO288) (Kd.S_base ho0) hb)
    replace HO293 := Aside0.mk (Kd.V_elder' (Wq HO293) (Kd.S_base ho0) hb)
    have HO296 := Aside0.mk (Kd.N_lower (Kd.N_mono (ok' := fun k_ => (P1_ k_ ∨ w.heap.size ≤ k_) ∧ some k_ ≠ (.slice Ao23 y278.length co23 : Value).ownBlock ∧ some k_ ≠ (.slice Ao27 t281.length co27 : Value).ownBlock ∧ k_ ≠ gb268) (Kd.S_N (Kd.S_bound ho0)) (fun k_ hk_ => ⟨(.inr (Nat.le_trans (below_size Bq) hk_.2.1)), (Kd.fresh' (Kd.N_lt (Wq HO280)) k_ hk_.2.1), (Kd.fresh' (Kd.R_lt (Wq HO283)) k_ hk_.2.1), (Kd.freshB (g := gb268) (o := .cells #[.int .i64 t262, .int .i64 t263, .int .i64 t264, .int .i64 t265, .int .i64 t266] 34 (0, 0)) (Kq BK268) k_ hk_.2.1)⟩)) (below_size Bq))
    replace HO280 := Aside0.mk (Kd.N_elder' (Wq HO280) (Kd.S_base ho0) hb)
    replace HO283 := Aside0.mk (Kd.R_below (Wq HO283) hb)
    replace BK268 := Aside0.mk (blk_below (g := gb268) (o := .cells #[.int .i64 t262, .int .i64 t263, .int .i64 t264, .int .i64 t265, .int .i64 t266] 34 (0, 0)) (Kq BK268) hb)
    replace HB := Aside0.mk (below_step Bq hb)
    clear hb ho0; (try clear A12)
    obtain ⟨Ao31, co31, eo31⟩ := Kd.N_slice HO296.out
    (first | subst eo31 | (injection eo31 with f1_ f2_ f3_; have f4_ := f1_.symm; have f5_ := f3_.symm; clear f1_ f2_ f3_; subst f4_; subst f5_))
    refine hK.out _ _ ⟨(blk_cell BK268.out 0).trans rfl, (blk_cell BK268.out 1).trans rfl, (blk_cell BK268.out 2).trans rfl, (blk_cell BK268.out 3).trans rfl, (blk_cell BK268.out 4).trans rfl⟩ (fun hHeld => ?_)
    clear hK K
    refine norm_ (a' := ?_) ?_ ?_
    rotate_left
    ·show Act.put _ (some 45) _ = _
     simp only [Act.put, List.setIfInBounds_toArray, List.set_cons_zero, List.set_cons_succ, i64_w, i32_w]
     rfl
    refine one_ (i := 6) (N := some 46) (bl 18 16383) rfl rfl (one_of HT_.out (by kernel_rfl)) (by decide) (fun K hK => ?_)
    refine goes_ Tryd.func27 (by kernel_rfl) rfl #[.slice Ao31 t294.length co31] (by rfl) rfl rfl Mq ?_
    with_reducible refine (pke_over.calls k _ _ t294 t297 _ ?side1 ?side2 A13.out).mono ?_
    (case side1 => repeat (first | exact (Kd.N_reads' HO296.out).2.2 | (with_reducible refine Kd.C_alloc ?_ _) | (with_reducible refine Kd.C_drewN ?_ _) | (with_reducible refine Kd.C_drew ?_)))
    (case side2 => exact (Kd.N_reads' HO296.out).2.1)
    rintro e w32 ⟨v298, rfl, ho0, hb⟩
    refine ⟨_, rfl, ?_⟩
    replace HO1 := Aside0.mk (Kd.V_elder' (Wq HO1) (Kd.S_base ho0) hb)
    replace HO288 := Aside0.mk (Kd.V_elder' (Wq HO288) (Kd.S_base ho0) hb)
    replace HO293 := Aside0.mk (Kd.V_elder' (Wq HO293) (Kd.S_base ho0) hb)
    have HO299 := Aside0.mk (Kd.N_lower (Kd.N_mono (ok' := fun k_ => (P1_ k_ ∨ w.heap.size ≤ k_) ∧ some k_ ≠ (.slice Ao23 y278.length co23 : Value).ownBlock ∧ some k_ ≠ (.slice Ao27 t281.length co27 : Value).ownBlock ∧ some k_ ≠ (.slice Ao31 t294.length co31 : Value).ownBlock ∧ k_ ≠ gb268) (Kd.S_N (Kd.S_bound ho0)) (fun k_ hk_ => ⟨(.inr (Nat.le_trans (below_size Bq) hk_.2.1)), (Kd.fresh' (Kd.N_lt (Wq HO280)) k_ hk_.2.1), (Kd.fresh' (Kd.R_lt (Wq HO283)) k_ hk_.2.1), (Kd.fresh' (Kd.N_lt (Wq HO296)) k_ hk_.2.1), (Kd.freshB (g := gb268) (o := .cells #[.int .i64 t262, .int .i64 t263, .int .i64 t264, .int .i64 t265, .int .i64 t266] 34 (0, 0)) (Kq BK268) k_ hk_.2.1)⟩)) (below_size Bq))
    replace HO280 := Aside0.mk (Kd.N_elder' (Wq HO280) (Kd.S_base ho0) hb)
    replace HO283 := Aside0.mk (Kd.R_below (Wq HO283) hb)
    replace HO296 := Aside0.mk (Kd.N_elder' (Wq HO296) (Kd.S_base ho0) hb)
    replace BK268 := Aside0.mk (blk_below (g := gb268) (o := .cells #[.int .i64 t262, .int .i64 t263, .int .i64 t264, .int .i64 t265, .int .i64 t266] 34 (0, 0)) (Kq BK268) hb)
    replace HB := Aside0.mk (below_step Bq hb)
    clear hb ho0; (try clear A13)
    refine hK.out _ _ ⟨(blk_cell BK268.out 0).trans rfl, (blk_cell BK268.out 1).trans rfl, (blk_cell BK268.out 2).trans rfl, (blk_cell BK268.out 3).trans rfl, (blk_cell BK268.out 4).trans rfl⟩ (fun hHeld => ?_)
    clear hK K
    refine norm_ (a' := ?_) ?_ ?_
    rotate_left
    ·show Act.put _ (some 46) _ = _
     simp only [Act.put, List.setIfInBounds_toArray, List.set_cons_zero, List.set_cons_succ, i64_w, i32_w]
     rfl
    refine one_ (i := 14) (N := some 54) (bl 18 32767) rfl rfl (one_of HT_.out (by kernel_rfl)) (by decide) (fun K hK => ?_)
    refine goes_ Tryd.func28 (by kernel_rfl) rfl #[.int .i64 t263, .slice A28 y289.length c28, .int .i64 t262, .int .i64 t262] (by rfl) rfl rfl (by (try simp only [List.map_toArray, List.map_cons, List.map_nil]); first | done | rfl | (simp only [List.length_drop, List.length_take]; rfl) | (simp only [hy28]; rfl)) ?_
    with_reducible refine (pke_lean.calls k t263 _ _ y289 t262 t262 t300 _ ?side1 ?side2 A14.out).mono ?_
    (case side1 => repeat (first | exact (Kd.V_reads' HO293.out).2.2 | (with_reducible refine Kd.C_alloc ?_ _) | (with_reducible refine Kd.C_drewN ?_ _) | (with_reducible refine Kd.C_drew ?_)))
    (case side2 => exact (Kd.V_reads' HO293.out).2.1)
    rintro e w33 ⟨v301, rfl, ho0, hb⟩
    refine ⟨_, rfl, ?_⟩
    replace HO1 := Aside0.mk (Kd.V_elder' (Wq HO1) (Kd.S_base ho0) hb)
    replace HO288 := Aside0.mk (Kd.V_elder' (Wq HO288) (Kd.S_base ho0) hb)
    replace HO293 := Aside0.mk (Kd.V_elder' (Wq HO293) (Kd.S_base ho0) hb)
    have HO302 := Aside0.mk (Kd.N_lower (Kd.N_mono (ok' := fun k_ => (P1_ k_ ∨ w.heap.size ≤ k_) ∧ some k_ ≠ (.slice Ao23 y278.length co23 : Value).ownBlock ∧ some k_ ≠ (.slice Ao27 t281.length co27 : Value).ownBlock ∧ some k_ ≠ (.slice Ao31 t294.length co31 : Value).ownBlock ∧ some k_ ≠ (v298 : Value).ownBlock ∧ k_ ≠ gb268) (Kd.S_N (Kd.S_bound ho0)) (fun k_ hk_ => ⟨(.inr (Nat.le_trans (below_size Bq) hk_.2.1)), (Kd.fresh' (Kd.N_lt (Wq HO280)) k_ hk_.2.1), (Kd.fresh' (Kd.R_lt (Wq HO283)) k_ hk_.2.1), (Kd.fresh' (Kd.N_lt (Wq HO296)) k_ hk_.2.1), (Kd.fresh' (Kd.N_lt (Wq HO299)) k_ hk_.2.1), (Kd.freshB (g := gb268) (o := .cells #[.int .i64 t262, .int .i64 t263, .int .i64 t264, .int .i64 t265, .int .i64 t266] 34 (0, 0)) (Kq BK268) k_ hk_.2.1)⟩)) (below_size Bq))
    replace HO280 := Aside0.mk (Kd.N_elder' (Wq HO280) (Kd.S_base ho0) hb)
    replace HO283 := Aside0.mk (Kd.R_below (Wq HO283) hb)
    replace HO296 := Aside0.mk (Kd.N_elder' (Wq HO296) (Kd.S_base ho0) hb)
    replace HO299 := Aside0.mk (Kd.N_elder' (Wq HO299) (Kd.S_base ho0) hb)
    replace BK268 := Aside0.mk (blk_below (g := gb268) (o := .cells #[.int .i64 t262, .int .i64 t263, .int .i64 t264, .int .i64 t265, .int .i64 t266] 34 (0, 0)) (Kq BK268) hb)
    replace HB := Aside0.mk (below_step Bq hb)
    clear hb ho0; (try clear A14)
    obtain ⟨Ao34, co34, eo34⟩ := Kd.N_slice HO302.out
    (first | subst eo34 | (injection eo34 with f1_ f2_ f3_; have f4_ := f1_.symm; have f5_ := f3_.symm; clear f1_ f2_ f3_; subst f4_; subst f5_))
    refine hK.out _ _ ⟨(blk_cell BK268.out 0).trans rfl, (blk_cell BK268.out 1).trans rfl, (blk_cell BK268.out 2).trans rfl, (blk_cell BK268.out 3).trans rfl, (blk_cell BK268.out 4).trans rfl⟩ (fun hHeld => ?_)
    clear hK K
    refine norm_ (a' := ?_) ?_ ?_
    rotate_left
    ·show Act.put _ (some 54) _ = _
     simp only [Act.put, List.setIfInBounds_toArray, List.set_cons_zero, List.set_cons_succ, i64_w, i32_w]
     rfl
    refine one_ (i := 15) (N := some 55) (bl 18 65535) rfl rfl (one_of HT_.out (by kernel_rfl)) (by decide) (fun K hK => ?_)
    refine goes_ Tryd.func27 (by kernel_rfl) rfl #[.slice Ao34 t300.length co34] (by rfl) rfl rfl Mq ?_
    with_reducible refine (pke_over.calls k _ _ t300 t303 _ ?side1 ?side2 A15.out).mono ?_
    (case side1 => repeat (first | exact (Kd.N_reads' HO302.out).2.2 | (with_reducible refine Kd.C_alloc ?_ _) | (with_reducible refine Kd.C_drewN ?_ _) | (with_reducible refine Kd.C_drew ?_)))
    (case side2 => exact (Kd.N_reads' HO302.out).2.1)
    rintro e w35 ⟨v304, rfl, ho0, hb⟩
    refine ⟨_, rfl, ?_⟩
    replace HO1 := Aside0.mk (Kd.V_elder' (Wq HO1) (Kd.S_base ho0) hb)
    replace HO288 := Aside0.mk (Kd.V_elder' (Wq HO288) (Kd.S_base ho0) hb)
    replace HO293 := Aside0.mk (Kd.V_elder' (Wq HO293) (Kd.S_base ho0) hb)
    have HO305 := Aside0.mk (Kd.N_lower (Kd.N_mono (ok' := fun k_ => (P1_ k_ ∨ w.heap.size ≤ k_) ∧ some k_ ≠ (.slice Ao23 y278.length co23 : Value).ownBlock ∧ some k_ ≠ (.slice Ao27 t281.length co27 : Value).ownBlock ∧ some k_ ≠ (.slice Ao31 t294.length co31 : Value).ownBlock ∧ some k_ ≠ (v298 : Value).ownBlock ∧ some k_ ≠ (.slice Ao34 t300.length co34 : Value).ownBlock ∧ k_ ≠ gb268) (Kd.S_N (Kd.S_bound ho0)) (fun k_ hk_ => ⟨(.inr (Nat.le_trans (below_size Bq) hk_.2.1)), (Kd.fresh' (Kd.N_lt (Wq HO280)) k_ hk_.2.1), (Kd.fresh' (Kd.R_lt (Wq HO283)) k_ hk_.2.1), (Kd.fresh' (Kd.N_lt (Wq HO296)) k_ hk_.2.1), (Kd.fresh' (Kd.N_lt (Wq HO299)) k_ hk_.2.1), (Kd.fresh' (Kd.N_lt (Wq HO302)) k_ hk_.2.1), (Kd.freshB (g := gb268) (o := .cells #[.int .i64 t262, .int .i64 t263, .int .i64 t264, .int .i64 t265, .int .i64 t266] 34 (0, 0)) (Kq BK268) k_ hk_.2.1)⟩)) (below_size Bq))
    replace HO280 := Aside0.mk (Kd.N_elder' (Wq HO280) (Kd.S_base ho0) hb)
    replace HO283 := Aside0.mk (Kd.R_below (Wq HO283) hb)
    replace HO296 := Aside0.mk (Kd.N_elder' (Wq HO296) (Kd.S_base ho0) hb)
    replace HO299 := Aside0.mk (Kd.N_elder' (Wq HO299) (Kd.S_base ho0) hb)
    replace HO302 := Aside0.mk (Kd.N_elder' (Wq HO302) (Kd.S_base ho0) hb)
    replace BK268 := Aside0.mk (blk_below (g := gb268) (o := .cells #[.int .i64 t262, .int .i64 t263, .int .i64 t264, .int .i64 t265, .int .i64 t266] 34 (0, 0)) (Kq BK268) hb)
    replace HB := Aside0.mk (below_step Bq hb)
    clear hb ho0; (try clear A15)
    refine hK.out _ _ ⟨(blk_cell BK268.out 0).trans rfl, (blk_cell BK268.out 1).trans rfl, (blk_cell BK268.out 2).trans rfl, (blk_cell BK268.out 3).trans rfl, (blk_cell BK268.out 4).trans rfl⟩ (fun hHeld => ?_)
    clear hK K
    refine norm_ (a' := ?_) ?_ ?_
    rotate_left
    ·show Act.put _ (some 55) _ = _
     simp only [Act.put, List.setIfInBounds_toArray, List.set_cons_zero, List.set_cons_succ, i64_w, i32_w]
     rfl
    refine pq 16 (some 12) (bl 18 131071) ?_
    refine pq 17 (some 13) (bl 18 262143) ?_
    refine done_ (done_of HT_.out (by kernel_rfl)) ?_
    have hcz36_0 : w35.cell? ⟨gb268, 0, none⟩ = some (.int .i64 t262) := (blk_cell BK268.out 0).trans rfl
    have hcz36_1 : w35.cell? ⟨gb268, 1, none⟩ = some (.int .i64 t263) := (blk_cell BK268.out 1).trans rfl
    have hcz36_2 : w35.cell? ⟨gb268, 2, none⟩ = some (.int .i64 t264) := (blk_cell BK268.out 2).trans rfl
    have hcz36_3 : w35.cell? ⟨gb268, 3, none⟩ = some (.int .i64 t265) := (blk_cell BK268.out 3).trans rfl
    have hcz36_4 : w35.cell? ⟨gb268, 4, none⟩ = some (.int .i64 t266) := (blk_cell BK268.out 4).trans rfl
    have hfz36_0 := blk_frozen BK268.out 0
    have hfz36_1 := blk_frozen BK268.out 1
    have hfz36_2 := blk_frozen BK268.out 2
    have hfz36_3 := blk_frozen BK268.out 3
    have hfz36_4 := blk_frozen BK268.out 4
    try go_wp2_with (first | ((with_reducible refine gate_callee (f := 29) rfl ?_); refine goesL_ (some 58) rfl rfl Tryd.func29 (by kernel_rfl) rfl #[.agg #[.int .i64 t262, .int .i64 t263, .int .i64 t264, .int .i64 t265, .int .i64 t266], .slice Ao27 y284.length co27, .bool false] rfl Mq ?_; (with_reducible refine (pke_even.calls k t262 t263 t264 t265 t266 _ _ y284 false t306 _ ?side1 ?side2 A16.out).mono ?_); (case side1 => repeat (first | exact (Kd.V_reads' HO288.out).2.2 | (with_reducible refine Kd.C_alloc ?_ _) | (with_reducible refine Kd.C_drewN ?_ _) | (with_reducible refine Kd.C_drew ?_))); (case side2 => exact (Kd.V_reads' HO288.out).2.1); rintro e w37 ⟨v307, rfl, ho0, hb⟩; refine ⟨_, rfl, ?_⟩; replace HO1 := Aside0.mk (Kd.V_elder' (Wq HO1) (Kd.R_base ho0) hb); replace HO288 := Aside0.mk (Kd.V_elder' (Wq HO288) (Kd.R_base ho0) hb); replace HO293 := Aside0.mk (Kd.V_elder' (Wq HO293) (Kd.R_base ho0) hb); have HO308 := Aside0.mk (Kd.N_lower (Kd.N_mono (ok' := fun k_ => (P1_ k_ ∨ w.heap.size ≤ k_) ∧ some k_ ≠ (.slice Ao23 y278.length co23 : Value).ownBlock ∧ some k_ ≠ (.slice Ao27 t281.length co27 : Value).ownBlock ∧ some k_ ≠ (.slice Ao31 t294.length co31 : Value).ownBlock ∧ some k_ ≠ (v298 : Value).ownBlock ∧ some k_ ≠ (.slice Ao34 t300.length co34 : Value).ownBlock ∧ some k_ ≠ (v304 : Value).ownBlock ∧ k_ ≠ gb268) (Kd.R_N (Kd.R_bound ho0)) (fun k_ hk_ => ⟨(.inr (Nat.le_trans (below_size Bq) hk_.2.1)), (Kd.fresh' (Kd.N_lt (Wq HO280)) k_ hk_.2.1), (Kd.fresh' (Kd.R_lt (Wq HO283)) k_ hk_.2.1), (Kd.fresh' (Kd.N_lt (Wq HO296)) k_ hk_.2.1), (Kd.fresh' (Kd.N_lt (Wq HO299)) k_ hk_.2.1), (Kd.fresh' (Kd.N_lt (Wq HO302)) k_ hk_.2.1), (Kd.fresh' (Kd.N_lt (Wq HO305)) k_ hk_.2.1), (Kd.freshB (g := gb268) (o := .cells #[.int .i64 t262, .int .i64 t263, .int .i64 t264, .int .i64 t265, .int .i64 t266] 34 (0, 0)) (Kq BK268) k_ hk_.2.1)⟩)) (below_size Bq)); replace HO280 := Aside0.mk (Kd.N_elder' (Wq HO280) (Kd.R_base ho0) hb); replace HO283 := Aside0.mk (Kd.R_below (Wq HO283) hb); replace HO296 := Aside0.mk (Kd.N_elder' (Wq HO296) (Kd.R_base ho0) hb); replace HO299 := Aside0.mk (Kd.N_elder' (Wq HO299) (Kd.R_base ho0) hb); replace HO302 := Aside0.mk (Kd.N_elder' (Wq HO302) (Kd.R_base ho0) hb); replace HO305 := Aside0.mk (Kd.N_elder' (Wq HO305) (Kd.R_base ho0) hb); replace BK268 := Aside0.mk (blk_below (g := gb268) (o := .cells #[.int .i64 t262, .int .i64 t263, .int .i64 t264, .int .i64 t265, .int .i64 t266] 34 (0, 0)) (Kq BK268) hb); replace HB := Aside0.mk (below_step Bq hb); clear hb ho0; (try clear A16); obtain ⟨Ao38, co38, eo38⟩ := Kd.N_slice HO308.out; subst eo38))
    go_loopg [14, 60] k (fun kq v14 v60 w' => ∃ (x14_1 : List (List Int)) (x60_1 : Int), v60 = .int .i64 x60_1 ∧ Aside0 (pke_Keys.l0 kq y284 t297 t303 x14_1 t306 (t306.length : Int) x60_1 = some (r1, r2, r3)) ∧ Aside0 (kq ≤ k) ∧ Aside0 (Kd.V (Kd.int .u8) 5 w' w.heap.size (fun k_ => (P1_ k_ ∨ w.heap.size ≤ k_) ∧ some k_ ≠ (v298 : Value).ownBlock ∧ some k_ ≠ (v304 : Value).ownBlock ∧ some k_ ≠ (v14 : Value).ownBlock ∧ some k_ ≠ ((.slice Ao38 t306.length co38) : Value).ownBlock ∧ k_ ≠ gb268) (.slice Ao27 y284.length co27) y284) ∧ Aside0 (Kd.N (Kd.slice 3 (Kd.int .i64)) 40 w' w.heap.size (fun k_ => (P1_ k_ ∨ w.heap.size ≤ k_) ∧ some k_ ≠ (v304 : Value).ownBlock ∧ some k_ ≠ (v14 : Value).ownBlock ∧ some k_ ≠ ((.slice Ao38 t306.length co38) : Value).ownBlock ∧ k_ ≠ gb268) v298 t297) ∧ Aside0 (Kd.N (Kd.slice 3 (Kd.int .i64)) 40 w' w.heap.size (fun k_ => (P1_ k_ ∨ w.heap.size ≤ k_) ∧ some k_ ≠ (v298 : Value).ownBlock ∧ some k_ ≠ (v14 : Value).ownBlock ∧ some k_ ≠ ((.slice Ao38 t306.length co38) : Value).ownBlock ∧ k_ ≠ gb268) v304 t303) ∧ Aside0 (Kd.N (Kd.slice 3 (Kd.int .i64)) 40 w' w.heap.size (fun k_ => (P1_ k_ ∨ w.heap.size ≤ k_) ∧ some k_ ≠ (v298 : Value).ownBlock ∧ some k_ ≠ (v304 : Value).ownBlock ∧ some k_ ≠ ((.slice Ao38 t306.length co38) : Value).ownBlock ∧ k_ ≠ gb268) v14 x14_1) ∧ Aside0 (Kd.N (Kd.slice 40 (Kd.slice 3 (Kd.int .i64))) 49 w' w.heap.size (fun k_ => (P1_ k_ ∨ w.heap.size ≤ k_) ∧ some k_ ≠ (v298 : Value).ownBlock ∧ some k_ ≠ (v304 : Value).ownBlock ∧ some k_ ≠ (v14 : Value).ownBlock ∧ k_ ≠ gb268) (.slice Ao38 t306.length co38) t306) ∧ Aside0 (w'.heap[gb268]? = some (.cells #[.int .i64 t262, .int .i64 t263, .int .i64 t264, .int .i64 t265, .int .i64 t266] 34 (0, 0))) ∧ Aside0 (Below w.heap.size w w'))
    case atStart => exact ⟨(([] : List (List Int))), (0), Rq, H', ⟨Nat.le_refl _⟩, ⟨by (with_reducible repeat (first | apply Kd.V_alloc | apply Kd.V_drewN | apply Kd.V_drew)); exact Kd.V_mono HO288.out (fun _ hk => ⟨hk.1.1.1.1.1.1.1.1, ⟨hk.1.1.1.2, ⟨hk.1.2, ⟨(by simp [Value.ownBlock]), ⟨hk.2, hk.1.1.1.1.1.2⟩⟩⟩⟩⟩)⟩, ⟨by (with_reducible repeat (first | apply Kd.N_alloc | apply Kd.N_drewN | apply Kd.N_drew)); exact Kd.N_mono HO299.out (fun _ hk => ⟨hk.1.1.1.1, ⟨hk.1.2, ⟨(by simp [Value.ownBlock]), ⟨hk.2, hk.1.1.1.2.2.2.2⟩⟩⟩⟩)⟩, ⟨by (with_reducible repeat (first | apply Kd.N_alloc | apply Kd.N_drewN | apply Kd.N_drew)); exact Kd.N_mono HO305.out (fun _ hk => ⟨hk.1.1, ⟨hk.1.2.2.2.2.1, ⟨(by simp [Value.ownBlock]), ⟨hk.2, hk.1.2.2.2.2.2.2⟩⟩⟩⟩)⟩, ⟨by first | exact Kd.S_nil _ _ _ _ _ | exact Kd.N_nil _ _ _ _ _ | exact Kd.V_nil _ _ _ _ _ | exact Kd.Q_nil _ _ _ _ _ | exact Kd.R_nil _ _ _ _ _⟩, ⟨by (with_reducible repeat (first | apply Kd.N_alloc | apply Kd.N_drewN | apply Kd.N_drew)); exact Kd.N_mono HO308.out (fun _ hk => ⟨hk.1, ⟨hk.2.2.2.2.1, ⟨hk.2.2.2.2.2.2.1, ⟨(by simp [Value.ownBlock]), hk.2.2.2.2.2.2.2⟩⟩⟩⟩)⟩, ⟨by (with_reducible repeat (first | refine blk_drewN ?_ _ | refine blk_drew ?_ | refine blk_alloc ?_ _)); exact BK268.out⟩, ⟨Bq⟩⟩
    case round =>
     clear H'
     try clear c1
     try clear c2
     try clear p2
     try clear q2
     try clear c7
     try clear c8
     try clear c8b0
     try clear c8b1
     try clear c10
     try clear c10b0
     try clear c10b1
     try clear c11
     try clear c11b0
     try clear c13
     try clear c15
     try clear q26
     try clear c27
     try clear c28
     try clear q28
     try clear c29
     try clear hcz17_0
     try clear hcz17_1
     try clear hcz17_2
     try clear hcz17_3
     try clear hcz17_4
     try clear hcz36_0
     try clear hcz36_1
     try clear hcz36_2
     try clear hcz36_3
     try clear hcz36_4
     try clear hcz6_0
     try clear hcz6_1
     try clear hcz6_2
     try clear hcz6_3
     try clear hcz6_4
     try clear hfz17_0
     try clear hfz17_1
     try clear hfz17_2
     try clear hfz17_3
     try clear hfz17_4
     try clear hfz36_0
     try clear hfz36_1
     try clear hfz36_2
     try clear hfz36_3
     try clear hfz36_4
     try clear hfz6_0
     try clear hfz6_1
     try clear hfz6_2
     try clear hfz6_3
     try clear hfz6_4
     try clear q26
     try clear q28
     obtain ⟨x14_1, x60_1, rfl, HA, HK1, HO_10, HO_12, HO_13, HO_14, HO_58, BK268, HB⟩ := hrel
     cases gk with
     | zero => exact absurd HA.out (by simp [pke_Keys.l0])
     | succ k1 =>
      have H := HA.out
      clear HA
      simp only [pke_Keys.l0] at H
      by_cases c39 : x60_1 < (t306.length : Int)
      ·rw [if_pos c39] at H
       have c39b0 : decide (x60_1 < (t306.length : Int)) = true := decide_eq_true c39
       clear c39
       by_cases c40 : 0 ≤ x60_1
       ·rw [if_pos c40] at H
        have c40b0 : decide (0 ≤ x60_1) = true := decide_eq_true c40
        clear c40
        by_cases c41 : x60_1 < (t306.length : Int)
        ·rw [if_pos c41] at H
         have c41b0 : decide (x60_1 < (t306.length : Int)) = true := decide_eq_true c41
         clear c41
         replace H := Option.bind_eq_some_iff.mp H
         obtain ⟨t310, A420, H⟩ := H
         try dsimp only at H
         have A42 := Aside0.mk A420
         clear A420
         by_cases c43 : x60_1 < (t303.length : Int)
         ·rw [if_pos c43] at H
          have c43b0 : decide (x60_1 < (t303.length : Int)) = true := decide_eq_true c43
          clear c43
          replace H := Option.bind_eq_some_iff.mp H
          obtain ⟨t314, A440, H⟩ := H
          try dsimp only at H
          have A44 := Aside0.mk A440
          clear A440
          by_cases c45 : x14_1.length < 5864062014805
          ·rw [if_pos c45] at H
           have LMc45 := Aside0.mk c45
           clear c45
           obtain ⟨y317, Ny317⟩ : ∃ y_ : List (List Int), Aside0 (y_ = (x14_1 ++ [t314])) := ⟨_, ⟨rfl⟩⟩
           first | rw [Option.bind_some, ← Ny317.out] at H | rw [← Ny317.out] at H
           have H' := Aside0.mk H
           clear H
           have p309 : 0 ≤ (x60_1 : Int) := of_decide_eq_true Aq
           have q309 : x60_1 < (t306.length : Int) := of_decide_eq_true Aq
           obtain ⟨ad309, A309_0, c309_0, e309, hx309_0, hl309_0, hi309_0⟩ := at_L6 (Kd.N_reads' HO_58.out).2.2 x60_1 p309 q309
           cases e309
           obtain ⟨ce309, hce309, hMe309, hcc309⟩ := Kd.N_get HO_58.out [] x60_1 p309 (by first | exact q309 | exact of_decide_eq_true Aq | (have e_ := (Kd.N_reads' HO_58.out).1; omega))
           obtain ⟨ua309_0, uc309_0, rfl, ul309_0, ge309_0⟩ := Kd.FK_slice_open hMe309
           have hv309_0 := hcc309 0 _ rfl
           rw [Nat.add_zero, show ((Kd.slice 40 (Kd.slice 3 (Kd.int .i64)))).sz = 1 from rfl, Nat.mul_one] at hv309_0
           replace hv309_0 := Option.some.inj (hv309_0.symm.trans hx309_0)
           injection hv309_0 with hva_ hvn_ hvc_
           rw [hva_] at ge309_0
           rw [hvc_] at ul309_0
           have HL309_0 := Aside0.mk (show Kd.V (Kd.slice 3 (Kd.int .i64)) 40 _ w.heap.size _ _ (rd_L6 t306 x60_1) from Kd.V_mk ul309_0 ge309_0)
           clear hva_ hvn_ hvc_ ge309_0 ul309_0
           clear hcc309 hce309
           have HR309_0 := Aside0.mk hi309_0
           have HC309_0 := Aside0.mk hl309_0
           clear hi309_0 hl309_0
           replace p309 := eq_true p309
           replace q309 := eq_true q309
           try go_wp2
           replace HO_10 := Aside0.mk (Kd.V_drew HO_10.out)
           replace HO_12 := Aside0.mk (Kd.N_drew HO_12.out)
           replace HO_13 := Aside0.mk (Kd.N_drew HO_13.out)
           replace HO_14 := Aside0.mk (Kd.N_drew HO_14.out)
           replace HO_58 := Aside0.mk (Kd.N_drew HO_58.out)
           replace HL309_0 := Aside0.mk (Kd.V_drew HL309_0.out)
           replace BK268 := Aside0.mk (blk_drew BK268.out)
           replace HR309_0 := Aside0.mk (Kd.C_drew HR309_0.out)
           replace HB := Aside0.mk (below_drew1 HB.out)
           obtain ⟨Ao47, co47, eo47⟩ := Kd.N_slice HO_13.out
           (first | subst eo47 | (injection eo47 with f1_ f2_ f3_; have f4_ := f1_.symm; have f5_ := f3_.symm; clear f1_ f2_ f3_; subst f4_; subst f5_))
           have p313 : 0 ≤ (x60_1 : Int) := of_decide_eq_true Aq
           have q313 : x60_1 < (t303.length : Int) := of_decide_eq_true Aq
           obtain ⟨ad313, A313_0, c313_0, e313, hx313_0, hl313_0, hi313_0⟩ := at_L3 (Kd.N_reads' HO_13.out).2.2 x60_1 p313 q313
           cases e313
           obtain ⟨ce313, hce313, hMe313, hcc313⟩ := Kd.N_get HO_13.out [] x60_1 p313 (by first | exact q313 | exact of_decide_eq_true Aq | (have e_ := (Kd.N_reads' HO_13.out).1; omega))
           obtain ⟨ua313_0, uc313_0, rfl, ul313_0, ge313_0⟩ := Kd.FK_slice_open hMe313
           have hv313_0 := hcc313 0 _ rfl
           rw [Nat.add_zero, show ((Kd.slice 3 (Kd.int .i64))).sz = 1 from rfl, Nat.mul_one] at hv313_0
           replace hv313_0 := Option.some.inj (hv313_0.symm.trans hx313_0)
           injection hv313_0 with hva_ hvn_ hvc_
           rw [hva_] at ge313_0
           rw [hvc_] at ul313_0
           have HL313_0 := Aside0.mk (show Kd.V (Kd.int .i64) 3 _ w.heap.size _ _ (rd_L3 t303 x60_1) from Kd.V_mk ul313_0 ge313_0)
           clear hva_ hvn_ hvc_ ge313_0 ul313_0
           clear hcc313 hce313
           have HR313_0 := Aside0.mk hi313_0
           have HC313_0 := Aside0.mk hl313_0
           clear hi313_0 hl313_0
           replace p313 := eq_true p313
           replace q313 := eq_true q313
           obtain ⟨Ao48, co48, eo48⟩ := Kd.N_slice HO_12.out
           (first | subst eo48 | (injection eo48 with f1_ f2_ f3_; have f4_ := f1_.symm; have f5_ := f3_.symm; clear f1_ f2_ f3_; subst f4_; subst f5_))
           refine start_ (n := 12) (S := fun w' => w'.cell? (ad313.add (x60_1).toNat) = some (.slice A313_0 (rd_L3 t303 x60_1).length c313_0)) (ds := [9, 10]) (bl 12 0) (by kernel_rfl) rfl rfl (hx313_0) (fun hHeld => ?_); refine with_tabW pke_Keys.tab13 pke_Keys.bits13 (fun HT_ HW_ => ?_)
           generalize wr.drew = w46 at HO_10 HO_12 HO_13 HO_14 HO_58 HL309_0 BK268 HR309_0 HB HL313_0 HR313_0 hx313_0 hHeld ⊢
           refine pq 0 (some 65) (bl 12 1) ?_
           refine pq 1 (some 66) (bl 12 3) ?_
           refine pq 2 (some 67) (bl 12 7) ?_
           refine pq 4 (some 69) (bl 12 23) ?_
           refine pq 5 (some 70) (bl 12 55) ?_
           refine pq 6 (some 71) (bl 12 119) ?_
           refine tq 7 (some 72) (bl 12 247) ?_
           refine one_ (i := 3) (N := some 68) (bl 12 255) rfl rfl (one_of HT_.out (by kernel_rfl)) (by decide) (fun K hK => ?_)
           refine goes_ Tryd.func31 (by kernel_rfl) rfl #[.slice A309_0 (rd_L6 t306 x60_1).length c309_0, .slice Ao48 t297.length co48] (by rfl) rfl rfl Mq ?_
           with_reducible refine (poly_Dot.calls k1 _ _ (rd_L6 t306 x60_1) _ _ t297 t310 _ ?side1 ?side2 ?side3 ?side4 A42.out).mono ?_
           (case side1 => repeat (first | exact (by repeat (first | (with_reducible exact HR309_0.out) | (with_reducible refine Kd.C_alloc ?_ _) | (with_reducible refine Kd.C_drewN ?_ _) | (with_reducible refine Kd.C_drew ?_) | exact HR309_0.out)) | (with_reducible refine Kd.C_alloc ?_ _) | (with_reducible refine Kd.C_drewN ?_ _) | (with_reducible refine Kd.C_drew ?_)))
           (case side2 => exact HC309_0.out)
           (case side3 => repeat (first | exact (Kd.N_reads' HO_12.out).2.2 | (with_reducible refine Kd.C_alloc ?_ _) | (with_reducible refine Kd.C_drewN ?_ _) | (with_reducible refine Kd.C_drew ?_)))
           (case side4 => exact (Kd.N_reads' HO_12.out).2.1)
           rintro e w49 ⟨v311, rfl, ho0, hb⟩
           have HS0_ := (hb.cell (World.block_lt_of_cell? _ _ (hHeld))).trans (hHeld)
           refine ⟨_, rfl, ?_⟩
           replace HO_10 := Aside0.mk (Kd.V_elder' (Wq HO_10) (Kd.R_base ho0) hb)
           replace HO_12 := Aside0.mk (Kd.N_elder' (Wq HO_12) (Kd.R_base ho0) hb)
           replace HO_13 := Aside0.mk (Kd.N_elder' (Wq HO_13) (Kd.R_base ho0) hb)
           replace HO_14 := Aside0.mk (Kd.N_elder' (Wq HO_14) (Kd.R_base ho0) hb)
           replace HO_58 := Aside0.mk (Kd.N_elder' (Wq HO_58) (Kd.R_base ho0) hb)
           replace HL309_0 := Aside0.mk (Kd.V_elder' (Wq HL309_0) (Kd.R_base ho0) hb)
           replace HL313_0 := Aside0.mk (Kd.V_elder' (Wq HL313_0) (Kd.R_base ho0) hb)
           have HO312 := Aside0.mk (Kd.R_lower (Kd.R_newM (M := fun k_ => (w.heap.size ≤ k_)) ho0 (below_size Bq) (fun k_ h_ => h_)) (below_size Bq))
           replace BK268 := Aside0.mk (blk_below (g := gb268) (o := .cells #[.int .i64 t262, .int .i64 t263, .int .i64 t264, .int .i64 t265, .int .i64 t266] 34 (0, 0)) (Kq BK268) hb)
           replace HR309_0 := Aside0.mk (Kd.C_below (by repeat (first | (with_reducible exact HR309_0.out) | (with_reducible refine Kd.C_alloc ?_ _) | (with_reducible refine Kd.C_drewN ?_ _) | (with_reducible refine Kd.C_drew ?_) | exact HR309_0.out)) hb)
           replace HR313_0 := Aside0.mk (Kd.C_below (by repeat (first | (with_reducible exact HR313_0.out) | (with_reducible refine Kd.C_alloc ?_ _) | (with_reducible refine Kd.C_drewN ?_ _) | (with_reducible refine Kd.C_drew ?_) | exact HR313_0.out)) hb)
           replace HB := Aside0.mk (below_step Bq hb)
           clear hb ho0; (try clear A42)
           obtain ⟨Ao50, co50, eo50⟩ := Kd.R_slice HO312.out
           (first | subst eo50 | (injection eo50 with f1_ f2_ f3_; have f4_ := f1_.symm; have f5_ := f3_.symm; clear f1_ f2_ f3_; subst f4_; subst f5_))
           refine hK.out _ _ (HS0_) (fun hHeld => ?_)
           clear hK K
           refine norm_ (a' := ?_) ?_ ?_
           rotate_left
           ·show Act.put _ (some 68) _ = _
            simp only [Act.put, List.setIfInBounds_toArray, List.set_cons_zero, List.set_cons_succ, i64_w, i32_w]
            rfl
           refine one_ (i := 8) (N := some 73) (bl 12 511) rfl rfl (one_of HT_.out (by kernel_rfl)) (by decide) (fun K hK => ?_)
           refine goes_ Tryd.func30 (by kernel_rfl) rfl #[.slice Ao50 t310.length co50, .slice A313_0 (rd_L3 t303 x60_1).length c313_0] (by rfl) rfl rfl Mq ?_
           with_reducible refine (poly_Add.calls k1 _ _ t310 _ _ (rd_L3 t303 x60_1) t314 _ ?side1 ?side2 ?side3 ?side4 A44.out).mono ?_
           (case side1 => repeat (first | exact (Kd.R_reads' HO312.out).2.2 | (with_reducible refine Kd.C_alloc ?_ _) | (with_reducible refine Kd.C_drewN ?_ _) | (with_reducible refine Kd.C_drew ?_)))
           (case side2 => exact (Kd.R_reads' HO312.out).2.1)
           (case side3 => repeat (first | exact (by repeat (first | (with_reducible exact HR313_0.out) | (with_reducible refine Kd.C_alloc ?_ _) | (with_reducible refine Kd.C_drewN ?_ _) | (with_reducible refine Kd.C_drew ?_) | exact HR313_0.out)) | (with_reducible refine Kd.C_alloc ?_ _) | (with_reducible refine Kd.C_drewN ?_ _) | (with_reducible refine Kd.C_drew ?_)))
           (case side4 => exact HC313_0.out)
           rintro e w51 ⟨v315, rfl, ho0, hb⟩
           have HS0_ := (hb.cell (World.block_lt_of_cell? _ _ (hHeld))).trans (hHeld)
           refine ⟨_, rfl, ?_⟩
           replace HO_10 := Aside0.mk (Kd.V_elder' (Wq HO_10) (Kd.R_base ho0) hb)
           replace HO_12 := Aside0.mk (Kd.N_elder' (Wq HO_12) (Kd.R_base ho0) hb)
           replace HO_13 := Aside0.mk (Kd.N_elder' (Wq HO_13) (Kd.R_base ho0) hb)
           replace HO_14 := Aside0.mk (Kd.N_elder' (Wq HO_14) (Kd.R_base ho0) hb)
           replace HO_58 := Aside0.mk (Kd.N_elder' (Wq HO_58) (Kd.R_base ho0) hb)
           replace HL309_0 := Aside0.mk (Kd.V_elder' (Wq HL309_0) (Kd.R_base ho0) hb)
           replace HL313_0 := Aside0.mk (Kd.V_elder' (Wq HL313_0) (Kd.R_base ho0) hb)
           have HO316 := Aside0.mk (Kd.R_lower (Kd.R_new' (Kd.R_newM (M := fun k_ => (w.heap.size ≤ k_)) ho0 (below_size Bq) (fun k_ h_ => h_)) (Kd.R_lt (Wq HO312))) (below_size Bq))
           replace HO312 := Aside0.mk (Kd.R_elder' (Wq HO312) (Kd.R_base ho0) hb)
           replace BK268 := Aside0.mk (blk_below (g := gb268) (o := .cells #[.int .i64 t262, .int .i64 t263, .int .i64 t264, .int .i64 t265, .int .i64 t266] 34 (0, 0)) (Kq BK268) hb)
           replace HR309_0 := Aside0.mk (Kd.C_below (by repeat (first | (with_reducible exact HR309_0.out) | (with_reducible refine Kd.C_alloc ?_ _) | (with_reducible refine Kd.C_drewN ?_ _) | (with_reducible refine Kd.C_drew ?_) | exact HR309_0.out)) hb)
           replace HR313_0 := Aside0.mk (Kd.C_below (by repeat (first | (with_reducible exact HR313_0.out) | (with_reducible refine Kd.C_alloc ?_ _) | (with_reducible refine Kd.C_drewN ?_ _) | (with_reducible refine Kd.C_drew ?_) | exact HR313_0.out)) hb)
           replace HB := Aside0.mk (below_step Bq hb)
           clear hb ho0; (try clear A44)
           obtain ⟨Ao53, co53, eo53⟩ := Kd.R_slice HO316.out
           (first | subst eo53 | (injection eo53 with f1_ f2_ f3_; have f4_ := f1_.symm; have f5_ := f3_.symm; clear f1_ f2_ f3_; subst f4_; subst f5_))
           refine hK.out _ _ (HS0_) (fun hHeld => ?_)
           clear hK K
           refine norm_ (a' := ?_) ?_ ?_
           rotate_left
           ·show Act.put _ (some 73) _ = _
            simp only [Act.put, List.setIfInBounds_toArray, List.set_cons_zero, List.set_cons_succ, i64_w, i32_w]
            rfl
           refine last_ (i := 9) (N := some 74) (bl 12 1023) rfl rfl (one_of HT_.out (by kernel_rfl)) (by decide) (fun K hK => ?_)
           refine value_ (w1 := ?_) (v := ?_) (by rfl) rfl ?_ ?_
           rotate_left 2
           ·go_simp
            constructor
            ·rfl
            ·rfl
           refine hK.out _ _ ?_
           clear hK K
           refine norm_ (a' := ?_) ?_ ?_
           rotate_left
           ·show Act.put _ (some 74) _ = _
            simp only [Act.put, List.setIfInBounds_toArray, List.set_cons_zero, List.set_cons_succ, i64_w, i32_w]
            rfl
           refine last_ (i := 10) (N := some 75) (bl 12 2047) rfl rfl (one_of HT_.out (by kernel_rfl)) (by decide) (fun K hK => ?_)
           refine Kd.N_append_step (Kd.slice 3 (Kd.int .i64)) (w0 := w) w.heap.size (by rfl) (.tmp 65) (.tmp 74) 49 40 (.slice none 0 0) 24 rfl Tryd.underlying49 info40 rfl (by decide) (by omega) u14 x14_1 t314 [.slice Ao53 t314.length co53] (fun k_ => (P1_ k_ ∨ w.heap.size ≤ k_) ∧ some k_ ≠ (.slice Ao48 t297.length co48 : Value).ownBlock ∧ some k_ ≠ (.slice (some ad313) t303.length co47 : Value).ownBlock ∧ some k_ ≠ (.slice (some ad309) t306.length co38 : Value).ownBlock ∧ some k_ ≠ (.slice Ao50 t310.length co50 : Value).ownBlock ∧ k_ ≠ gb268) (fun k_ => ((fun k_ => (P1_ k_ ∨ w.heap.size ≤ k_) ∧ some k_ ≠ (.slice Ao48 t297.length co48 : Value).ownBlock ∧ some k_ ≠ (.slice (some ad313) t303.length co47 : Value).ownBlock ∧ some k_ ≠ (.slice (some ad309) t306.length co38 : Value).ownBlock ∧ some k_ ≠ (.slice Ao50 t310.length co50 : Value).ownBlock ∧ k_ ≠ gb268)) k_ ∧ some k_ ≠ (u14 : Value).ownBlock) rfl rfl ?aP (fun _ hk => hk) ?aF ?aO ?aB ?aS ?aL ?_
           (case aP => exact (Kd.FK_slice_mk (Kd.R_reads' (Kd.R_mono (ok' := (fun k_ => ((fun k_ => (P1_ k_ ∨ w.heap.size ≤ k_) ∧ some k_ ≠ (.slice Ao48 t297.length co48 : Value).ownBlock ∧ some k_ ≠ (.slice (some ad313) t303.length co47 : Value).ownBlock ∧ some k_ ≠ (.slice (some ad309) t306.length co38 : Value).ownBlock ∧ some k_ ≠ (.slice Ao50 t310.length co50 : Value).ownBlock ∧ k_ ≠ gb268)) k_ ∧ some k_ ≠ (u14 : Value).ownBlock)) (Kd.R_types (Kd.R_apart' (Kd.R_apart' (Kd.R_apart' (Kd.R_apart' (HO316.out) (Kd.N_typed HO_12.out) (by decide)) (Kd.N_typed HO_13.out) (by decide)) (Kd.N_typed HO_58.out) (by decide)) (Kd.N_typed HO_14.out) (by decide)) BK268.out (by decide)) (fun k_ hk => ⟨⟨(.inr (hk.1.1.1.1.1.1.1)), ⟨hk.1.1.1.1.2, ⟨hk.1.1.1.2, ⟨hk.1.1.2, ⟨hk.1.1.1.1.1.2, hk.2⟩⟩⟩⟩⟩, hk.1.2⟩))).2.1 (by (with_reducible repeat (first | apply Kd.F_alloc | apply Kd.F_drewN | apply Kd.F_drew)); exact Kd.R_F (Kd.R_mono (ok' := (fun k_ => ((fun k_ => (P1_ k_ ∨ w.heap.size ≤ k_) ∧ some k_ ≠ (.slice Ao48 t297.length co48 : Value).ownBlock ∧ some k_ ≠ (.slice (some ad313) t303.length co47 : Value).ownBlock ∧ some k_ ≠ (.slice (some ad309) t306.length co38 : Value).ownBlock ∧ some k_ ≠ (.slice Ao50 t310.length co50 : Value).ownBlock ∧ k_ ≠ gb268)) k_ ∧ some k_ ≠ (u14 : Value).ownBlock)) (Kd.R_types (Kd.R_apart' (Kd.R_apart' (Kd.R_apart' (Kd.R_apart' (HO316.out) (Kd.N_typed HO_12.out) (by decide)) (Kd.N_typed HO_13.out) (by decide)) (Kd.N_typed HO_58.out) (by decide)) (Kd.N_typed HO_14.out) (by decide)) BK268.out (by decide)) (fun k_ hk => ⟨⟨(.inr (hk.1.1.1.1.1.1.1)), ⟨hk.1.1.1.1.2, ⟨hk.1.1.1.2, ⟨hk.1.1.2, ⟨hk.1.1.1.1.1.2, hk.2⟩⟩⟩⟩⟩, hk.1.2⟩)))))
           (case aB => exact Bq)
           (case aF => exact (fun k_ hk => ⟨(.inr (Nat.le_trans (below_size Bq) hk)), Kd.fresh' (Kd.N_lt (Wq HO_12)) k_ hk, Kd.fresh' (Kd.N_lt (Wq HO_13)) k_ hk, Kd.fresh' (Kd.N_lt (Wq HO_58)) k_ hk, Kd.fresh' (Kd.R_lt (Wq HO312)) k_ hk, Kd.freshB (g := gb268) (o := .cells #[.int .i64 t262, .int .i64 t263, .int .i64 t264, .int .i64 t265, .int .i64 t266] 34 (0, 0)) (Kq BK268) k_ hk⟩))
           (case aO => exact (by (with_reducible repeat (first | apply Kd.N_alloc | apply Kd.N_drewN | apply Kd.N_drew)); exact Kd.N_mono HO_14.out (fun _ hk => ⟨hk.1.1.1, ⟨hk.1.1.2.1, ⟨hk.1.1.2.2.1, ⟨hk.1.1.2.2.2.1, ⟨hk.1.2, hk.1.1.2.2.2.2⟩⟩⟩⟩⟩)))
           (case aS => exact (below_size Bq))
           (case aL => have := LMc45.out; omega)
           intro v318 w52 ho hb hg hat
           rw [← Ny317.out] at ho
           replace HO_10 := Aside0.mk (Kd.V_afterv (ok := (fun k_ => (P1_ k_ ∨ w.heap.size ≤ k_) ∧ some k_ ≠ (.slice Ao48 t297.length co48 : Value).ownBlock ∧ some k_ ≠ (.slice (some ad313) t303.length co47 : Value).ownBlock ∧ some k_ ≠ (.slice (some ad309) t306.length co38 : Value).ownBlock ∧ some k_ ≠ (.slice Ao50 t310.length co50 : Value).ownBlock ∧ some k_ ≠ (.slice Ao53 t314.length co53 : Value).ownBlock ∧ k_ ≠ gb268)) (by (with_reducible repeat (first | apply Kd.V_alloc | apply Kd.V_drewN | apply Kd.V_drew)); exact Kd.V_mono HO_10.out (fun _ hk => ⟨⟨hk.1.1.1, ⟨hk.1.1.2.1, ⟨hk.1.1.2.2.1, ⟨hk.1.1.2.2.2.2.1, ⟨hk.1.2, ⟨hk.2, hk.1.1.2.2.2.2.2⟩⟩⟩⟩⟩⟩, hk.1.1.2.2.2.1⟩)) hg hat)
           replace HO_12 := Aside0.mk (Kd.N_afterv (ok := (fun k_ => (P1_ k_ ∨ w.heap.size ≤ k_) ∧ some k_ ≠ (.slice (some ad313) t303.length co47 : Value).ownBlock ∧ some k_ ≠ (.slice (some ad309) t306.length co38 : Value).ownBlock ∧ some k_ ≠ (.slice Ao50 t310.length co50 : Value).ownBlock ∧ some k_ ≠ (.slice Ao53 t314.length co53 : Value).ownBlock ∧ k_ ≠ gb268)) (by (with_reducible repeat (first | apply Kd.N_alloc | apply Kd.N_drewN | apply Kd.N_drew)); exact Kd.N_mono HO_12.out (fun _ hk => ⟨⟨hk.1.1.1, ⟨hk.1.1.2.1, ⟨hk.1.1.2.2.2.1, ⟨hk.1.2, ⟨hk.2, hk.1.1.2.2.2.2⟩⟩⟩⟩⟩, hk.1.1.2.2.1⟩)) hg hat)
           replace HO_13 := Aside0.mk (Kd.N_afterv (ok := (fun k_ => (P1_ k_ ∨ w.heap.size ≤ k_) ∧ some k_ ≠ (.slice Ao48 t297.length co48 : Value).ownBlock ∧ some k_ ≠ (.slice (some ad309) t306.length co38 : Value).ownBlock ∧ some k_ ≠ (.slice Ao50 t310.length co50 : Value).ownBlock ∧ some k_ ≠ (.slice Ao53 t314.length co53 : Value).ownBlock ∧ k_ ≠ gb268)) (by (with_reducible repeat (first | apply Kd.N_alloc | apply Kd.N_drewN | apply Kd.N_drew)); exact Kd.N_mono HO_13.out (fun _ hk => ⟨⟨hk.1.1.1, ⟨hk.1.1.2.1, ⟨hk.1.1.2.2.2.1, ⟨hk.1.2, ⟨hk.2, hk.1.1.2.2.2.2⟩⟩⟩⟩⟩, hk.1.1.2.2.1⟩)) hg hat)
           replace HO_58 := Aside0.mk (Kd.N_afterv (ok := (fun k_ => (P1_ k_ ∨ w.heap.size ≤ k_) ∧ some k_ ≠ (.slice Ao48 t297.length co48 : Value).ownBlock ∧ some k_ ≠ (.slice (some ad313) t303.length co47 : Value).ownBlock ∧ some k_ ≠ (.slice Ao50 t310.length co50 : Value).ownBlock ∧ some k_ ≠ (.slice Ao53 t314.length co53 : Value).ownBlock ∧ k_ ≠ gb268)) (by (with_reducible repeat (first | apply Kd.N_alloc | apply Kd.N_drewN | apply Kd.N_drew)); exact Kd.N_mono HO_58.out (fun _ hk => ⟨⟨hk.1.1.1, ⟨hk.1.1.2.1, ⟨hk.1.1.2.2.1, ⟨hk.1.2, ⟨hk.2, hk.1.1.2.2.2.2⟩⟩⟩⟩⟩, hk.1.1.2.2.2.1⟩)) hg hat)
           replace BK268 := Aside0.mk (blk_grown (g := gb268) (o := .cells #[.int .i64 t262, .int .i64 t263, .int .i64 t264, .int .i64 t265, .int .i64 t266] 34 (0, 0)) (Kq BK268) hg (Kd.N_ne HO_14.out BK268.out (by decide)))
           replace HL309_0 := Aside0.mk (Kd.V_afterv (ok := (fun k_ => (P1_ k_ ∨ w.heap.size ≤ k_) ∧ some k_ ≠ (.slice Ao48 t297.length co48 : Value).ownBlock ∧ some k_ ≠ (.slice (some ad313) t303.length co47 : Value).ownBlock ∧ some k_ ≠ (.slice (some ad309) t306.length co38 : Value).ownBlock ∧ some k_ ≠ (.slice Ao50 t310.length co50 : Value).ownBlock ∧ some k_ ≠ (.slice Ao53 t314.length co53 : Value).ownBlock ∧ k_ ≠ gb268)) (by (with_reducible repeat (first | apply Kd.V_alloc | apply Kd.V_drewN | apply Kd.V_drew)); exact Kd.V_mono HL309_0.out (fun _ hk => ⟨⟨hk.1.1.1.1, ⟨hk.1.1.1.2.1, ⟨hk.1.1.1.2.2.1, ⟨hk.1.1.2, ⟨hk.1.2, ⟨hk.2, hk.1.1.1.2.2.2.2⟩⟩⟩⟩⟩⟩, hk.1.1.1.2.2.2.1⟩)) hg hat)
           replace HL313_0 := Aside0.mk (Kd.V_afterv (ok := (fun k_ => (P1_ k_ ∨ w.heap.size ≤ k_) ∧ some k_ ≠ (.slice Ao48 t297.length co48 : Value).ownBlock ∧ some k_ ≠ (.slice (some ad313) t303.length co47 : Value).ownBlock ∧ some k_ ≠ (.slice (some ad309) t306.length co38 : Value).ownBlock ∧ some k_ ≠ (.slice Ao50 t310.length co50 : Value).ownBlock ∧ some k_ ≠ (.slice Ao53 t314.length co53 : Value).ownBlock ∧ k_ ≠ gb268)) (by (with_reducible repeat (first | apply Kd.V_alloc | apply Kd.V_drewN | apply Kd.V_drew)); exact Kd.V_mono HL313_0.out (fun _ hk => ⟨⟨hk.1.1.1.1, ⟨hk.1.1.1.2.1, ⟨hk.1.1.2, ⟨hk.1.1.1.2.2.2.1, ⟨hk.1.2, ⟨hk.2, hk.1.1.1.2.2.2.2⟩⟩⟩⟩⟩⟩, hk.1.1.1.2.2.1⟩)) hg hat)
           replace HO312 := Aside0.mk (Kd.R_over' (Wq HO312) (Kd.N_typed (Wq HO_14)) (by decide) hg)
           replace HB := Aside0.mk (hb)
           have HO319 := Aside0.mk (ho)
           clear HO_14 HO316
           clear ho hb hg hat
           refine hK.out _ _ ?_
           clear hK K
           refine norm_ (a' := ?_) ?_ ?_
           rotate_left
           ·show Act.put _ (some 75) _ = _
            simp only [Act.put, List.setIfInBounds_toArray, List.set_cons_zero, List.set_cons_succ, i64_w, i32_w]
            rfl
           refine pq 11 (some 14) (bl 12 4095) ?_
           refine done_ (done_of HT_.out (by kernel_rfl)) ?_
           try go_wp2
           go_roundg k1
           case measure => have := HK1.out; omega
           case rel => exact ⟨(y317), (wrap64 (x60_1 + 1)), Rq, H', ⟨by have := HK1.out; omega⟩, ⟨by (with_reducible repeat (first | apply Kd.V_alloc | apply Kd.V_drewN | apply Kd.V_drew)); exact Kd.V_mono HO_10.out (fun _ hk => ⟨hk.1.1, ⟨hk.1.2.1, ⟨hk.1.2.2.1, ⟨hk.2, ⟨hk.1.2.2.2.1, hk.1.2.2.2.2.2.2⟩⟩⟩⟩⟩)⟩, ⟨by (with_reducible repeat (first | apply Kd.N_alloc | apply Kd.N_drewN | apply Kd.N_drew)); exact Kd.N_mono HO_12.out (fun _ hk => ⟨hk.1.1, ⟨hk.1.2.1, ⟨hk.2, ⟨hk.1.2.2.1, hk.1.2.2.2.2.2⟩⟩⟩⟩)⟩, ⟨by (with_reducible repeat (first | apply Kd.N_alloc | apply Kd.N_drewN | apply Kd.N_drew)); exact Kd.N_mono HO_13.out (fun _ hk => ⟨hk.1.1, ⟨hk.1.2.1, ⟨hk.2, ⟨hk.1.2.2.1, hk.1.2.2.2.2.2⟩⟩⟩⟩)⟩, ⟨by (with_reducible repeat (first | apply Kd.N_alloc | apply Kd.N_drewN | apply Kd.N_drew)); exact Kd.N_mono HO319.out (fun _ hk => ⟨hk.1, ⟨hk.2.1, ⟨hk.2.2.1, ⟨hk.2.2.2.1, hk.2.2.2.2.2⟩⟩⟩⟩)⟩, ⟨by (with_reducible repeat (first | apply Kd.N_alloc | apply Kd.N_drewN | apply Kd.N_drew)); exact Kd.N_mono HO_58.out (fun _ hk => ⟨hk.1.1, ⟨hk.1.2.1, ⟨hk.1.2.2.1, ⟨hk.2, hk.1.2.2.2.2.2⟩⟩⟩⟩)⟩, ⟨by (with_reducible repeat (first | refine blk_drewN ?_ _ | refine blk_drew ?_ | refine blk_alloc ?_ _)); exact BK268.out⟩, ⟨Bq⟩⟩
          ·rw [if_neg c45] at H
           exact absurd H (by simp)
         ·rw [if_neg c43] at H
          exact absurd H (by simp)
        ·rw [if_neg c41] at H
         exact absurd H (by simp)
       ·rw [if_neg c40] at H
        exact absurd H (by simp)
      ·rw [if_neg c39] at H
       have c39b0 : decide (x60_1 < (t306.length : Int)) = false := decide_eq_false c39
       clear c39
       replace H := Option.bind_eq_some_iff.mp H
       obtain ⟨t320, A540, H⟩ := H
       try dsimp only at H
       have A54 := Aside0.mk A540
       clear A540
       by_cases c55 : t320.length + y284.length < 140737488355328
       ·rw [if_pos c55] at H
        have LMc55 := Aside0.mk c55
        clear c55
        obtain ⟨y323, Ny323⟩ : ∃ y_ : List Int, Aside0 (y_ = (t320 ++ y284)) := ⟨_, ⟨rfl⟩⟩
        first | rw [Option.bind_some, ← Ny323.out] at H | rw [← Ny323.out] at H
        replace H := Option.bind_eq_some_iff.mp H
        obtain ⟨t326, A560, H⟩ := H
        try dsimp only at H
        have A56 := Aside0.mk A560
        clear A560
        simp only [Option.some.injEq, Prod.mk.injEq] at H
        obtain ⟨rfl, rfl, rfl⟩ := H
        obtain ⟨Ao57, co57, eo57⟩ := Kd.N_slice HO_14.out
        subst eo57
        go_wp2_with (first | ((with_reducible refine gate_callee (f := 32) rfl ?_); refine goesL_ (some 78) rfl rfl Tryd.func32 (by kernel_rfl) rfl #[.slice Ao57 x14_1.length co57] rfl Mq ?_; (with_reducible refine (pke_lay.calls k1 _ _ x14_1 t320 _ ?side1 ?side2 A54.out).mono ?_); (case side1 => repeat (first | exact (Kd.N_reads' HO_14.out).2.2 | (with_reducible refine Kd.C_alloc ?_ _) | (with_reducible refine Kd.C_drewN ?_ _) | (with_reducible refine Kd.C_drew ?_))); (case side2 => exact (Kd.N_reads' HO_14.out).2.1); rintro e w58 ⟨v321, rfl, ho0, hb⟩; refine ⟨_, rfl, ?_⟩; replace HO_10 := Aside0.mk (Kd.V_elder' (Wq HO_10) (Kd.R_base ho0) hb); replace HO_12 := Aside0.mk (Kd.N_elder' (Wq HO_12) (Kd.R_base ho0) hb); replace HO_13 := Aside0.mk (Kd.N_elder' (Wq HO_13) (Kd.R_base ho0) hb); replace HO_14 := Aside0.mk (Kd.N_elder' (Wq HO_14) (Kd.R_base ho0) hb); replace HO_58 := Aside0.mk (Kd.N_elder' (Wq HO_58) (Kd.R_base ho0) hb); have HO322 := Aside0.mk (Kd.R_lower (Kd.R_newM (M := fun k_ => (w.heap.size ≤ k_)) ho0 (below_size Bq) (fun k_ h_ => h_)) (below_size Bq)); replace BK268 := Aside0.mk (blk_below (g := gb268) (o := .cells #[.int .i64 t262, .int .i64 t263, .int .i64 t264, .int .i64 t265, .int .i64 t266] 34 (0, 0)) (Kq BK268) hb); replace HB := Aside0.mk (below_step Bq hb); clear hb ho0; (try clear A54)) | ((with_reducible refine gate_builtin (b := .append) (xs := #[.tmp 78, .tmp 79]) rfl ?_); at_builtin; refine Kd.R_append_rows (Kd.int .u8) (w0 := w) w.heap.size rfl (.tmp 78) (.tmp 79) 22 5 (.int .u8 0) 1 rfl Tryd.underlying22 info5 rfl (by decide) (by omega) v321 t320 y284 _ _ _ (fun k_ => (w.heap.size ≤ k_)) (fun _ => False) rfl rfl ?aO ?aR (fun _ _ h => h) (fun _ h => h.elim) ?aF ?aB ?aS ?aL ?_; (case aR => repeat (first | exact (Kd.V_reads' HO_10.out).2.2 | (with_reducible refine Kd.C_alloc ?_ _) | (with_reducible refine Kd.C_drewN ?_ _) | (with_reducible refine Kd.C_drew ?_))); (case aB => exact Bq); (case aF => exact (fun k_ hk => (Nat.le_trans (below_size Bq) hk))); (case aO => exact (by (with_reducible repeat (first | apply Kd.R_alloc | apply Kd.R_drewN | apply Kd.R_drew)); exact Kd.R_mono HO322.out (fun _ hk => hk.1))); (case aS => exact (below_size Bq)); (case aL => have := LMc55.out; omega); intro v324 w59 ho hb hg hat; rw [← Ny323.out] at ho; replace HO_10 := Aside0.mk (Kd.V_afterv (ok := (fun k_ => (P1_ k_ ∨ w.heap.size ≤ k_) ∧ some k_ ≠ (v298 : Value).ownBlock ∧ some k_ ≠ (v304 : Value).ownBlock ∧ some k_ ≠ (.slice Ao57 x14_1.length co57 : Value).ownBlock ∧ some k_ ≠ (.slice Ao38 t306.length co38 : Value).ownBlock ∧ k_ ≠ gb268)) (Wq HO_10) hg hat); replace HO_12 := Aside0.mk (Kd.N_afterv (ok := (fun k_ => (P1_ k_ ∨ w.heap.size ≤ k_) ∧ some k_ ≠ (v304 : Value).ownBlock ∧ some k_ ≠ (.slice Ao57 x14_1.length co57 : Value).ownBlock ∧ some k_ ≠ (.slice Ao38 t306.length co38 : Value).ownBlock ∧ k_ ≠ gb268)) (Wq HO_12) hg hat); replace HO_13 := Aside0.mk (Kd.N_afterv (ok := (fun k_ => (P1_ k_ ∨ w.heap.size ≤ k_) ∧ some k_ ≠ (v298 : Value).ownBlock ∧ some k_ ≠ (.slice Ao57 x14_1.length co57 : Value).ownBlock ∧ some k_ ≠ (.slice Ao38 t306.length co38 : Value).ownBlock ∧ k_ ≠ gb268)) (Wq HO_13) hg hat); replace HO_14 := Aside0.mk (Kd.N_afterv (ok := (fun k_ => (P1_ k_ ∨ w.heap.size ≤ k_) ∧ some k_ ≠ (v298 : Value).ownBlock ∧ some k_ ≠ (v304 : Value).ownBlock ∧ some k_ ≠ (.slice Ao38 t306.length co38 : Value).ownBlock ∧ k_ ≠ gb268)) (Wq HO_14) hg hat); replace HO_58 := Aside0.mk (Kd.N_afterv (ok := (fun k_ => (P1_ k_ ∨ w.heap.size ≤ k_) ∧ some k_ ≠ (v298 : Value).ownBlock ∧ some k_ ≠ (v304 : Value).ownBlock ∧ some k_ ≠ (.slice Ao57 x14_1.length co57 : Value).ownBlock ∧ k_ ≠ gb268)) (Wq HO_58) hg hat); replace BK268 := Aside0.mk (blk_grown (g := gb268) (o := .cells #[.int .i64 t262, .int .i64 t263, .int .i64 t264, .int .i64 t265, .int .i64 t266] 34 (0, 0)) (Kq BK268) hg (Kd.R_ne HO322.out BK268.out (by decide))); replace HB := Aside0.mk (hb); have HO325 := Aside0.mk (ho); clear HO322; clear ho hb hg hat; obtain ⟨Ao60, co60, eo60⟩ := Kd.N_slice HO_12.out; subst eo60) | ((with_reducible refine gate_callee (f := 32) rfl ?_); refine goesL_ (some 82) rfl rfl Tryd.func32 (by kernel_rfl) rfl #[.slice Ao60 t297.length co60] rfl Mq ?_; (with_reducible refine (pke_lay.calls k1 _ _ t297 t326 _ ?side1 ?side2 A56.out).mono ?_); (case side1 => repeat (first | exact (Kd.N_reads' HO_12.out).2.2 | (with_reducible refine Kd.C_alloc ?_ _) | (with_reducible refine Kd.C_drewN ?_ _) | (with_reducible refine Kd.C_drew ?_))); (case side2 => exact (Kd.N_reads' HO_12.out).2.1); rintro e w61 ⟨v327, rfl, ho0, hb⟩; refine ⟨_, rfl, ?_⟩; replace HO_10 := Aside0.mk (Kd.V_elder' (Wq HO_10) (Kd.R_base ho0) hb); replace HO_12 := Aside0.mk (Kd.N_elder' (Wq HO_12) (Kd.R_base ho0) hb); replace HO_13 := Aside0.mk (Kd.N_elder' (Wq HO_13) (Kd.R_base ho0) hb); replace HO_14 := Aside0.mk (Kd.N_elder' (Wq HO_14) (Kd.R_base ho0) hb); replace HO_58 := Aside0.mk (Kd.N_elder' (Wq HO_58) (Kd.R_base ho0) hb); have HO328 := Aside0.mk (Kd.R_lower (Kd.R_new' (Kd.R_newM (M := fun k_ => (w.heap.size ≤ k_)) ho0 (below_size Bq) (fun k_ h_ => h_)) (Kd.R_lt (Wq HO325))) (below_size Bq)); replace HO325 := Aside0.mk (Kd.R_elder' (Wq HO325) (Kd.R_base ho0) hb); replace BK268 := Aside0.mk (blk_below (g := gb268) (o := .cells #[.int .i64 t262, .int .i64 t263, .int .i64 t264, .int .i64 t265, .int .i64 t266] 34 (0, 0)) (Kq BK268) hb); replace HB := Aside0.mk (below_step Bq hb); clear hb ho0; (try clear A56)))
        go_ret3
        exact ⟨_, _, _, by first | rfl | (simp [errW_none, errW_some] <;> rfl) | (simp [*, errW_none, errW_some] <;> rfl), Wq HO325, by (with_reducible repeat (first | apply Kd.R_alloc | apply Kd.R_drewN | apply Kd.R_drew)); exact Kd.R_mono HO328.out (fun _ hk => ⟨hk.1.1, hk.2⟩), by first | exact Kd.R_nil _ _ _ _ _ | exact Kd.N_nil _ _ _ _ _ | exact Kd.V_nil _ _ _ _ _ | exact Kd.Q_nil _ _ _ _ _ | exact Kd.S_nil _ _ _ _ _, Bq⟩
       ·rw [if_neg c55] at H
        exact absurd H (by simp)
   ·rw [if_neg c10] at H
    exact absurd H (by simp)
  ·rw [if_neg c8] at H
   have c8b0 : ((l1.length : Int) == 32) = false := beq_eq_false_iff_ne.mpr c8
   have c8b1 : ((l1.length : Int) != 32) = true := bne_iff_ne.mpr c8
   replace H := Option.bind_eq_some_iff.mp H
   obtain ⟨t272, A620, H⟩ := H
   try dsimp only at H
   have A62 := Aside0.mk A620
   clear A620
   simp only [Option.some.injEq, Prod.mk.injEq] at H
   obtain ⟨rfl, rfl, rfl⟩ := H
   go_wp2_with (first | ((with_reducible refine gate_callee (f := 26) rfl ?_); refine goesL_ (some 28) rfl rfl Tryd.func26 (by kernel_rfl) rfl #[.int .i64 3] rfl Mq ?_; (with_reducible refine (pke_fault.calls 3 t272 _ A62.out).mono ?_); rintro e w63 ⟨v273, rfl, ho0, hb⟩; refine ⟨_, rfl, ?_⟩; replace HO1 := Aside0.mk (Kd.V_below (by (with_reducible repeat (first | apply Kd.V_alloc | apply Kd.V_drewN | apply Kd.V_drew)); exact (Kd.V_mono (Kd.V_far (p := ⟨gb268, 4, none⟩) (Kd.V_far (p := ⟨gb268, 3, none⟩) (Kd.V_far (p := ⟨gb268, 2, none⟩) (Kd.V_far (p := ⟨gb268, 1, none⟩) (Kd.V_far (p := ⟨gb268, 0, none⟩) (Kd.V_mono HO1.out (fun k_ hk => (⟨hk, hk.2⟩ : _ ∧ k_ ≠ gb268))) (fun _ hk => hk.2) (.int .i64 t262)) (fun _ hk => hk.2) (.int .i64 t263)) (fun _ hk => hk.2) (.int .i64 t264)) (fun _ hk => hk.2) (.int .i64 t265)) (fun _ hk => hk.2) (.int .i64 t266)) (fun _ h_ => h_.1))) hb); have HO274 := Aside0.mk (Kd.R_lower (Kd.R_newM (M := fun k_ => (w.heap.size ≤ k_)) ho0 (below_size Bq) (fun k_ h_ => h_)) (below_size Bq)); replace BK268 := Aside0.mk (blk_below (g := gb268) (o := .cells #[.int .i64 t262, .int .i64 t263, .int .i64 t264, .int .i64 t265, .int .i64 t266] 34 (0, 0)) (by (with_reducible repeat (first | refine blk_drewN ?_ _ | refine blk_drew ?_ | refine blk_alloc ?_ _)); refine blk_put (cs := #[.int .i64 t262, .int .i64 t263, .int .i64 t264, .int .i64 t265, .int .i64 0]) ?_ 4 _ rfl; (with_reducible repeat (first | refine blk_drewN ?_ _ | refine blk_drew ?_ | refine blk_alloc ?_ _)); refine blk_put (cs := #[.int .i64 t262, .int .i64 t263, .int .i64 t264, .int .i64 0, .int .i64 0]) ?_ 3 _ rfl; (with_reducible repeat (first | refine blk_drewN ?_ _ | refine blk_drew ?_ | refine blk_alloc ?_ _)); refine blk_put (cs := #[.int .i64 t262, .int .i64 t263, .int .i64 0, .int .i64 0, .int .i64 0]) ?_ 2 _ rfl; (with_reducible repeat (first | refine blk_drewN ?_ _ | refine blk_drew ?_ | refine blk_alloc ?_ _)); refine blk_put (cs := #[.int .i64 t262, .int .i64 0, .int .i64 0, .int .i64 0, .int .i64 0]) ?_ 1 _ rfl; (with_reducible repeat (first | refine blk_drewN ?_ _ | refine blk_drew ?_ | refine blk_alloc ?_ _)); refine blk_put (cs := #[.int .i64 0, .int .i64 0, .int .i64 0, .int .i64 0, .int .i64 0]) ?_ 0 _ rfl; (with_reducible repeat (first | refine blk_drewN ?_ _ | refine blk_drew ?_ | refine blk_alloc ?_ _)); exact BK268.out) hb); replace HB := Aside0.mk (below_step Bq hb); clear hb ho0; (try clear A62)))
   go_ret3
   exact ⟨_, _, _, by first | rfl | (simp [errW_none, errW_some] <;> rfl) | (simp [*, errW_none, errW_some] <;> rfl), by first | exact Kd.R_nil _ _ _ _ _ | exact Kd.N_nil _ _ _ _ _ | exact Kd.V_nil _ _ _ _ _ | exact Kd.Q_nil _ _ _ _ _ | exact Kd.S_nil _ _ _ _ _, by first | exact Kd.R_nil _ _ _ _ _ | exact Kd.N_nil _ _ _ _ _ | exact Kd.V_nil _ _ _ _ _ | exact Kd.Q_nil _ _ _ _ _ | exact Kd.S_nil _ _ _ _ _, by (with_reducible repeat (first | apply Kd.R_alloc | apply Kd.R_drewN | apply Kd.R_drew)); exact Kd.R_mono HO274.out (fun _ hk => hk.1), Bq⟩
 ·replace c7 := Bool.eq_false_iff.mpr c7
  subst c7
  rw [if_neg nf] at H
  replace H := Option.bind_eq_some_iff.mp H
  obtain ⟨t269, A640, H⟩ := H
  try dsimp only at H
  have A64 := Aside0.mk A640
  clear A640
  simp only [Option.some.injEq, Prod.mk.injEq] at H
  obtain ⟨rfl, rfl, rfl⟩ := H
  go_wp2_with (first | ((with_reducible refine gate_callee (f := 26) rfl ?_); refine goesL_ (some 24) rfl rfl Tryd.func26 (by kernel_rfl) rfl #[.int .i64 2] rfl Mq ?_; (with_reducible refine (pke_fault.calls 2 t269 _ A64.out).mono ?_); rintro e w65 ⟨v270, rfl, ho0, hb⟩; refine ⟨_, rfl, ?_⟩; replace HO1 := Aside0.mk (Kd.V_below (by (with_reducible repeat (first | apply Kd.V_alloc | apply Kd.V_drewN | apply Kd.V_drew)); exact (Kd.V_mono (Kd.V_far (p := ⟨gb268, 4, none⟩) (Kd.V_far (p := ⟨gb268, 3, none⟩) (Kd.V_far (p := ⟨gb268, 2, none⟩) (Kd.V_far (p := ⟨gb268, 1, none⟩) (Kd.V_far (p := ⟨gb268, 0, none⟩) (Kd.V_mono HO1.out (fun k_ hk => (⟨hk, hk.2⟩ : _ ∧ k_ ≠ gb268))) (fun _ hk => hk.2) (.int .i64 t262)) (fun _ hk => hk.2) (.int .i64 t263)) (fun _ hk => hk.2) (.int .i64 t264)) (fun _ hk => hk.2) (.int .i64 t265)) (fun _ hk => hk.2) (.int .i64 t266)) (fun _ h_ => h_.1))) hb); have HO271 := Aside0.mk (Kd.R_lower (Kd.R_newM (M := fun k_ => (w.heap.size ≤ k_)) ho0 (below_size Bq) (fun k_ h_ => h_)) (below_size Bq)); replace BK268 := Aside0.mk (blk_below (g := gb268) (o := .cells #[.int .i64 t262, .int .i64 t263, .int .i64 t264, .int .i64 t265, .int .i64 t266] 34 (0, 0)) (by (with_reducible repeat (first | refine blk_drewN ?_ _ | refine blk_drew ?_ | refine blk_alloc ?_ _)); refine blk_put (cs := #[.int .i64 t262, .int .i64 t263, .int .i64 t264, .int .i64 t265, .int .i64 0]) ?_ 4 _ rfl; (with_reducible repeat (first | refine blk_drewN ?_ _ | refine blk_drew ?_ | refine blk_alloc ?_ _)); refine blk_put (cs := #[.int .i64 t262, .int .i64 t263, .int .i64 t264, .int .i64 0, .int .i64 0]) ?_ 3 _ rfl; (with_reducible repeat (first | refine blk_drewN ?_ _ | refine blk_drew ?_ | refine blk_alloc ?_ _)); refine blk_put (cs := #[.int .i64 t262, .int .i64 t263, .int .i64 0, .int .i64 0, .int .i64 0]) ?_ 2 _ rfl; (with_reducible repeat (first | refine blk_drewN ?_ _ | refine blk_drew ?_ | refine blk_alloc ?_ _)); refine blk_put (cs := #[.int .i64 t262, .int .i64 0, .int .i64 0, .int .i64 0, .int .i64 0]) ?_ 1 _ rfl; (with_reducible repeat (first | refine blk_drewN ?_ _ | refine blk_drew ?_ | refine blk_alloc ?_ _)); refine blk_put (cs := #[.int .i64 0, .int .i64 0, .int .i64 0, .int .i64 0, .int .i64 0]) ?_ 0 _ rfl; (with_reducible repeat (first | refine blk_drewN ?_ _ | refine blk_drew ?_ | refine blk_alloc ?_ _)); exact BK268.out) hb); replace HB := Aside0.mk (below_step Bq hb); clear hb ho0; (try clear A64)))
  go_ret3
  exact ⟨_, _, _, by first | rfl | (simp [errW_none, errW_some] <;> rfl) | (simp [*, errW_none, errW_some] <;> rfl), by first | exact Kd.R_nil _ _ _ _ _ | exact Kd.N_nil _ _ _ _ _ | exact Kd.V_nil _ _ _ _ _ | exact Kd.Q_nil _ _ _ _ _ | exact Kd.S_nil _ _ _ _ _, by first | exact Kd.R_nil _ _ _ _ _ | exact Kd.N_nil _ _ _ _ _ | exact Kd.V_nil _ _ _ _ _ | exact Kd.Q_nil _ _ _ _ _ | exact Kd.S_nil _ _ _ _ _, by (with_reducible repeat (first | apply Kd.R_alloc | apply Kd.R_drewN | apply Kd.R_drew)); exact Kd.R_mono HO271.out (fun _ hk => hk.1), Bq⟩

end Go.Proofs.YtkdfcgihgndnnaaDoor.PPA
end
section
namespace Go.Proofs.YtkdfcgihgndnnaaDoor.PPA
open Go.RowKit Go.Proofs.YtkdfcgihgndnnaaDoorW.PrintWords Go.Proofs.YtkdfcgihgndnnaaDoorW.PrintLast Go.Proofs.YtkdfcgihgndnnaaDoorW.PrintMore Go.Proofs.YtkdfcgihgndnnaaDoorW.PrintZip
attribute [local go_sem] max2_int min2_int max_two min_two max_three min_three max_four min_four   -- for this text's walks alone
set_option linter.unusedVariables false
set_option linter.unusedSimpArgs false

/-! ### chatelainelaw0_SameBytes: function 9 -/
def chatelainelaw0_SameBytes.l0 : Nat → List Int → List Int → Int → Option (Bool)
 | 0, _, _, _ => none
 | k + 1, x0, x1, x5 => if x5 < (x0.length : Int) then (if 0 ≤ x5 then (if x5 < (x1.length : Int) then (if (rd x0 x5) = (rd x1 x5) then (chatelainelaw0_SameBytes.l0 k x0 x1 (wrap64 (x5 + 1))) else (some false)) else (none)) else (none)) else (some true)
def chatelainelaw0_SameBytes.f (k : Nat) (l0 : List Int) (l1 : List Int) : Option (Bool) := if (l0.length : Int) = (l1.length : Int) then (chatelainelaw0_SameBytes.l0 k l0 l1 0) else (some false)
set_option maxHeartbeats 8000000 in
set_option maxRecDepth 100000 in
theorem chatelainelaw0_SameBytes.calls (k : Nat) (A0 : Option Addr) (c0 : Nat) (l0 : List Int) (A1 : Option Addr) (c1 : Nat) (l1 : List Int) (r : Bool) (w : World) (hr0 : Kd.C (Kd.int .u8) w A0 l0.length l0) (hc0 : l0.length ≤ c0) (hr1 : Kd.C (Kd.int .u8) w A1 l1.length l1) (hc1 : l1.length ≤ c1) (h : chatelainelaw0_SameBytes.f k l0 l1 = some r) :
  Calls Tryd.prog 9 #[.slice A0 l0.length c0, .slice A1 l1.length c1] w fun e w' => e = .returned (.bool r) ∧ Drawn0 w w' := by
 have HR0 := Aside0.mk hr0
 have HC0 := Aside0.mk hc0
 clear hr0 hc0
 have HR1 := Aside0.mk hr1
 have HC1 := Aside0.mk hc1
 clear hr1 hc1
 have H := h
 unfold chatelainelaw0_SameBytes.f at H
 clear h
 by_cases c3 : (l0.length : Int) = (l1.length : Int)
 ·rw [if_pos c3] at H
  have c3b0 : ((l0.length : Int) == (l1.length : Int)) = true := beq_iff_eq.mpr c3
  have c3b1 : ((l0.length : Int) != (l1.length : Int)) = false := bne_eq_false_iff_eq.mpr c3
  have c3b2 : (l0.length == l1.length) = true := by first | simpa using c3 | (simp at c3 ⊢; omega)
  clear c3
  have H' := Aside0.mk H
  clear H
  go_enter Tryd.func9, Tryd.ntmps9
  go_wp2
  repeat (go_quiet (fail); try go_wp2)
  go_loopg [5] k (fun kq v5 w' => ∃ (x5_1 : Int), v5 = .int .i64 x5_1 ∧ Aside0 (chatelainelaw0_SameBytes.l0 kq l0 l1 x5_1 = some r) ∧ Aside0 (kq ≤ k) ∧ Drawn0 w w')
  case atStart => exact ⟨(0), Rq, H', ⟨Nat.le_refl _⟩, by repeat (first | exact Drawn0.refl _ | apply Drawn0.step)⟩
  case round =>
   clear H'
   try clear c1
   try clear p2
   try clear c3
   try clear c3b0
   try clear c3b1
   try clear c3b2
   obtain ⟨x5_1, rfl, HA, HK1, ⟨m1, rfl⟩⟩ := hrel
   cases gk with
   | zero => exact absurd HA.out (by simp [chatelainelaw0_SameBytes.l0])
   | succ k1 =>
    have H := HA.out
    clear HA
    simp only [chatelainelaw0_SameBytes.l0] at H
    by_cases c4 : x5_1 < (l0.length : Int)
    ·rw [if_pos c4] at H
     have c4b0 : decide (x5_1 < (l0.length : Int)) = true := decide_eq_true c4
     clear c4
     by_cases c5 : 0 ≤ x5_1
     ·rw [if_pos c5] at H
      have c5b0 : decide (0 ≤ x5_1) = true := decide_eq_true c5
      clear c5
      by_cases c6 : x5_1 < (l1.length : Int)
      ·rw [if_pos c6] at H
       have c6b0 : decide (x5_1 < (l1.length : Int)) = true := decide_eq_true c6
       clear c6
       by_cases c7 : (rd l0 x5_1) = (rd l1 x5_1)
       ·rw [if_pos c7] at H
        have c7b0 : ((rd l0 x5_1) == (rd l1 x5_1)) = true := beq_iff_eq.mpr c7
        have c7b1 : ((rd l0 x5_1) != (rd l1 x5_1)) = false := bne_eq_false_iff_eq.mpr c7
        clear c7
        have H' := Aside0.mk H
        clear H
        have p329 : 0 ≤ (x5_1 : Int) := of_decide_eq_true Aq
        have q329 : x5_1 < (l0.length : Int) := of_decide_eq_true Aq
        obtain ⟨ad329, e329, hx329_0⟩ := Kd.at_int HR0.out x5_1 p329 q329
        cases e329
        replace p329 := eq_true p329
        replace q329 := eq_true q329
        have p330 : 0 ≤ (x5_1 : Int) := of_decide_eq_true Aq
        have q330 : x5_1 < (l1.length : Int) := of_decide_eq_true Aq
        obtain ⟨ad330, e330, hx330_0⟩ := Kd.at_int HR1.out x5_1 p330 q330
        cases e330
        replace p330 := eq_true p330
        replace q330 := eq_true q330
        go_wp2
        repeat (go_quiet (fail); try go_wp2)
        go_roundg k1
        case measure => have := HK1.out; omega
        case rel => exact ⟨(wrap64 (x5_1 + 1)), Rq, H', ⟨by have := HK1.out; omega⟩, by repeat (first | exact Drawn0.refl _ | apply Drawn0.step)⟩
       ·rw [if_neg c7] at H
        have c7b0 : ((rd l0 x5_1) == (rd l1 x5_1)) = false := beq_eq_false_iff_ne.mpr c7
        have c7b1 : ((rd l0 x5_1) != (rd l1 x5_1)) = true := bne_iff_ne.mpr c7
        obtain rfl := Option.some.inj H
        have p329 : 0 ≤ (x5_1 : Int) := of_decide_eq_true Aq
        have q329 : x5_1 < (l0.length : Int) := of_decide_eq_true Aq
        obtain ⟨ad329, e329, hx329_0⟩ := Kd.at_int HR0.out x5_1 p329 q329
        cases e329
        replace p329 := eq_true p329
        replace q329 := eq_true q329
        have p330 : 0 ≤ (x5_1 : Int) := of_decide_eq_true Aq
        have q330 : x5_1 < (l1.length : Int) := of_decide_eq_true Aq
        obtain ⟨ad330, e330, hx330_0⟩ := Kd.at_int HR1.out x5_1 p330 q330
        cases e330
        replace p330 := eq_true p330
        replace q330 := eq_true q330
        go_wp2
        repeat (go_quiet (fail); try go_wp2)
        go_ret
        exact ⟨by first | rfl | (simp; done) | (simp [*]; done), by repeat (first | exact Drawn0.refl _ | apply Drawn0.step)⟩
      ·rw [if_neg c6] at H
       exact absurd H (by simp)
     ·rw [if_neg c5] at H
      exact absurd H (by simp)
    ·rw [if_neg c4] at H
     have c4b0 : decide (x5_1 < (l0.length : Int)) = false := decide_eq_false c4
     clear c4
     obtain rfl := Option.some.inj H
     go_wp2
     repeat (go_quiet (fail); try go_wp2)
     go_ret
     exact ⟨by first | rfl | (simp; done) | (simp [*]; done), by repeat (first | exact Drawn0.refl _ | apply Drawn0.step)⟩
 ·rw [if_neg c3] at H
  have c3b0 : ((l0.length : Int) == (l1.length : Int)) = false := beq_eq_false_iff_ne.mpr c3
  have c3b1 : ((l0.length : Int) != (l1.length : Int)) = true := bne_iff_ne.mpr c3
  have c3b2 : (l0.length == l1.length) = false := by first | simpa using c3 | (simp at c3 ⊢; omega)
  obtain rfl := Option.some.inj H
  go_enter Tryd.func9, Tryd.ntmps9
  go_wp2
  repeat (go_quiet (fail); try go_wp2)
  go_ret
  exact ⟨by first | rfl | (simp; done) | (simp [*]; done), by repeat (first | exact Drawn0.refl _ | apply Drawn0.step)⟩

/-! ### pke_Sizes: function 14 -/
def pke_Sizes.f (a0 : Int) : Option (Int × Int × Int) := (pke_Of.f a0).bind fun bt331 => (if bt331.2.2.2.2.2 = true then (some (wrap64 ((wrap64 (384 * bt331.1)) + 32), wrap64 (384 * bt331.1), wrap64 (32 * (wrap64 ((wrap64 (bt331.2.2.2.1 * bt331.1)) + bt331.2.2.2.2.1))))) else (some (0, 0, 0)))
set_option maxHeartbeats 8000000 in
set_option maxRecDepth 100000 in
theorem pke_Sizes.calls (a0 : Int) (r1 : Int) (r2 : Int) (r3 : Int) (w : World) (h : pke_Sizes.f a0 = some (r1, r2, r3)) :
  Calls Tryd.prog 14 #[.int .i64 a0] w fun e w' => e = .returned (.tuple #[.int .i64 r1, .int .i64 r2, .int .i64 r3]) ∧ Below w.heap.size w w' := by
 have hu34 := Tryd.underlying34
 have HB := Aside0.mk (Below.refl w.heap.size w)
 have H := h
 unfold pke_Sizes.f at H
 clear h
 replace H := Option.bind_eq_some_iff.mp H
 obtain ⟨⟨t331, t332, t333, t334, t335, t336⟩, A20, H⟩ := H
 try dsimp only at H
 have A2 := Aside0.mk A20
 clear A20
 by_cases c3 : t336 = true
 ·subst c3
  rw [if_pos rfl] at H
  simp only [Option.some.injEq, Prod.mk.injEq] at H
  obtain ⟨rfl, rfl, rfl⟩ := H
  go_enter Tryd.func14, Tryd.ntmps14
  go_wp2_with (first | (go_at_call 13; (with_reducible refine (pke_Of.calls a0 t331 t332 t333 t334 t335 true _ A2.out).mono ?_); rintro e w4 ⟨rfl, hb⟩; replace HB := Aside0.mk (below_step Bq hb); clear hb; (try clear A2)) | ((with_reducible refine gate_dst (N := 5) rfl ?_); refine box_event ?hg (N := 5) ?hd (cs := #[.int .i64 0, .int .i64 0, .int .i64 0, .int .i64 0, .int .i64 0]) (t := 34) ?hr ?_; (case hd => rfl); (case hg => rfl); (case hr => first | (go_simp; done) | (go_simp; rfl)); intro gb337 hg w5 hbox hb; have BK337 := Aside0.mk (hbox); have GW337 := Aside0.mk ((by rw [hg]; exact (below_size Bq) : w.heap.size ≤ gb337)); have GE337 := Aside0.mk ((by rw [hg]; exact (below_size Bq) : w.heap.size ≤ gb337)); replace HB := Aside0.mk (below_step Bq hb); clear hb hbox hg; have hcz6_0 : w5.cell? ⟨gb337, 0, none⟩ = some (.int .i64 0) := (blk_cell BK337.out 0).trans rfl; have hcz6_1 : w5.cell? ⟨gb337, 1, none⟩ = some (.int .i64 0) := (blk_cell BK337.out 1).trans rfl; have hcz6_2 : w5.cell? ⟨gb337, 2, none⟩ = some (.int .i64 0) := (blk_cell BK337.out 2).trans rfl; have hcz6_3 : w5.cell? ⟨gb337, 3, none⟩ = some (.int .i64 0) := (blk_cell BK337.out 3).trans rfl; have hcz6_4 : w5.cell? ⟨gb337, 4, none⟩ = some (.int .i64 0) := (blk_cell BK337.out 4).trans rfl; have hfz6_0 := blk_frozen BK337.out 0; have hfz6_1 := blk_frozen BK337.out 1; have hfz6_2 := blk_frozen BK337.out 2; have hfz6_3 := blk_frozen BK337.out 3; have hfz6_4 := blk_frozen BK337.out 4))
  repeat (go_quiet (first | (go_at_call 13; (with_reducible refine (pke_Of.calls a0 t331 t332 t333 t334 t335 true _ A2.out).mono ?_); rintro e w4 ⟨rfl, hb⟩; replace HB := Aside0.mk (below_step Bq hb); clear hb; (try clear A2)) | ((with_reducible refine gate_dst (N := 5) rfl ?_); refine box_event ?hg (N := 5) ?hd (cs := #[.int .i64 0, .int .i64 0, .int .i64 0, .int .i64 0, .int .i64 0]) (t := 34) ?hr ?_; (case hd => rfl); (case hg => rfl); (case hr => first | (go_simp; done) | (go_simp; rfl)); intro gb337 hg w5 hbox hb; have BK337 := Aside0.mk (hbox); have GW337 := Aside0.mk ((by rw [hg]; exact (below_size Bq) : w.heap.size ≤ gb337)); have GE337 := Aside0.mk ((by rw [hg]; exact (below_size Bq) : w.heap.size ≤ gb337)); replace HB := Aside0.mk (below_step Bq hb); clear hb hbox hg; have hcz6_0 : w5.cell? ⟨gb337, 0, none⟩ = some (.int .i64 0) := (blk_cell BK337.out 0).trans rfl; have hcz6_1 : w5.cell? ⟨gb337, 1, none⟩ = some (.int .i64 0) := (blk_cell BK337.out 1).trans rfl; have hcz6_2 : w5.cell? ⟨gb337, 2, none⟩ = some (.int .i64 0) := (blk_cell BK337.out 2).trans rfl; have hcz6_3 : w5.cell? ⟨gb337, 3, none⟩ = some (.int .i64 0) := (blk_cell BK337.out 3).trans rfl; have hcz6_4 : w5.cell? ⟨gb337, 4, none⟩ = some (.int .i64 0) := (blk_cell BK337.out 4).trans rfl; have hfz6_0 := blk_frozen BK337.out 0; have hfz6_1 := blk_frozen BK337.out 1; have hfz6_2 := blk_frozen BK337.out 2; have hfz6_3 := blk_frozen BK337.out 3; have hfz6_4 := blk_frozen BK337.out 4)); try go_wp2_with (first | (go_at_call 13; (with_reducible refine (pke_Of.calls a0 t331 t332 t333 t334 t335 true _ A2.out).mono ?_); rintro e w4 ⟨rfl, hb⟩; replace HB := Aside0.mk (below_step Bq hb); clear hb; (try clear A2)) | ((with_reducible refine gate_dst (N := 5) rfl ?_); refine box_event ?hg (N := 5) ?hd (cs := #[.int .i64 0, .int .i64 0, .int .i64 0, .int .i64 0, .int .i64 0]) (t := 34) ?hr ?_; (case hd => rfl); (case hg => rfl); (case hr => first | (go_simp; done) | (go_simp; rfl)); intro gb337 hg w5 hbox hb; have BK337 := Aside0.mk (hbox); have GW337 := Aside0.mk ((by rw [hg]; exact (below_size Bq) : w.heap.size ≤ gb337)); have GE337 := Aside0.mk ((by rw [hg]; exact (below_size Bq) : w.heap.size ≤ gb337)); replace HB := Aside0.mk (below_step Bq hb); clear hb hbox hg; have hcz6_0 : w5.cell? ⟨gb337, 0, none⟩ = some (.int .i64 0) := (blk_cell BK337.out 0).trans rfl; have hcz6_1 : w5.cell? ⟨gb337, 1, none⟩ = some (.int .i64 0) := (blk_cell BK337.out 1).trans rfl; have hcz6_2 : w5.cell? ⟨gb337, 2, none⟩ = some (.int .i64 0) := (blk_cell BK337.out 2).trans rfl; have hcz6_3 : w5.cell? ⟨gb337, 3, none⟩ = some (.int .i64 0) := (blk_cell BK337.out 3).trans rfl; have hcz6_4 : w5.cell? ⟨gb337, 4, none⟩ = some (.int .i64 0) := (blk_cell BK337.out 4).trans rfl; have hfz6_0 := blk_frozen BK337.out 0; have hfz6_1 := blk_frozen BK337.out 1; have hfz6_2 := blk_frozen BK337.out 2; have hfz6_3 := blk_frozen BK337.out 3; have hfz6_4 := blk_frozen BK337.out 4)))
  go_ret3
  exact ⟨by first | rfl | (simp [errW_none, errW_some] <;> rfl) | (simp [*, errW_none, errW_some] <;> rfl), Bq⟩
 ·replace c3 := Bool.eq_false_iff.mpr c3
  subst c3
  rw [if_neg nf] at H
  simp only [Option.some.injEq, Prod.mk.injEq] at H
  obtain ⟨rfl, rfl, rfl⟩ := H
  go_enter Tryd.func14, Tryd.ntmps14
  go_wp2_with (first | (go_at_call 13; (with_reducible refine (pke_Of.calls a0 t331 t332 t333 t334 t335 false _ A2.out).mono ?_); rintro e w7 ⟨rfl, hb⟩; replace HB := Aside0.mk (below_step Bq hb); clear hb; (try clear A2)) | ((with_reducible refine gate_dst (N := 5) rfl ?_); refine box_event ?hg (N := 5) ?hd (cs := #[.int .i64 0, .int .i64 0, .int .i64 0, .int .i64 0, .int .i64 0]) (t := 34) ?hr ?_; (case hd => rfl); (case hg => rfl); (case hr => first | (go_simp; done) | (go_simp; rfl)); intro gb337 hg w8 hbox hb; have BK337 := Aside0.mk (hbox); have GW337 := Aside0.mk ((by rw [hg]; exact (below_size Bq) : w.heap.size ≤ gb337)); have GE337 := Aside0.mk ((by rw [hg]; exact (below_size Bq) : w.heap.size ≤ gb337)); replace HB := Aside0.mk (below_step Bq hb); clear hb hbox hg; have hcz9_0 : w8.cell? ⟨gb337, 0, none⟩ = some (.int .i64 0) := (blk_cell BK337.out 0).trans rfl; have hcz9_1 : w8.cell? ⟨gb337, 1, none⟩ = some (.int .i64 0) := (blk_cell BK337.out 1).trans rfl; have hcz9_2 : w8.cell? ⟨gb337, 2, none⟩ = some (.int .i64 0) := (blk_cell BK337.out 2).trans rfl; have hcz9_3 : w8.cell? ⟨gb337, 3, none⟩ = some (.int .i64 0) := (blk_cell BK337.out 3).trans rfl; have hcz9_4 : w8.cell? ⟨gb337, 4, none⟩ = some (.int .i64 0) := (blk_cell BK337.out 4).trans rfl; have hfz9_0 := blk_frozen BK337.out 0; have hfz9_1 := blk_frozen BK337.out 1; have hfz9_2 := blk_frozen BK337.out 2; have hfz9_3 := blk_frozen BK337.out 3; have hfz9_4 := blk_frozen BK337.out 4))
  repeat (go_quiet (first | (go_at_call 13; (with_reducible refine (pke_Of.calls a0 t331 t332 t333 t334 t335 false _ A2.out).mono ?_); rintro e w7 ⟨rfl, hb⟩; replace HB := Aside0.mk (below_step Bq hb); clear hb; (try clear A2)) | ((with_reducible refine gate_dst (N := 5) rfl ?_); refine box_event ?hg (N := 5) ?hd (cs := #[.int .i64 0, .int .i64 0, .int .i64 0, .int .i64 0, .int .i64 0]) (t := 34) ?hr ?_; (case hd => rfl); (case hg => rfl); (case hr => first | (go_simp; done) | (go_simp; rfl)); intro gb337 hg w8 hbox hb; have BK337 := Aside0.mk (hbox); have GW337 := Aside0.mk ((by rw [hg]; exact (below_size Bq) : w.heap.size ≤ gb337)); have GE337 := Aside0.mk ((by rw [hg]; exact (below_size Bq) : w.heap.size ≤ gb337)); replace HB := Aside0.mk (below_step Bq hb); clear hb hbox hg; have hcz9_0 : w8.cell? ⟨gb337, 0, none⟩ = some (.int .i64 0) := (blk_cell BK337.out 0).trans rfl; have hcz9_1 : w8.cell? ⟨gb337, 1, none⟩ = some (.int .i64 0) := (blk_cell BK337.out 1).trans rfl; have hcz9_2 : w8.cell? ⟨gb337, 2, none⟩ = some (.int .i64 0) := (blk_cell BK337.out 2).trans rfl; have hcz9_3 : w8.cell? ⟨gb337, 3, none⟩ = some (.int .i64 0) := (blk_cell BK337.out 3).trans rfl; have hcz9_4 : w8.cell? ⟨gb337, 4, none⟩ = some (.int .i64 0) := (blk_cell BK337.out 4).trans rfl; have hfz9_0 := blk_frozen BK337.out 0; have hfz9_1 := blk_frozen BK337.out 1; have hfz9_2 := blk_frozen BK337.out 2; have hfz9_3 := blk_frozen BK337.out 3; have hfz9_4 := blk_frozen BK337.out 4)); try go_wp2_with (first | (go_at_call 13; (with_reducible refine (pke_Of.calls a0 t331 t332 t333 t334 t335 false _ A2.out).mono ?_); rintro e w7 ⟨rfl, hb⟩; replace HB := Aside0.mk (below_step Bq hb); clear hb; (try clear A2)) | ((with_reducible refine gate_dst (N := 5) rfl ?_); refine box_event ?hg (N := 5) ?hd (cs := #[.int .i64 0, .int .i64 0, .int .i64 0, .int .i64 0, .int .i64 0]) (t := 34) ?hr ?_; (case hd => rfl); (case hg => rfl); (case hr => first | (go_simp; done) | (go_simp; rfl)); intro gb337 hg w8 hbox hb; have BK337 := Aside0.mk (hbox); have GW337 := Aside0.mk ((by rw [hg]; exact (below_size Bq) : w.heap.size ≤ gb337)); have GE337 := Aside0.mk ((by rw [hg]; exact (below_size Bq) : w.heap.size ≤ gb337)); replace HB := Aside0.mk (below_step Bq hb); clear hb hbox hg; have hcz9_0 : w8.cell? ⟨gb337, 0, none⟩ = some (.int .i64 0) := (blk_cell BK337.out 0).trans rfl; have hcz9_1 : w8.cell? ⟨gb337, 1, none⟩ = some (.int .i64 0) := (blk_cell BK337.out 1).trans rfl; have hcz9_2 : w8.cell? ⟨gb337, 2, none⟩ = some (.int .i64 0) := (blk_cell BK337.out 2).trans rfl; have hcz9_3 : w8.cell? ⟨gb337, 3, none⟩ = some (.int .i64 0) := (blk_cell BK337.out 3).trans rfl; have hcz9_4 : w8.cell? ⟨gb337, 4, none⟩ = some (.int .i64 0) := (blk_cell BK337.out 4).trans rfl; have hfz9_0 := blk_frozen BK337.out 0; have hfz9_1 := blk_frozen BK337.out 1; have hfz9_2 := blk_frozen BK337.out 2; have hfz9_3 := blk_frozen BK337.out 3; have hfz9_4 := blk_frozen BK337.out 4)))
  go_ret3
  exact ⟨by first | rfl | (simp [errW_none, errW_some] <;> rfl) | (simp [*, errW_none, errW_some] <;> rfl), Bq⟩

-- NOT PRINTED: function 59 (reflectlite_ValueOf)

-- NOT PRINTED: function 60 (reflectlite_Value_Type)

-- NOT PRINTED: function 61 (reflectlite_Value_IsNil)

-- NOT PRINTED: function 63 (reflectlite_TypeOf)

-- NOT PRINTED: function 77 (reflectlite_Value_Elem)

-- NOT PRINTED: function 78 (reflectlite_Value_Set)

-- NOT PRINTED: function 62 (errors_as)

-- NOT PRINTED: function 39 (errors_As)

-- NOT PRINTED: function 64 (errors_is)

-- NOT PRINTED: function 40 (errors_Is)

-- NOT PRINTED: function 41 (api_Code)

/-! ### chatelainelaw0_Num: function 21 -/
def chatelainelaw0_Num.f : List S70 → Option Int
 | [] => some 0
 | [x] => if x.f0 = 0 then none else some x.f0
 | _ => none
theorem chatelainelaw0_Num.calls (u : Value) (l : List S70) (r : Int) (w : World) (ho : ErrIs w u l) (hg_ : w.cell? ⟨0, 0, none⟩ = some (.iface 115 (.agg #[.pointer (some ⟨1, 26, none⟩)]))) (h : chatelainelaw0_Num.f l = some r) :
  Calls Tryd.prog 21 #[u] w fun e w' => e = .returned (.int .i64 r) ∧ Below w.heap.size w w' := by
 obtain ⟨base, ok, ho⟩ := ho
 rcases eRow_one ho with ⟨rfl, rfl⟩ | ⟨g, x, rfl, rfl, hb⟩
 ·obtain rfl := Option.some.inj h
  exact Errs.num_nil w
 ·by_cases h0 : x.f0 = 0
  ·simp [chatelainelaw0_Num.f, h0] at h
  ·have e : x.f0 = r := by simpa [chatelainelaw0_Num.f, h0] using h
   subst e
   exact Errs.num_P g x.f0 w h0 hg_ ((blk_cell hb 0).trans rfl)

-- NOT PRINTED: function 76 (slices_Chunk_byte_byte_1)

-- NOT PRINTED: function 58 (slices_Chunk_byte_byte)

end Go.Proofs.YtkdfcgihgndnnaaDoor.PPA
end
section
namespace Go.Proofs.YtkdfcgihgndnnaaDoor.PPA
open Go.RowKit Go.Proofs.YtkdfcgihgndnnaaDoorW.PrintWords Go.Proofs.YtkdfcgihgndnnaaDoorW.PrintLast Go.Proofs.YtkdfcgihgndnnaaDoorW.PrintMore Go.Proofs.YtkdfcgihgndnnaaDoorW.PrintZip
attribute [local go_sem] max2_int min2_int max_two min_two max_three min_three max_four min_four   -- for this text's walks alone
set_option linter.unusedVariables false
set_option linter.unusedSimpArgs false

/-! ### pke_read: function 38 -/
section
open Go.Shelf
attribute [local go_sem] Oper.semAt_some
def pke_read.un (k : Nat) (d : Int) (l : List Int) : Option (List Int × Bool) := (bits_Unpack.f k d l).bind fun f => if d = 12 then ((poly_May.f k f).bind fun t => some (f, t)) else some (f, true)
def pke_read.pks (k : Nat) (d : Int) (b : List Int) (q : Nat) : Nat → Nat → Option (List (List Int × Bool))
 | 0, _ => some []
 | m + 1, j => (pke_read.un k d ((b.take ((j + 1) * q)).drop (j * q))).bind fun x => (pke_read.pks k d b q m (j + 1)).bind fun r => some (x :: r)
def pke_read.f (k : Nat) (d many : Int) (b : List Int) : Option (List (List Int) × Bool) :=
 if (1 ≤ d ∧ d ≤ 24) ∧ (0 ≤ many ∧ many ≤ 100) ∧ many.toNat * (32 * d.toNat) ≤ b.length then (pke_read.pks k d b (32 * d.toNat) many.toNat 0).bind fun l => some (if l.all (·.2) = true then (l.map (·.1), true) else ([], false)) else none
theorem pke_read.pks_at (k : Nat) (d : Int) (b : List Int) (q : Nat) : ∀ m j l, pke_read.pks k d b q m j = some l → l.length = m ∧ ∀ i, i < m → pke_read.un k d ((b.take ((j + i + 1) * q)).drop ((j + i) * q)) = some (l.getD i ([], false))
 | 0, _, l, h => by
  rw [pke_read.pks] at h
  cases h
  exact ⟨rfl, fun i hi => absurd hi (Nat.not_lt_zero _)⟩
 | m + 1, j, l, h => by
  rw [pke_read.pks] at h
  obtain ⟨x, hx, h⟩ := Option.bind_eq_some_iff.1 h
  obtain ⟨r, hr, h⟩ := Option.bind_eq_some_iff.1 h
  obtain rfl := Option.some.inj h
  obtain ⟨h1, h2⟩ := pke_read.pks_at k d b q m (j + 1) r hr
  refine ⟨by rw [List.length_cons, h1], fun i hi => ?_⟩
  cases i with
  | zero => exact hx
  | succ i =>
   have := h2 i (by omega)
   rw [show j + 1 + i = j + (i + 1) by omega] at this
   exact this
theorem own_box {W W' : World} {B B' t : Nat} {v : Value} {row : Option Nat} (h : Boxed W B t v) (hg : W.grownBy W' row) (hr : ∀ r, row = some r → B' ≤ r ∧ ∃ o : Obj, W.heap[r]? = some o ∧ o.isCells = false) : Boxed W' B t v := h.kept hg (fun e => by
 obtain ⟨_, o, h1, h2⟩ := hr B e.symm
 rw [show W.heap[B]? = _ from h] at h1
 cases h1
 cases h2)
theorem own_rows {α : Type} {d : Kd α} {e base B' : Nat} {ok : Nat → Prop} {v : Value} {xs : List α} {W W' : World} {row : Option Nat} (h : d.R e W base ok v xs) (hg : W.grownBy W' row) (hr : ∀ r, row = some r → B' ≤ r ∧ ∃ o : Obj, W.heap[r]? = some o ∧ o.isCells = false) : d.R e W' base ok v xs :=
 Kd.R_mono (Kd.R_grown (Kd.R_bound h) hg (fun k hk ek => by
  obtain ⟨_, o, h1, h2⟩ := hr k ek.symm
  obtain ⟨_, _, _, q, _, cs, h3⟩ := hk
  rw [h3] at h1
  cases h1
  cases h2)) (fun _ hk => hk.1)
theorem own_rowsS {α : Type} {d : Kd α} {e base B' : Nat} {ok : Nat → Prop} {v : Value} {xs : List α} {W W' : World} {row : Option Nat} (h : Kd.S d e W base ok v xs) (hg : W.grownBy W' row) (hr : ∀ r, row = some r → B' ≤ r ∧ ∃ o : Obj, W.heap[r]? = some o ∧ o.isCells = false) : Kd.S d e W' base ok v xs := by
 obtain ⟨f, h⟩ := h
 exact ⟨f, own_rows h hg hr⟩
theorem rd_keeps {W W' : World} (h : Below W.heap.size W W') : KeepsOthers W W' := ⟨h.size, fun k o hk _ => (h.block k (Array.getElem?_eq_some_iff.1 hk).1).trans hk⟩
/-- Between two rounds: what has come is read. -/
def pke_read.I (m : Nat) (fts : List (List Int × Bool)) (w : World) (g0 g1 g2 g3 n0 : Nat) (d : Int) (v4 v5 : Value) (pre : List (Fin m)) (W : World) : Prop :=
 (∃ v, Boxed W g3 49 v ∧ Kd.S (Kd.slice 3 (Kd.int .i64)) 40 W w.heap.size (fun _ => True) v (pre.map fun x => (fts.getD x.val ([], false)).1)) ∧ (∀ x ∈ pre, (fts.getD x.val ([], false)).2 = true) ∧ Boxed W g0 3 (.int .i64 d) ∧ Boxed W g1 49 (.slice none 0 0) ∧ Boxed W g2 4 (.bool false) ∧ Below w.heap.size w W ∧ n0 + 2 ≤ W.heap.size ∧ Boxed W n0 22 v4 ∧ Boxed W (n0 + 1) 3 v5
/-- A poly that may not be. -/
def pke_read.X (m : Nat) (fts : List (List Int × Bool)) (w : World) (g1 g2 : Nat) (c : Code) (pre : List (Fin m)) (W : World) : Prop :=
 c = .ret ∧ (∃ x : Fin m, (fts.getD x.val ([], false)).2 = false) ∧ Boxed W g1 49 (.slice none 0 0) ∧ Boxed W g2 4 (.bool false) ∧ Below w.heap.size w W
theorem pke_read.I_own (m : Nat) (fts : List (List Int × Bool)) (w : World) (g0 g1 g2 g3 n0 : Nat) (d : Int) (v4 v5 : Value) (B : Nat) (hB : w.heap.size ≤ B) : OwnFrom B (pke_read.I m fts w g0 g1 g2 g3 n0 d v4 v5) := by
 rintro pre W W' row ⟨⟨v, hv, hR⟩, hT, h0, h1, h2, hb, hs, h4, h5⟩ hg hr
 refine ⟨⟨v, own_box hv hg hr, own_rowsS hR hg hr⟩, hT, own_box h0 hg hr, own_box h1 hg hr, own_box h2 hg hr, ownFrom_below (β := Unit) (Nat.le_refl _) hB () W W' row hb hg hr, Nat.le_trans hs hg.size, own_box h4 hg hr, own_box h5 hg hr⟩
theorem pke_read.X_own (m : Nat) (fts : List (List Int × Bool)) (w : World) (g1 g2 : Nat) (B : Nat) (hB : w.heap.size ≤ B) (c : Code) : OwnFrom B (pke_read.X m fts w g1 g2 c) := by
 rintro pre W W' row ⟨hc, hx, h1, h2, hb⟩ hg hr
 exact ⟨hc, hx, own_box h1 hg hr, own_box h2 hg hr, ownFrom_below (β := Unit) (Nat.le_refl _) hB () W W' row hb hg hr⟩
theorem own_stay {W w2 w3 : World} {tmp : Obj} {row : Option Nat} {g : Nat} {u : Value} (B2 : Below W.heap.size W w2) (hg : (w2.alloc tmp).grownBy w3 row) (j : Nat) (hj : j < W.heap.size) (hr : some j ≠ row) (hne : j ≠ g) : (w3.setCell ⟨g, 0, none⟩ u).heap[j]? = W.heap[j]? :=
 (Below.heap_setCell w3 ⟨g, 0, none⟩ u j hne).trans ((hg.block j (by have := B2.size; simp; omega) hr).trans ((Below.heap_alloc w2 tmp j (by have := B2.size; omega)).trans (B2.block j hj)))
theorem pke_read.next {m : Nat} {fts : List (List Int × Bool)} {w W w2 w3 : World} {g0 g1 g2 g3 n0 : Nat} {d : Int} {v4 v5 v v1 v10 : Value} {pre : List (Fin m)} {x : Fin m} {f : List Int} {inner : List Value}
  (HI : pke_read.I m fts w g0 g1 g2 g3 n0 d v4 v5 pre W) (GE : w.heap.size ≤ g3 ∧ g0 ≠ g3 ∧ g1 ≠ g3 ∧ g2 ≠ g3 ∧ n0 ≠ g3 ∧ n0 + 1 ≠ g3) (hx : (fts.getD x.val ([], false)) = (f, true)) (hv : Boxed W g3 49 v) (B2 : Below W.heap.size W w2) (R1 : Kd.R (Kd.int .i64) 3 w2 W.heap.size (fun _ => True) v10 f)
  (hvl : ∀ k, v.ownBlock = some k → k < W.heap.size) (hown : w2.ownsRow w.heap.size 40 1 v (pre.map fun x => (fts.getD x.val ([], false)).1).length inner) (tg : Nat → Nat) (htg : ∀ k, W.heap.size ≤ k → tg k = (pre.map fun x => (fts.getD x.val ([], false)).1).length) (hreps : Reps ((Kd.tag tg (Kd.slice 3 (Kd.int .i64))).M w2 w.heap.size (fun k => k < W.heap.size ∧ some k ≠ v.ownBlock)) 1 (pre.map fun x => (fts.getD x.val ([], false)).1).zipIdx inner)
  (hown1 : w3.ownsRow w.heap.size 40 1 v1 ((pre.map fun x => (fts.getD x.val ([], false)).1).length + 1) (inner ++ [v10])) (hg : (w2.alloc (.cells #[v10] 40)).grownBy w3 v.ownBlock) (hat : v1.ownBlock = v.ownBlock ∨ v1.ownBlock = some (w2.alloc (.cells #[v10] 40)).heap.size) :
  KeepsOthers W (w3.setCell ⟨g3, 0, none⟩ v1) ∧ PPK.KeepS n0 (n0 + 1) W (w3.setCell ⟨g3, 0, none⟩ v1) ∧ pke_read.I m fts w g0 g1 g2 g3 n0 d v4 v5 (pre ++ [x]) (w3.setCell ⟨g3, 0, none⟩ v1) := by
 obtain ⟨_, hT, h0, h1, h2, hB, hs, h4, h5⟩ := HI
 have hw2 : w.heap.size ≤ w2.heap.size := Nat.le_trans hB.size B2.size
 obtain ⟨a1, a2, _, a4, a5⟩ := Boxed.appended (blk_below hv B2) (by decide) hown hw2 GE.1 hown1 hg
 have st : ∀ {B t : Nat} {u : Value}, Boxed W B t u → t ≠ 40 → B ≠ g3 → Boxed (w3.setCell ⟨g3, 0, none⟩ v1) B t u := fun hb ht hne => (own_stay B2 hg _ hb.lt (Boxed.not_row (blk_below hb B2) ht hown) hne).trans hb
 have al : Below w2.heap.size w2 (w2.alloc (.cells #[v10] 40)) := below_alloc (Below.refl _ _) _
 have R1' : Kd.R (Kd.int .i64) 3 (w2.alloc (.cells #[v10] 40)) w.heap.size (fun k => W.heap.size ≤ k) v10 f := Kd.R_lower (Kd.R_mono (Kd.R_bound (Kd.R_below R1 al)) (fun k hk => hk.2.1)) hB.size
 have R2 : (Kd.tag tg (Kd.slice 3 (Kd.int .i64))).M (w2.alloc (.cells #[v10] 40)) w.heap.size (fun k => W.heap.size ≤ k) (f, (pre.map fun x => (fts.getD x.val ([], false)).1).length) [v10] := ⟨v10, rfl, Kd.R_mono R1' (fun k hk => ⟨hk, htg k hk⟩)⟩
 have hreps' := hreps.imp_ (fun _ _ hp => (Kd.tag tg (Kd.slice 3 (Kd.int .i64))).M_mono (ok' := fun k => True ∧ some k ≠ v.ownBlock) (fun _ hk => ⟨trivial, hk.2⟩) ((Kd.tag tg (Kd.slice 3 (Kd.int .i64))).M_below hp al))
 have hap := Kd.R_appended (d := Kd.tag tg (Kd.slice 3 (Kd.int .i64))) (e := 40) (base := w.heap.size) (ok := fun _ => True) (fun _ _ => trivial) hreps' R2 (fun k hk => ⟨trivial, fun e => by have := hvl k e.symm; omega⟩) (fun _ _ => trivial) (by rw [List.length_zipIdx]; exact hown1) hg (by
  rcases hat with h | h
  ·exact .inl h
  ·exact .inr ⟨_, h, Nat.le_refl _⟩)
 rw [← Kd.zip_snoc] at hap
 have hap2 : Kd.S (Kd.slice 3 (Kd.int .i64)) 40 (w3.setCell ⟨g3, 0, none⟩ v1) w.heap.size (fun _ => True) v1 ((pre.map fun x => (fts.getD x.val ([], false)).1) ++ [f]) := ⟨tg, Kd.R_set hap a1 (show ∀ q, q ∈ 40 :: (Kd.slice 3 (Kd.int .i64)).E → q ≠ 49 by decide) 0 v1⟩
 refine ⟨(rd_keeps B2).trans a4, ⟨own_stay B2 hg _ h4.lt (Boxed.not_row (blk_below h4 B2) (by decide) hown) GE.2.2.2.2.1, own_stay B2 hg _ h5.lt (Boxed.not_row (blk_below h5 B2) (by decide) hown) GE.2.2.2.2.2⟩, ⟨v1, a2, ?_⟩, ?_, st h0 (by decide) GE.2.1, st h1 (by decide) GE.2.2.1, st h2 (by decide) GE.2.2.2.1, hB.trans ((B2.mono hB.size).trans a5), ?_, st h4 (by decide) GE.2.2.2.2.1, st h5 (by decide) GE.2.2.2.2.2⟩
 ·rw [List.map_append, List.map_singleton, hx]
  exact hap2
 ·intro y hy
  rcases List.mem_append.mp hy with h | h
  ·exact hT y h
  ·rw [List.mem_singleton.mp h, hx]
 ·exact Nat.le_trans hs (Nat.le_trans B2.size a5.size)
set_option maxRecDepth 100000 in
set_option maxHeartbeats 4000000 in
theorem pke_read.calls (k : Nat) (a0 a1 : Int) (A2 : Option Addr) (c2 : Nat) (l2 : List Int) (r1 : List (List Int)) (r2 : Bool) (w : World) (hr2 : Kd.C (Kd.int .u8) w A2 l2.length l2) (hc2 : l2.length ≤ c2) (h : pke_read.f k a0 a1 l2 = some (r1, r2)) :
  Calls Tryd.prog 38 #[.int .i64 a0, .int .i64 a1, .slice A2 l2.length c2] w fun e w' => ∃ v0_ : Value, e = .returned (.tuple #[v0_, .bool r2]) ∧ Kd.S (Kd.slice 3 (Kd.int .i64)) 40 w' w.heap.size (fun _ => True) v0_ r1 ∧ Below w.heap.size w w' := by
 unfold pke_read.f at h
 split at h
 case isFalse => cases h
 rename_i hh
 obtain ⟨⟨hd1, hd2⟩, ⟨hm1, hm2⟩, hl⟩ := hh
 obtain ⟨d, rfl⟩ := Int.eq_ofNat_of_zero_le (show 0 ≤ a0 by omega)
 obtain ⟨m, rfl⟩ := Int.eq_ofNat_of_zero_le hm1
 rw [Int.toNat_natCast, Int.toNat_natCast] at h
 obtain ⟨fts, hf, h⟩ := Option.bind_eq_some_iff.1 h
 have h := Option.some.inj h
 rw [Int.toNat_natCast, Int.toNat_natCast] at hl
 obtain ⟨q, hq⟩ : ∃ q, q = 32 * d := ⟨_, rfl⟩
 rw [← hq] at hf hl
 have q1 : 1 ≤ q := by omega
 have q2 : q ≤ 768 := by omega
 have hmq : m * q ≤ 100 * 768 := Nat.mul_le_mul (by omega) q2
 have e1 : wrap64 (32 * (d : Int)) = (q : Int) := by rw [hq]; unfold wrap64; omega
 have e2 : wrap64 ((q : Int) * (m : Int)) = ((m * q : Nat) : Int) := by
  rw [show (q : Int) * (m : Int) = ((m * q : Nat) : Int) by rw [Int.mul_comm]; push_cast; rfl]
  unfold wrap64; omega
 have H := Aside0.mk h
 have HF := Aside0.mk (pke_read.pks_at k d l2 q m 0 fts hf)
 clear hf
 have HR := Aside0.mk hr2
 have HL := Aside0.mk hl
 have HC := Aside0.mk hc2
 have HQ := Aside0.mk hq
 clear h hr2 hq hd1 hm1
 obtain ⟨L, hL⟩ : ∃ L, L = m * q := ⟨_, rfl⟩
 rw [← hL] at hl e2 hmq
 have HLq := Aside0.mk hL
 clear hL
 have i1 : (0 : Int) ≤ (L : Int) := by omega
 have i2 : (L : Int) ≤ (c2 : Int) := by omega
 refine (callsIn_wide (n := 5)).1 ?_
 refine callsIn_of_wp_marks Tryd.func38 rfl trivial ?_ rfl
 simp only [Tryd.ntmps38, List.size_toArray, List.length_cons, List.length_nil, Nat.reduceAdd, Nat.reduceSub, Array.replicate_succ, Array.replicate_zero, List.push_toArray, List.append_toArray, List.nil_append, List.cons_append]
 gi_wp2
 obtain ⟨w0, hw0⟩ : ∃ w0, w0 = ((((w.alloc (.cells #[.int .i64 (d : Int)] 3)).alloc (.cells #[.slice none 0 0] 49)).alloc (.cells #[.bool false] 4)).alloc (.cells #[.slice none 0 0] 49)) := ⟨_, rfl⟩
 rw [← hw0]
 obtain ⟨g0, hg0⟩ : ∃ g, g = w.heap.size := ⟨_, rfl⟩
 obtain ⟨g1, hg1⟩ : ∃ g, g = w.heap.size + 1 := ⟨_, rfl⟩
 obtain ⟨g2, hg2⟩ : ∃ g, g = w.heap.size + 1 + 1 := ⟨_, rfl⟩
 obtain ⟨g3, hg3⟩ : ∃ g, g = w.heap.size + 1 + 1 + 1 := ⟨_, rfl⟩
 have Z0 : w0.heap.size = w.heap.size + 4 := by rw [hw0]; simp
 have X0 : Boxed w0 g0 3 (.int .i64 (d : Int)) := by rw [hw0, hg0]; exact (((Boxed.new w _ _).alloc _).alloc _).alloc _
 have X1 : Boxed w0 g1 49 (.slice none 0 0) := by
  rw [hw0, hg1]
  have q := Boxed.new (w.alloc (.cells #[.int .i64 (d : Int)] 3)) 49 (.slice none 0 0)
  rw [World.size_alloc] at q
  exact (q.alloc _).alloc _
 have X2 : Boxed w0 g2 4 (.bool false) := by
  rw [hw0, hg2]
  have q := Boxed.new ((w.alloc (.cells #[.int .i64 (d : Int)] 3)).alloc (.cells #[.slice none 0 0] 49)) 4 (.bool false)
  rw [World.size_alloc, World.size_alloc] at q
  exact q.alloc _
 have X3 : Boxed w0 g3 49 (.slice none 0 0) := by
  rw [hw0, hg3]
  have q := Boxed.new (((w.alloc (.cells #[.int .i64 (d : Int)] 3)).alloc (.cells #[.slice none 0 0] 49)).alloc (.cells #[.bool false] 4)) 49 (.slice none 0 0)
  rw [World.size_alloc, World.size_alloc, World.size_alloc] at q
  exact q
 have B0 : Aside0 (Below w.heap.size w w0) := ⟨by rw [hw0]; exact below_alloc (below_alloc (below_alloc (below_alloc (Below.refl _ _) _) _) _) _⟩
 rw [← hg3, ← hg2, ← hg1, ← hg0]
 have GE := Aside0.mk (And.intro hg0 (And.intro hg1 (And.intro hg2 (And.intro hg3 Z0))))
 have cd := X0.cell
 have Y0 := Aside0.mk X0
 have Y1 := Aside0.mk X1
 have Y2 := Aside0.mk X2
 have Y3 := Aside0.mk X3
 clear X0 X1 X2 X3 hw0 hg1 hg2 hg3 Z0 hg0
 have e1' : IntKind.i64.wrap (32 * (d : Int)) = (q : Int) := (i64_w _).trans e1
 have e2' : IntKind.i64.wrap ((q : Int) * (m : Int)) = (L : Int) := (i64_w _).trans e2
 refine wpIn_wide.2 ?_
 go_region_held3 (fun w' => w'.cell? ⟨g0, 0, none⟩ = some (.int .i64 (d : Int))) (go_keep) ((go_at_call 58; (with_reducible refine (PPK.Chunk.calls A2 L c2 q q1 _).mono ?_); rintro e w' ⟨rfl, rfl⟩))
 obtain ⟨n0, hn0⟩ : ∃ n, n = w0.heap.size := ⟨_, rfl⟩
 obtain ⟨W1, hW1⟩ : ∃ W1, W1 = ((w0.alloc (.cells #[.slice A2 L c2] 22)).alloc (.cells #[.int .i64 (q : Int)] 3)).drew := ⟨_, rfl⟩
 rw [← hW1, ← hn0]
 have X0 : Boxed W1 g0 3 (.int .i64 (d : Int)) := by rw [hW1]; exact (Y0.out.alloc _).alloc _
 have X1 : Boxed W1 g1 49 (.slice none 0 0) := by rw [hW1]; exact (Y1.out.alloc _).alloc _
 have X2 : Boxed W1 g2 4 (.bool false) := by rw [hW1]; exact (Y2.out.alloc _).alloc _
 have X3 : Boxed W1 g3 49 (.slice none 0 0) := by rw [hW1]; exact (Y3.out.alloc _).alloc _
 have X4 : Boxed W1 n0 22 (.slice A2 L c2) := by rw [hW1, hn0]; exact (Boxed.new w0 _ _).alloc _
 have X5 : Boxed W1 (n0 + 1) 3 (.int .i64 (q : Int)) := by
  rw [hW1, hn0]
  have q := Boxed.new (w0.alloc (.cells #[.slice A2 L c2] 22)) 3 (.int .i64 (q : Int))
  rw [World.size_alloc] at q
  exact q
 have B1 : Aside0 (Below w.heap.size w W1) := ⟨by rw [hW1]; exact below_drew1 (below_alloc (below_alloc B0.out _) _)⟩
 have Z1 : W1.heap.size = n0 + 2 := by rw [hW1, hn0]; show ((w0.alloc _).alloc _).heap.size = _; simp
 have NE : Aside0 (w.heap.size ≤ g3 ∧ g0 ≠ g3 ∧ g1 ≠ g3 ∧ g2 ≠ g3 ∧ n0 ≠ g3 ∧ n0 + 1 ≠ g3) := ⟨by have := GE.out; omega⟩
 have NE2 : Aside0 (g1 ≠ g2 ∧ w.heap.size ≤ g1 ∧ w.heap.size ≤ g2 ∧ n0 ≠ g1 ∧ n0 + 1 ≠ g1 ∧ n0 ≠ g2 ∧ n0 + 1 ≠ g2) := ⟨by have := GE.out; omega⟩
 have GN : Aside0 (w.heap.size ≤ n0) := ⟨by have := GE.out.2.2.2.2; omega⟩
 have Y0 := Aside0.mk X0
 have Y1 := Aside0.mk X1
 have Y2 := Aside0.mk X2
 have Y3 := Aside0.mk X3
 have Y4 := Aside0.mk X4
 have Y5 := Aside0.mk X5
 have Z1 := Aside0.mk Z1
 have hHeld := trivial
 clear X0 X1 X2 X3 X4 X5 cd e1' e2' hn0 hW1 B0
 gi_wp2
 refine wpIn_rangeFunc_ownF (F := Fence.wide) rfl (by decide) (gf := 76) (lb := #[.pointer (some ⟨n0, 0, none⟩), .pointer (some ⟨n0 + 1, 0, none⟩)]) rfl trivial (enters_of Tryd.func76 (by kernel_rfl) rfl)
  (PPK.Chunk.stops 4 (by decide) n0 (n0 + 1) A2 m q c2 q1 (by rw [← HLq.out]; omega) (by omega) (by have := HL.out; have := HC.out; omega) W1 (by have := Y4.out.cell; rw [HLq.out] at this; exact this) Y5.out.cell (by have := Z1.out; omega) (by have := Z1.out; omega))
  PPK.KeepS.trans (PPK.KeepS.put (by have := Z1.out; omega) (by have := Z1.out; omega)) (Below.refl _ _) (fun _ => rfl)
  (pke_read.I m fts w g0 g1 g2 g3 n0 d (.slice A2 L c2) (.int .i64 (q : Int))) (pke_read.X m fts w g1 g2) (pke_read.I_own m fts w g0 g1 g2 g3 n0 d _ _ _ (by have := Z1.out; have := GN.out; omega)) (pke_read.X_own m fts w g1 g2 _ (by have := Z1.out; have := GN.out; omega))
  ⟨⟨_, Y3.out, Kd.S_nil _ _ _ _ _⟩, fun x hx => by simp at hx, Y0.out, Y1.out, Y2.out, B1.out, by have := Z1.out; omega, Y4.out, Y5.out⟩
  (fun x => { tmps := #[.int .i64 d, .int .i64 m, .slice A2 l2.length c2, .pointer (some ⟨g0, 0, none⟩), undef, undef, .pointer (some ⟨g1, 0, none⟩), .pointer (some ⟨g2, 0, none⟩), .pointer (some ⟨g3, 0, none⟩), PPK.chv A2 q x.val, undef, .slice A2 l2.length c2, .int .i64 d, .int .i64 q, .int .i64 m, .int .i64 L, .slice A2 L c2, .int .i64 d, .int .i64 q, .func (.func 76) #[] #[.pointer (some ⟨n0, 0, none⟩), .pointer (some ⟨n0 + 1, 0, none⟩)], PPK.chv A2 q x.val, undef, undef, undef, undef, undef, undef, undef, undef, undef, undef, undef, undef, undef, undef, undef], defers := [] }) ?assign ?body ?done ?stop
 case assign =>
  intro l x W K hK
  gi_wp2
  exact hK
 case body =>
  rintro l pre x W ⟨⟨v, hv, hR⟩, hT, h0, h1, h2, hB, hs, h4, h5⟩ hlt
  have HII := Aside0.mk (show pke_read.I m fts w g0 g1 g2 g3 n0 d (.slice A2 L c2) (.int .i64 (q : Int)) pre W from ⟨⟨v, hv, hR⟩, hT, h0, h1, h2, hB, hs, h4, h5⟩)
  have HVL := Aside0.mk (Kd.R_lt (Kd.S_R hR))
  obtain ⟨f, t, hft⟩ : ∃ f t, (fts.getD x.val ([], false)) = (f, t) := ⟨_, _, rfl⟩
  have hu := HF.out.2 x.val x.isLt
  rw [hft, Nat.zero_add] at hu
  obtain ⟨part, hpart⟩ : ∃ p, p = (l2.take ((x.val + 1) * q)).drop (x.val * q) := ⟨_, rfl⟩
  rw [← hpart] at hu
  obtain ⟨f', hf', hu⟩ := Option.bind_eq_some_iff.1 hu
  have hxq : (x.val + 1) * q ≤ l2.length := Nat.le_trans (Nat.mul_le_mul_right q x.isLt) HL.out
  have hpl : part.length = q := by rw [hpart, List.length_drop, List.length_take, Nat.min_eq_left hxq, Nat.succ_mul]; omega
  have hpc : ∀ W', Below w.heap.size w W' → Kd.C (Kd.int .u8) W' (A2.map (·.add (x.val * q))) q part := fun W' hb => by
   have hc := Kd.C_mid (c := c2 + 1) (Kd.C_below HR.out hb) (lo := x.val * q) (hi := (x.val + 1) * q) (Nat.mul_le_mul_right q (Nat.le_succ _)) hxq (by have := HC.out; omega)
   have hlo : x.val * q ≤ (x.val + 1) * q := Nat.mul_le_mul_right q (Nat.le_succ _)
   rw [if_neg (by have := HC.out; omega), ← hpart, hpl] at hc
   rw [show (Kd.int .u8).sz = 1 from rfl, Nat.mul_one] at hc
   exact hc
  have UN : Aside0 (∀ W', Below w.heap.size w W' → Calls Tryd.prog 16 #[.int .i64 (d : Int), .slice (A2.map (·.add (x.val * q))) q q] W' fun e w' => ∃ v0_ : Value, e = .returned v0_ ∧ Kd.R (Kd.int .i64) 3 w' W'.heap.size (fun _ => True) v0_ f' ∧ Below W'.heap.size W' w') := ⟨fun W' hb => by
   have := bits_Unpack.calls k (d : Int) (A2.map (·.add (x.val * q))) q part f' W' (by rw [hpl]; exact hpc W' hb) (by omega) hf'
   rw [hpl] at this
   exact this⟩
  clear hpc
  obtain ⟨i0, hi, hz0, hz1, hz2⟩ := info_parts info40
  by_cases hd12 : (d : Int) = 12
  ·rw [if_pos hd12] at hu
   obtain ⟨t', ht', hu⟩ := Option.bind_eq_some_iff.1 hu
   have hu := Option.some.inj hu
   obtain ⟨e3, e4⟩ := Prod.mk.inj hu
   subst e3
   subst e4
   have z1 : ((d : Int) == 12) = true := by simp [hd12]
   have HV := Aside0.mk hv
   have HRR := Aside0.mk hR
   have H0 := Aside0.mk h0
   have H1 := Aside0.mk h1
   have H2 := Aside0.mk h2
   have HB := Aside0.mk hB
   have HS := Aside0.mk hs
   have HFT := Aside0.mk hft
   have LT := Aside0.mk hlt
   have c0 := h0.cell
   dsimp only [PPK.chv]
   have MY : Aside0 (∀ A c w', Kd.R (Kd.int .i64) 3 w' W.heap.size (fun _ => True) (.slice A f'.length c) f' → Calls Tryd.prog 17 #[.slice A f'.length c] w' fun e w'' => e = .returned (.bool t') ∧ Below w'.heap.size w' w'') := ⟨fun A c w' h => by
    obtain ⟨h1, h2, h3⟩ := Kd.R_reads' h
    exact (poly_May.calls k A c f' t' w' h3 h2 ht').mono fun e w'' h => ⟨h.1, h.2.below⟩⟩
   clear hv hR h0 h1 h2 h4 h5 hB hft hT hs hlt hd12 hu hf' ht' hxq hpl hpart
   gi_wp2
   refine ⟨trivial, ?_⟩
   refine (CallsIn.inRound l (callsIn_wide.2 (UN.out W HB.out))).mono ?_
   rintro e w1 ⟨v10, rfl, hr1, hb1⟩
   have c0 := Boxed.cell (blk_below H0.out hb1)
   have c3 := Boxed.cell (blk_below HV.out hb1)
   have c3f := Boxed.frozen (blk_below HV.out hb1)
   obtain ⟨A10, C10, rfl⟩ := Kd.R_slice hr1
   have R1 := Aside0.mk hr1
   have B1' := Aside0.mk hb1
   clear hr1 hb1
   gi_wp2
   refine ⟨trivial, ?_⟩
   refine (CallsIn.inRound l (callsIn_wide.2 (MY.out A10 C10 w1 R1.out))).mono ?_
   rintro e w2 ⟨rfl, hb2⟩
   have B2' := Aside0.mk (B1'.out.trans (hb2.mono B1'.out.size))
   have R2 := Aside0.mk (Kd.R_below R1.out hb2)
   have c0 := Boxed.cell (blk_below H0.out B2'.out)
   have c3 := Boxed.cell (blk_below HV.out B2'.out)
   have c3f := Boxed.frozen (blk_below HV.out B2'.out)
   clear hb2
   cases t' with
   | true =>
    have HX := HFT
    have LP : Aside0 (pre.length < 100) := ⟨by have := LT.out; omega⟩
    have HN1 : Aside0 (w.heap.size ≤ w2.heap.size) := ⟨by have := HS.out; have := B2'.out.size; have := GN.out; omega⟩
    have GL : Aside0 (w.heap.size ≤ g3) := ⟨NE.out.1⟩
    obtain ⟨tg, htg, hTR⟩ := Kd.S_tag (okv := fun k => k < W.heap.size) (Kd.S_below (Kd.S_mono (Kd.S_bound HRR.out) (fun k hk => hk.2.2.1)) B2'.out) (pre.map fun x => (fts.getD x.val ([], false)).1).length (fun k => W.heap.size ≤ k) (fun k h1 h2 => by omega)
    obtain ⟨hk0, inner, hown, hreps⟩ := hTR
    rw [List.length_zipIdx] at hown
    have hown' := hown.alloc (.cells #[.slice A10 f'.length C10] 40)
    gi_wp2_with (gi_at_builtin; refine wpListIn_append_own_at _ rfl (.tmp 31) (.tmp 33) 49 rfl w.heap.size 40 i0 (.slice none 0 0) 1 24 Tryd.underlying49 hi hz0 hz1 hz2 rfl (by decide) v _ inner rfl hown' ⟨w2.heap.size, 0, none⟩ 1 1 [.slice A10 f'.length C10] rfl rfl (cell_one_new _ _ _) (by simp [Value.oneCell']) (by have := LP.out; simp only [maxLen, List.length_map]; omega) (by have := LP.out; rw [List.length_map]; omega) (by have := HN1.out; simp; omega) ?_; intro v1 w3 hown1 hgrow hnil hat; obtain ⟨gg, cc, rfl⟩ := ownsRow_succ hown1; have HA := Aside0.mk (Boxed.appended (blk_below HV.out B2'.out) (by decide) hown HN1.out GL.out hown1 hgrow); have NX := Aside0.mk (pke_read.next HII.out NE.out HX.out HV.out B2'.out R2.out HVL.out hown tg htg hreps hown1 hgrow hat); have c3 := HA.out.1.cell; have c3f := HA.out.1.frozen; clear hown1 hgrow hnil hat)
    rw [List.length_map] at NX
    exact NX.out
   | false =>
    have y1 := Boxed.cell (blk_below H1.out B2'.out)
    have y1f := Boxed.frozen (blk_below H1.out B2'.out)
    have Y2 := Aside0.mk (blk_below H2.out B2'.out)
    have y2 := Boxed.cell (blk_below H2.out B2'.out)
    have y2f := Boxed.frozen (blk_below H2.out B2'.out)
    have n12 := NE2.out.1
    have n21 := Ne.symm NE2.out.1
    gi_wp2
    have hB2 : Below w.heap.size w w2 := HB.out.trans (B2'.out.mono HB.out.size)
    refine ⟨((rd_keeps B2'.out).trans (KeepsOthers.setCell _ _ _)).trans (KeepsOthers.setCell _ _ _), rfl, ⟨x, by rw [HFT.out]⟩, ?_, ?_, ?_⟩
    ·exact (Below.heap_setCell _ ⟨g2, 0, none⟩ _ g1 n12).trans ((Boxed.set _ (blk_below H1.out B2'.out)))
    ·exact Boxed.set _ ((Below.heap_setCell _ ⟨g1, 0, none⟩ _ g2 n21).trans Y2.out)
    ·exact (hB2.setCell (p := ⟨g1, 0, none⟩) NE2.out.2.1 _).setCell (p := ⟨g2, 0, none⟩) NE2.out.2.2.1 _
  ·rw [if_neg hd12] at hu
   have hu := Option.some.inj hu
   obtain ⟨e3, e4⟩ := Prod.mk.inj hu
   subst e3
   subst e4
   have z1 : ((d : Int) == 12) = false := by simp [hd12]
   have HX := Aside0.mk hft
   have HV := Aside0.mk hv
   have HRR := Aside0.mk hR
   have H0 := Aside0.mk h0
   have H1 := Aside0.mk h1
   have H2 := Aside0.mk h2
   have HB := Aside0.mk hB
   have HS := Aside0.mk hs
   have HFT := Aside0.mk hft
   have LT := Aside0.mk hlt
   have c0 := h0.cell
   dsimp only [PPK.chv]
   clear hv hR h0 h1 h2 h4 h5 hB hft hT hs hlt hd12 hu hf' hxq hpl hpart
   gi_wp2
   refine ⟨trivial, ?_⟩
   refine (CallsIn.inRound l (callsIn_wide.2 (UN.out W HB.out))).mono ?_
   rintro e w1 ⟨v10, rfl, hr1, hb1⟩
   have c0 := Boxed.cell (blk_below H0.out hb1)
   have c3 := Boxed.cell (blk_below HV.out hb1)
   have c3f := Boxed.frozen (blk_below HV.out hb1)
   obtain ⟨A10, C10, rfl⟩ := Kd.R_slice hr1
   have R1 := Aside0.mk hr1
   have B1' := Aside0.mk hb1
   clear hr1 hb1
   gi_wp2
   refine ⟨trivial, ?_⟩
   have LP : Aside0 (pre.length < 100) := ⟨by have := LT.out; omega⟩
   have HN1 : Aside0 (w.heap.size ≤ w1.heap.size) := ⟨by have := HS.out; have := B1'.out.size; have := GN.out; omega⟩
   have GL : Aside0 (w.heap.size ≤ g3) := ⟨NE.out.1⟩
   obtain ⟨tg, htg, hTR⟩ := Kd.S_tag (okv := fun k => k < W.heap.size) (Kd.S_below (Kd.S_mono (Kd.S_bound HRR.out) (fun k hk => hk.2.2.1)) B1'.out) (pre.map fun x => (fts.getD x.val ([], false)).1).length (fun k => W.heap.size ≤ k) (fun k h1 h2 => by omega)
   obtain ⟨hk0, inner, hown, hreps⟩ := hTR
   rw [List.length_zipIdx] at hown
   have hown' := hown.alloc (.cells #[.slice A10 f'.length C10] 40)
   gi_wp2_with (gi_at_builtin; refine wpListIn_append_own_at _ rfl (.tmp 31) (.tmp 33) 49 rfl w.heap.size 40 i0 (.slice none 0 0) 1 24 Tryd.underlying49 hi hz0 hz1 hz2 rfl (by decide) v _ inner rfl hown' ⟨w1.heap.size, 0, none⟩ 1 1 [.slice A10 f'.length C10] rfl rfl (cell_one_new _ _ _) (by simp [Value.oneCell']) (by have := LP.out; simp only [maxLen, List.length_map]; omega) (by have := LP.out; rw [List.length_map]; omega) (by have := HN1.out; simp; omega) ?_; intro v1 w3 hown1 hgrow hnil hat; obtain ⟨gg, cc, rfl⟩ := ownsRow_succ hown1; have HA := Aside0.mk (Boxed.appended (blk_below HV.out B1'.out) (by decide) hown HN1.out GL.out hown1 hgrow); have NX := Aside0.mk (pke_read.next HII.out NE.out HX.out HV.out B1'.out R1.out HVL.out hown tg htg hreps hown1 hgrow hat); have c3 := HA.out.1.cell; have c3f := HA.out.1.frozen; clear hown1 hgrow hnil hat)
   rw [List.length_map] at NX
   exact NX.out
 case done =>
  rintro D ys W hD rfl ⟨⟨v, hv, hR⟩, hT, h0, h1, h2, hB, hs, h4, h5⟩ hK
  have e9 : (if fts.all (·.2) = true then (fts.map (·.1), true) else ([], false)) = (((List.finRange m).map fun x => (fts.getD x.val ([], false)).1), true) := by
   have hl := HF.out.1
   rw [if_pos]
   ·congr 1
    refine List.ext_getElem (by rw [List.length_map, List.length_map, List.length_finRange, hl]) fun i h1 h2 => ?_
    rw [List.length_map] at h1
    simp [h1]
   ·rw [List.all_eq_true]
    intro y hy
    obtain ⟨i, hi, rfl⟩ := List.getElem_of_mem hy
    have := hT ⟨i, by omega⟩ (List.mem_finRange _)
    simpa [hi] using this
  have HE := Aside0.mk (e9.symm.trans H.out)
  have c1 := h1.cell
  have c1f := h1.frozen
  have c2 := h2.cell
  have c2f := h2.frozen
  have c3 := hv.cell
  have n12 := NE2.out.1
  have n21 := Ne.symm NE2.out.1
  have HV := Aside0.mk hv
  have HRR := Aside0.mk hR
  have H1 := Aside0.mk h1
  have H2 := Aside0.mk h2
  have HB := Aside0.mk hB
  have HK := Aside0.mk hK
  obtain ⟨A9, C9, rfl⟩ := Kd.S_slice hR
  clear hv hR h0 h1 h2 h4 h5 hB hT hs e9
  gi_wp2
  have hK3 := ((KeepsOthers.setCell W ⟨g1, 0, none⟩ (.slice A9 m C9)).trans (KeepsOthers.setCell _ ⟨g2, 0, none⟩ (.bool true))).same D _ HK.out rfl
  refine ⟨by simp, .inl ⟨_, _, rfl, run_takeDeferred hK3, ?_⟩⟩
  have hln : ((List.finRange m).map fun x => (fts.getD x.val ([], false)).1).length = m := by rw [List.length_map, List.length_finRange]
  have HR2 := HRR.out
  rw [show (Value.slice A9 ((List.finRange m).map fun x => (fts.getD x.val ([], false)).1).length C9) = Value.slice A9 m C9 by rw [hln]] at HR2
  obtain ⟨e1, e2⟩ := Prod.mk.inj HE.out
  subst e1
  subst e2
  obtain ⟨W3, hW3⟩ : ∃ W3, W3 = ((W.setCell ⟨g1, 0, none⟩ (.slice A9 m C9)).setCell ⟨g2, 0, none⟩ (.bool true)) := ⟨_, rfl⟩
  rw [← hW3] at hK3 ⊢
  have b1 : Boxed W3 g1 49 (.slice A9 m C9) := by rw [hW3]; exact (Below.heap_setCell _ ⟨g2, 0, none⟩ _ g1 n12).trans (Boxed.set _ H1.out)
  have b2 : Boxed W3 g2 4 (.bool true) := by rw [hW3]; exact Boxed.set _ ((Below.heap_setCell _ ⟨g1, 0, none⟩ _ g2 n21).trans H2.out)
  have hr3 : Kd.S (Kd.slice 3 (Kd.int .i64)) 40 W3 w.heap.size (fun _ => True) (.slice A9 m C9) ((List.finRange m).map fun x => (fts.getD x.val ([], false)).1) := by
   rw [hW3]
   exact Kd.S_set (Kd.S_set HR2 H1.out (by decide) 0 _) ((Below.heap_setCell _ ⟨g1, 0, none⟩ _ g2 n21).trans H2.out) (by decide) 0 _
  have hb3 : Below w.heap.size w W3 := by
   rw [hW3]
   exact (HB.out.setCell (p := ⟨g1, 0, none⟩) NE2.out.2.1 _).setCell (p := ⟨g2, 0, none⟩) NE2.out.2.2.1 _
  have hp := grownBy_putObj' W3 D (.deferred none)
  have hpr : ∀ r, some D = some r → 0 ≤ r ∧ ∃ o : Obj, W3.heap[r]? = some o ∧ o.isCells = false := fun r e => by cases e; exact ⟨Nat.zero_le _, _, hK3, rfl⟩
  have k1 := Boxed.cell (own_box b1 hp hpr)
  have k2 := Boxed.cell (own_box b2 hp hpr)
  refine ⟨_, (by simp [results, Tryd.results38, asAddr, go_sem, k1, k2]; rfl), ?_⟩
  exact ⟨_, rfl, own_rowsS hr3 hp hpr, ownFrom_below (β := Unit) (Nat.le_refl _) (Nat.le_refl _) () W3 _ _ hb3 hp (fun r e => ⟨by cases e; have := Z1.out; have := GN.out; omega, (hpr r e).2⟩)⟩
 case stop =>
  rintro D c pre W hD ⟨kq, hpre⟩ ⟨rfl, ⟨x, hx⟩, h1, h2, hB⟩ hK
  have e9 : (if fts.all (·.2) = true then (fts.map (·.1), true) else ([], false)) = (([] : List (List Int)), false) := by
   rw [if_neg]
   intro ha
   have hl := HF.out.1
   have hxl : x.val < fts.length := by rw [hl]; exact x.isLt
   rw [List.getD_eq_getElem?_getD, List.getElem?_eq_getElem hxl] at hx
   have := (List.all_eq_true.1 ha) _ (List.getElem_mem hxl)
   rw [Option.getD_some] at hx
   rw [hx] at this
   cases this
  have HE := Aside0.mk (e9.symm.trans H.out)
  have c1 := h1.cell
  have c1f := h1.frozen
  have c2 := h2.cell
  have H1 := Aside0.mk h1
  have H2 := Aside0.mk h2
  have HB := Aside0.mk hB
  have HK := Aside0.mk hK
  clear h1 h2 hB hpre e9
  gi_wp2
  refine ⟨by simp, .inl ⟨_, _, rfl, run_takeDeferred HK.out, ?_⟩⟩
  obtain ⟨e1, e2⟩ := Prod.mk.inj HE.out
  subst e1
  subst e2
  have hp := grownBy_putObj' W D (.deferred none)
  have hpr : ∀ r, some D = some r → 0 ≤ r ∧ ∃ o : Obj, W.heap[r]? = some o ∧ o.isCells = false := fun r e => by cases e; exact ⟨Nat.zero_le _, _, HK.out, rfl⟩
  have k1 := Boxed.cell (own_box H1.out hp hpr)
  have k2 := Boxed.cell (own_box H2.out hp hpr)
  refine ⟨_, (by simp [results, Tryd.results38, asAddr, go_sem, k1, k2]; rfl), ?_⟩
  exact ⟨_, rfl, Kd.S_nil _ _ _ _ _, ownFrom_below (β := Unit) (Nat.le_refl _) (Nat.le_refl _) () W _ _ HB.out hp (fun r e => ⟨by cases e; have := Z1.out; have := GN.out; omega, (hpr r e).2⟩)⟩
end

end Go.Proofs.YtkdfcgihgndnnaaDoor.PPA
end
section
namespace Go.Proofs.YtkdfcgihgndnnaaDoor.PPA
open Go.RowKit Go.Proofs.YtkdfcgihgndnnaaDoorW.PrintWords Go.Proofs.YtkdfcgihgndnnaaDoorW.PrintLast Go.Proofs.YtkdfcgihgndnnaaDoorW.PrintMore Go.Proofs.YtkdfcgihgndnnaaDoorW.PrintZip
attribute [local go_sem] max2_int min2_int max_two min_two max_three min_three max_four min_four   -- for this text's walks alone
set_option linter.unusedVariables false
set_option linter.unusedSimpArgs false

/-! ### pke_May: function 19 -/
def pke_May.f (k : Nat) (a0 : Int) (l1 : List Int) : Option ((List (S70))) := (pke_Of.f a0).bind fun bt338 => (if bt338.2.2.2.2.2 = true then ((pke_Sizes.f a0).bind fun bt348 => (if (l1.length : Int) = bt348.1 then ((pke_read.f k 12 bt338.1 l1).bind fun bt354 => (if bt354.2 = true then (some ([] : List (S70))) else ((pke_fault.f 4).bind fun t358 => (some t358)))) else ((pke_fault.f 3).bind fun t351 => (some t351)))) else ((pke_fault.f 2).bind fun t345 => (some t345)))
set_option maxHeartbeats 8000000 in
set_option maxRecDepth 100000 in
theorem pke_May.calls (k : Nat) (a0 : Int) (A1 : Option Addr) (c1 : Nat) (l1 : List Int) (r : List (S70)) (w : World) (hr1 : Kd.C (Kd.int .u8) w A1 l1.length l1) (hc1 : l1.length ≤ c1) (h : pke_May.f k a0 l1 = some r) :
  Calls Tryd.prog 19 #[.int .i64 a0, .slice A1 l1.length c1] w fun e w' => ∃ v0_ : Value, e = .returned (v0_) ∧ Kd.R k70 70 w' w.heap.size (fun _ => True) (eRow v0_) r ∧ Below w.heap.size w w' := by
 have hu34 := Tryd.underlying34
 have HR1 := Aside0.mk hr1
 have HC1 := Aside0.mk hc1
 clear hr1 hc1
 have HB := Aside0.mk (Below.refl w.heap.size w)
 have H := h
 unfold pke_May.f at H
 clear h
 replace H := Option.bind_eq_some_iff.mp H
 obtain ⟨⟨t338, t339, t340, t341, t342, t343⟩, A30, H⟩ := H
 try dsimp only at H
 have A3 := Aside0.mk A30
 clear A30
 by_cases c4 : t343 = true
 ·subst c4
  rw [if_pos rfl] at H
  replace H := Option.bind_eq_some_iff.mp H
  obtain ⟨⟨t348, t349, t350⟩, A50, H⟩ := H
  try dsimp only at H
  have A5 := Aside0.mk A50
  clear A50
  by_cases c6 : (l1.length : Int) = t348
  ·rw [if_pos c6] at H
   have c6b0 : ((l1.length : Int) == t348) = true := beq_iff_eq.mpr c6
   have c6b1 : ((l1.length : Int) != t348) = false := bne_eq_false_iff_eq.mpr c6
   clear c6
   replace H := Option.bind_eq_some_iff.mp H
   obtain ⟨⟨t354, t355⟩, A70, H⟩ := H
   try dsimp only at H
   have A7 := Aside0.mk A70
   clear A70
   by_cases c8 : t355 = true
   ·subst c8
    rw [if_pos rfl] at H
    obtain rfl := Option.some.inj H
    go_enter Tryd.func19, Tryd.ntmps19
    go_wp2_with (first | ((with_reducible refine gate_callee (f := 13) rfl ?_); refine goesL_ (some 14) rfl rfl Tryd.func13 (by kernel_rfl) rfl #[.int .i64 a0] rfl Mq ?_; (with_reducible refine (pke_Of.calls a0 t338 t339 t340 t341 t342 true _ A3.out).mono ?_); rintro e w9 ⟨rfl, hb⟩; refine ⟨_, rfl, ?_⟩; replace HB := Aside0.mk (below_step Bq hb); clear hb; (try clear A3)) | ((with_reducible refine gate_dst (N := 5) rfl ?_); refine box_event ?hg (N := 5) ?hd (cs := #[.int .i64 0, .int .i64 0, .int .i64 0, .int .i64 0, .int .i64 0]) (t := 34) ?hr ?_; (case hd => rfl); (case hg => rfl); (case hr => first | (go_simp; done) | (go_simp; rfl)); intro gb344 hg w10 hbox hb; have BK344 := Aside0.mk (hbox); have GW344 := Aside0.mk ((by rw [hg]; exact (below_size Bq) : w.heap.size ≤ gb344)); have GE344 := Aside0.mk ((by rw [hg]; exact (below_size Bq) : w.heap.size ≤ gb344)); replace HB := Aside0.mk (below_step Bq hb); clear hb hbox hg; have hcz11_0 : w10.cell? ⟨gb344, 0, none⟩ = some (.int .i64 0) := (blk_cell BK344.out 0).trans rfl; have hcz11_1 : w10.cell? ⟨gb344, 1, none⟩ = some (.int .i64 0) := (blk_cell BK344.out 1).trans rfl; have hcz11_2 : w10.cell? ⟨gb344, 2, none⟩ = some (.int .i64 0) := (blk_cell BK344.out 2).trans rfl; have hcz11_3 : w10.cell? ⟨gb344, 3, none⟩ = some (.int .i64 0) := (blk_cell BK344.out 3).trans rfl; have hcz11_4 : w10.cell? ⟨gb344, 4, none⟩ = some (.int .i64 0) := (blk_cell BK344.out 4).trans rfl; have hfz11_0 := blk_frozen BK344.out 0; have hfz11_1 := blk_frozen BK344.out 1; have hfz11_2 := blk_frozen BK344.out 2; have hfz11_3 := blk_frozen BK344.out 3; have hfz11_4 := blk_frozen BK344.out 4) | ((with_reducible refine gate_callee (f := 14) rfl ?_); refine goesL_ (some 22) rfl rfl Tryd.func14 (by kernel_rfl) rfl #[.int .i64 a0] rfl Mq ?_; (with_reducible refine (pke_Sizes.calls a0 t348 t349 t350 _ A5.out).mono ?_); rintro e w12 ⟨rfl, hb⟩; refine ⟨_, rfl, ?_⟩; replace BK344 := Aside0.mk (blk_below (g := gb344) (o := .cells #[.int .i64 t338, .int .i64 t339, .int .i64 t340, .int .i64 t341, .int .i64 t342] 34 (0, 0)) (by (with_reducible repeat (first | refine blk_drewN ?_ _ | refine blk_drew ?_ | refine blk_alloc ?_ _)); refine blk_put (cs := #[.int .i64 t338, .int .i64 t339, .int .i64 t340, .int .i64 t341, .int .i64 0]) ?_ 4 _ rfl; (with_reducible repeat (first | refine blk_drewN ?_ _ | refine blk_drew ?_ | refine blk_alloc ?_ _)); refine blk_put (cs := #[.int .i64 t338, .int .i64 t339, .int .i64 t340, .int .i64 0, .int .i64 0]) ?_ 3 _ rfl; (with_reducible repeat (first | refine blk_drewN ?_ _ | refine blk_drew ?_ | refine blk_alloc ?_ _)); refine blk_put (cs := #[.int .i64 t338, .int .i64 t339, .int .i64 0, .int .i64 0, .int .i64 0]) ?_ 2 _ rfl; (with_reducible repeat (first | refine blk_drewN ?_ _ | refine blk_drew ?_ | refine blk_alloc ?_ _)); refine blk_put (cs := #[.int .i64 t338, .int .i64 0, .int .i64 0, .int .i64 0, .int .i64 0]) ?_ 1 _ rfl; (with_reducible repeat (first | refine blk_drewN ?_ _ | refine blk_drew ?_ | refine blk_alloc ?_ _)); refine blk_put (cs := #[.int .i64 0, .int .i64 0, .int .i64 0, .int .i64 0, .int .i64 0]) ?_ 0 _ rfl; (with_reducible repeat (first | refine blk_drewN ?_ _ | refine blk_drew ?_ | refine blk_alloc ?_ _)); exact BK344.out) hb); replace HB := Aside0.mk (below_step Bq hb); clear hb; (try clear A5); have hcz13_0 : w12.cell? ⟨gb344, 0, none⟩ = some (.int .i64 t338) := (blk_cell BK344.out 0).trans rfl; have hcz13_1 : w12.cell? ⟨gb344, 1, none⟩ = some (.int .i64 t339) := (blk_cell BK344.out 1).trans rfl; have hcz13_2 : w12.cell? ⟨gb344, 2, none⟩ = some (.int .i64 t340) := (blk_cell BK344.out 2).trans rfl; have hcz13_3 : w12.cell? ⟨gb344, 3, none⟩ = some (.int .i64 t341) := (blk_cell BK344.out 3).trans rfl; have hcz13_4 : w12.cell? ⟨gb344, 4, none⟩ = some (.int .i64 t342) := (blk_cell BK344.out 4).trans rfl; have hfz13_0 := blk_frozen BK344.out 0; have hfz13_1 := blk_frozen BK344.out 1; have hfz13_2 := blk_frozen BK344.out 2; have hfz13_3 := blk_frozen BK344.out 3; have hfz13_4 := blk_frozen BK344.out 4) | ((with_reducible refine gate_callee (f := 38) rfl ?_); refine goesL_ (some 35) rfl rfl Tryd.func38 (by kernel_rfl) rfl #[.int .i64 12, .int .i64 t338, .slice A1 l1.length c1] rfl Mq ?_; (with_reducible refine (pke_read.calls k 12 t338 _ _ l1 t354 true _ ?side1 ?side2 A7.out).mono ?_); (case side1 => exact Cq (Kd.C_below HR1.out HB.out)); (case side2 => exact HC1.out); rintro e w14 ⟨v356, rfl, ho0, hb⟩; refine ⟨_, rfl, ?_⟩; have HO357 := Aside0.mk (Kd.S_lower ho0 (below_size Bq)); replace BK344 := Aside0.mk (blk_below (g := gb344) (o := .cells #[.int .i64 t338, .int .i64 t339, .int .i64 t340, .int .i64 t341, .int .i64 t342] 34 (0, 0)) (Kq BK344) hb); replace HB := Aside0.mk (below_step Bq hb); clear hb ho0; (try clear A7)))
    go_ret
    exact ⟨_, by first | rfl | (simp [errW_none, errW_some] <;> rfl) | (simp [*, errW_none, errW_some] <;> rfl), by first | exact Kd.R_nil _ _ _ _ _ | exact Kd.N_nil _ _ _ _ _ | exact Kd.V_nil _ _ _ _ _ | exact Kd.Q_nil _ _ _ _ _ | exact Kd.S_nil _ _ _ _ _, Bq⟩
   ·replace c8 := Bool.eq_false_iff.mpr c8
    subst c8
    rw [if_neg nf] at H
    replace H := Option.bind_eq_some_iff.mp H
    obtain ⟨t358, A150, H⟩ := H
    try dsimp only at H
    have A15 := Aside0.mk A150
    clear A150
    obtain rfl := Option.some.inj H
    go_enter Tryd.func19, Tryd.ntmps19
    go_wp2_with (first | ((with_reducible refine gate_callee (f := 13) rfl ?_); refine goesL_ (some 14) rfl rfl Tryd.func13 (by kernel_rfl) rfl #[.int .i64 a0] rfl Mq ?_; (with_reducible refine (pke_Of.calls a0 t338 t339 t340 t341 t342 true _ A3.out).mono ?_); rintro e w16 ⟨rfl, hb⟩; refine ⟨_, rfl, ?_⟩; replace HB := Aside0.mk (below_step Bq hb); clear hb; (try clear A3)) | ((with_reducible refine gate_dst (N := 5) rfl ?_); refine box_event ?hg (N := 5) ?hd (cs := #[.int .i64 0, .int .i64 0, .int .i64 0, .int .i64 0, .int .i64 0]) (t := 34) ?hr ?_; (case hd => rfl); (case hg => rfl); (case hr => first | (go_simp; done) | (go_simp; rfl)); intro gb344 hg w17 hbox hb; have BK344 := Aside0.mk (hbox); have GW344 := Aside0.mk ((by rw [hg]; exact (below_size Bq) : w.heap.size ≤ gb344)); have GE344 := Aside0.mk ((by rw [hg]; exact (below_size Bq) : w.heap.size ≤ gb344)); replace HB := Aside0.mk (below_step Bq hb); clear hb hbox hg; have hcz18_0 : w17.cell? ⟨gb344, 0, none⟩ = some (.int .i64 0) := (blk_cell BK344.out 0).trans rfl; have hcz18_1 : w17.cell? ⟨gb344, 1, none⟩ = some (.int .i64 0) := (blk_cell BK344.out 1).trans rfl; have hcz18_2 : w17.cell? ⟨gb344, 2, none⟩ = some (.int .i64 0) := (blk_cell BK344.out 2).trans rfl; have hcz18_3 : w17.cell? ⟨gb344, 3, none⟩ = some (.int .i64 0) := (blk_cell BK344.out 3).trans rfl; have hcz18_4 : w17.cell? ⟨gb344, 4, none⟩ = some (.int .i64 0) := (blk_cell BK344.out 4).trans rfl; have hfz18_0 := blk_frozen BK344.out 0; have hfz18_1 := blk_frozen BK344.out 1; have hfz18_2 := blk_frozen BK344.out 2; have hfz18_3 := blk_frozen BK344.out 3; have hfz18_4 := blk_frozen BK344.out 4) | ((with_reducible refine gate_callee (f := 14) rfl ?_); refine goesL_ (some 22) rfl rfl Tryd.func14 (by kernel_rfl) rfl #[.int .i64 a0] rfl Mq ?_; (with_reducible refine (pke_Sizes.calls a0 t348 t349 t350 _ A5.out).mono ?_); rintro e w19 ⟨rfl, hb⟩; refine ⟨_, rfl, ?_⟩; replace BK344 := Aside0.mk (blk_below (g := gb344) (o := .cells #[.int .i64 t338, .int .i64 t339, .int .i64 t340, .int .i64 t341, .int .i64 t342] 34 (0, 0)) (by (with_reducible repeat (first | refine blk_drewN ?_ _ | refine blk_drew ?_ | refine blk_alloc ?_ _)); refine blk_put (cs := #[.int .i64 t338, .int .i64 t339, .int .i64 t340, .int .i64 t341, .int .i64 0]) ?_ 4 _ rfl; (with_reducible repeat (first | refine blk_drewN ?_ _ | refine blk_drew ?_ | refine blk_alloc ?_ _)); refine blk_put (cs := #[.int .i64 t338, .int .i64 t339, .int .i64 t340, .int .i64 0, .int .i64 0]) ?_ 3 _ rfl; (with_reducible repeat (first | refine blk_drewN ?_ _ | refine blk_drew ?_ | refine blk_alloc ?_ _)); refine blk_put (cs := #[.int .i64 t338, .int .i64 t339, .int .i64 0, .int .i64 0, .int .i64 0]) ?_ 2 _ rfl; (with_reducible repeat (first | refine blk_drewN ?_ _ | refine blk_drew ?_ | refine blk_alloc ?_ _)); refine blk_put (cs := #[.int .i64 t338, .int .i64 0, .int .i64 0, .int .i64 0, .int .i64 0]) ?_ 1 _ rfl; (with_reducible repeat (first | refine blk_drewN ?_ _ | refine blk_drew ?_ | refine blk_alloc ?_ _)); refine blk_put (cs := #[.int .i64 0, .int .i64 0, .int .i64 0, .int .i64 0, .int .i64 0]) ?_ 0 _ rfl; (with_reducible repeat (first | refine blk_drewN ?_ _ | refine blk_drew ?_ | refine blk_alloc ?_ _)); exact BK344.out) hb); replace HB := Aside0.mk (below_step Bq hb); clear hb; (try clear A5); have hcz20_0 : w19.cell? ⟨gb344, 0, none⟩ = some (.int .i64 t338) := (blk_cell BK344.out 0).trans rfl; have hcz20_1 : w19.cell? ⟨gb344, 1, none⟩ = some (.int .i64 t339) := (blk_cell BK344.out 1).trans rfl; have hcz20_2 : w19.cell? ⟨gb344, 2, none⟩ = some (.int .i64 t340) := (blk_cell BK344.out 2).trans rfl; have hcz20_3 : w19.cell? ⟨gb344, 3, none⟩ = some (.int .i64 t341) := (blk_cell BK344.out 3).trans rfl; have hcz20_4 : w19.cell? ⟨gb344, 4, none⟩ = some (.int .i64 t342) := (blk_cell BK344.out 4).trans rfl; have hfz20_0 := blk_frozen BK344.out 0; have hfz20_1 := blk_frozen BK344.out 1; have hfz20_2 := blk_frozen BK344.out 2; have hfz20_3 := blk_frozen BK344.out 3; have hfz20_4 := blk_frozen BK344.out 4) | ((with_reducible refine gate_callee (f := 38) rfl ?_); refine goesL_ (some 35) rfl rfl Tryd.func38 (by kernel_rfl) rfl #[.int .i64 12, .int .i64 t338, .slice A1 l1.length c1] rfl Mq ?_; (with_reducible refine (pke_read.calls k 12 t338 _ _ l1 t354 false _ ?side1 ?side2 A7.out).mono ?_); (case side1 => exact Cq (Kd.C_below HR1.out HB.out)); (case side2 => exact HC1.out); rintro e w21 ⟨v356, rfl, ho0, hb⟩; refine ⟨_, rfl, ?_⟩; have HO357 := Aside0.mk (Kd.S_lower ho0 (below_size Bq)); replace BK344 := Aside0.mk (blk_below (g := gb344) (o := .cells #[.int .i64 t338, .int .i64 t339, .int .i64 t340, .int .i64 t341, .int .i64 t342] 34 (0, 0)) (Kq BK344) hb); replace HB := Aside0.mk (below_step Bq hb); clear hb ho0; (try clear A7)) | ((with_reducible refine gate_callee (f := 26) rfl ?_); refine goesL_ (some 40) rfl rfl Tryd.func26 (by kernel_rfl) rfl #[.int .i64 4] rfl Mq ?_; (with_reducible refine (pke_fault.calls 4 t358 _ A15.out).mono ?_); rintro e w22 ⟨v359, rfl, ho0, hb⟩; refine ⟨_, rfl, ?_⟩; replace HO357 := Aside0.mk (Kd.S_below (Wq HO357) hb); have HO360 := Aside0.mk (Kd.R_lower ho0 (below_size Bq)); replace BK344 := Aside0.mk (blk_below (g := gb344) (o := .cells #[.int .i64 t338, .int .i64 t339, .int .i64 t340, .int .i64 t341, .int .i64 t342] 34 (0, 0)) (Kq BK344) hb); replace HB := Aside0.mk (below_step Bq hb); clear hb ho0; (try clear A15)))
    go_ret
    exact ⟨_, by first | rfl | (simp [errW_none, errW_some] <;> rfl) | (simp [*, errW_none, errW_some] <;> rfl), Wq HO360, Bq⟩
  ·rw [if_neg c6] at H
   have c6b0 : ((l1.length : Int) == t348) = false := beq_eq_false_iff_ne.mpr c6
   have c6b1 : ((l1.length : Int) != t348) = true := bne_iff_ne.mpr c6
   replace H := Option.bind_eq_some_iff.mp H
   obtain ⟨t351, A230, H⟩ := H
   try dsimp only at H
   have A23 := Aside0.mk A230
   clear A230
   obtain rfl := Option.some.inj H
   go_enter Tryd.func19, Tryd.ntmps19
   go_wp2_with (first | ((with_reducible refine gate_callee (f := 13) rfl ?_); refine goesL_ (some 14) rfl rfl Tryd.func13 (by kernel_rfl) rfl #[.int .i64 a0] rfl Mq ?_; (with_reducible refine (pke_Of.calls a0 t338 t339 t340 t341 t342 true _ A3.out).mono ?_); rintro e w24 ⟨rfl, hb⟩; refine ⟨_, rfl, ?_⟩; replace HB := Aside0.mk (below_step Bq hb); clear hb; (try clear A3)) | ((with_reducible refine gate_dst (N := 5) rfl ?_); refine box_event ?hg (N := 5) ?hd (cs := #[.int .i64 0, .int .i64 0, .int .i64 0, .int .i64 0, .int .i64 0]) (t := 34) ?hr ?_; (case hd => rfl); (case hg => rfl); (case hr => first | (go_simp; done) | (go_simp; rfl)); intro gb344 hg w25 hbox hb; have BK344 := Aside0.mk (hbox); have GW344 := Aside0.mk ((by rw [hg]; exact (below_size Bq) : w.heap.size ≤ gb344)); have GE344 := Aside0.mk ((by rw [hg]; exact (below_size Bq) : w.heap.size ≤ gb344)); replace HB := Aside0.mk (below_step Bq hb); clear hb hbox hg; have hcz26_0 : w25.cell? ⟨gb344, 0, none⟩ = some (.int .i64 0) := (blk_cell BK344.out 0).trans rfl; have hcz26_1 : w25.cell? ⟨gb344, 1, none⟩ = some (.int .i64 0) := (blk_cell BK344.out 1).trans rfl; have hcz26_2 : w25.cell? ⟨gb344, 2, none⟩ = some (.int .i64 0) := (blk_cell BK344.out 2).trans rfl; have hcz26_3 : w25.cell? ⟨gb344, 3, none⟩ = some (.int .i64 0) := (blk_cell BK344.out 3).trans rfl; have hcz26_4 : w25.cell? ⟨gb344, 4, none⟩ = some (.int .i64 0) := (blk_cell BK344.out 4).trans rfl; have hfz26_0 := blk_frozen BK344.out 0; have hfz26_1 := blk_frozen BK344.out 1; have hfz26_2 := blk_frozen BK344.out 2; have hfz26_3 := blk_frozen BK344.out 3; have hfz26_4 := blk_frozen BK344.out 4) | ((with_reducible refine gate_callee (f := 14) rfl ?_); refine goesL_ (some 22) rfl rfl Tryd.func14 (by kernel_rfl) rfl #[.int .i64 a0] rfl Mq ?_; (with_reducible refine (pke_Sizes.calls a0 t348 t349 t350 _ A5.out).mono ?_); rintro e w27 ⟨rfl, hb⟩; refine ⟨_, rfl, ?_⟩; replace BK344 := Aside0.mk (blk_below (g := gb344) (o := .cells #[.int .i64 t338, .int .i64 t339, .int .i64 t340, .int .i64 t341, .int .i64 t342] 34 (0, 0)) (by (with_reducible repeat (first | refine blk_drewN ?_ _ | refine blk_drew ?_ | refine blk_alloc ?_ _)); refine blk_put (cs := #[.int .i64 t338, .int .i64 t339, .int .i64 t340, .int .i64 t341, .int .i64 0]) ?_ 4 _ rfl; (with_reducible repeat (first | refine blk_drewN ?_ _ | refine blk_drew ?_ | refine blk_alloc ?_ _)); refine blk_put (cs := #[.int .i64 t338, .int .i64 t339, .int .i64 t340, .int .i64 0, .int .i64 0]) ?_ 3 _ rfl; (with_reducible repeat (first | refine blk_drewN ?_ _ | refine blk_drew ?_ | refine blk_alloc ?_ _)); refine blk_put (cs := #[.int .i64 t338, .int .i64 t339, .int .i64 0, .int .i64 0, .int .i64 0]) ?_ 2 _ rfl; (with_reducible repeat (first | refine blk_drewN ?_ _ | refine blk_drew ?_ | refine blk_alloc ?_ _)); refine blk_put (cs := #[.int .i64 t338, .int .i64 0, .int .i64 0, .int .i64 0, .int .i64 0]) ?_ 1 _ rfl; (with_reducible repeat (first | refine blk_drewN ?_ _ | refine blk_drew ?_ | refine blk_alloc ?_ _)); refine blk_put (cs := #[.int .i64 0, .int .i64 0, .int .i64 0, .int .i64 0, .int .i64 0]) ?_ 0 _ rfl; (with_reducible repeat (first | refine blk_drewN ?_ _ | refine blk_drew ?_ | refine blk_alloc ?_ _)); exact BK344.out) hb); replace HB := Aside0.mk (below_step Bq hb); clear hb; (try clear A5)) | ((with_reducible refine gate_callee (f := 26) rfl ?_); refine goesL_ (some 30) rfl rfl Tryd.func26 (by kernel_rfl) rfl #[.int .i64 3] rfl Mq ?_; (with_reducible refine (pke_fault.calls 3 t351 _ A23.out).mono ?_); rintro e w28 ⟨v352, rfl, ho0, hb⟩; refine ⟨_, rfl, ?_⟩; have HO353 := Aside0.mk (Kd.R_lower ho0 (below_size Bq)); replace BK344 := Aside0.mk (blk_below (g := gb344) (o := .cells #[.int .i64 t338, .int .i64 t339, .int .i64 t340, .int .i64 t341, .int .i64 t342] 34 (0, 0)) (Kq BK344) hb); replace HB := Aside0.mk (below_step Bq hb); clear hb ho0; (try clear A23)))
   go_ret
   exact ⟨_, by first | rfl | (simp [errW_none, errW_some] <;> rfl) | (simp [*, errW_none, errW_some] <;> rfl), Wq HO353, Bq⟩
 ·replace c4 := Bool.eq_false_iff.mpr c4
  subst c4
  rw [if_neg nf] at H
  replace H := Option.bind_eq_some_iff.mp H
  obtain ⟨t345, A290, H⟩ := H
  try dsimp only at H
  have A29 := Aside0.mk A290
  clear A290
  obtain rfl := Option.some.inj H
  go_enter Tryd.func19, Tryd.ntmps19
  go_wp2_with (first | ((with_reducible refine gate_callee (f := 13) rfl ?_); refine goesL_ (some 14) rfl rfl Tryd.func13 (by kernel_rfl) rfl #[.int .i64 a0] rfl Mq ?_; (with_reducible refine (pke_Of.calls a0 t338 t339 t340 t341 t342 false _ A3.out).mono ?_); rintro e w30 ⟨rfl, hb⟩; refine ⟨_, rfl, ?_⟩; replace HB := Aside0.mk (below_step Bq hb); clear hb; (try clear A3)) | ((with_reducible refine gate_dst (N := 5) rfl ?_); refine box_event ?hg (N := 5) ?hd (cs := #[.int .i64 0, .int .i64 0, .int .i64 0, .int .i64 0, .int .i64 0]) (t := 34) ?hr ?_; (case hd => rfl); (case hg => rfl); (case hr => first | (go_simp; done) | (go_simp; rfl)); intro gb344 hg w31 hbox hb; have BK344 := Aside0.mk (hbox); have GW344 := Aside0.mk ((by rw [hg]; exact (below_size Bq) : w.heap.size ≤ gb344)); have GE344 := Aside0.mk ((by rw [hg]; exact (below_size Bq) : w.heap.size ≤ gb344)); replace HB := Aside0.mk (below_step Bq hb); clear hb hbox hg; have hcz32_0 : w31.cell? ⟨gb344, 0, none⟩ = some (.int .i64 0) := (blk_cell BK344.out 0).trans rfl; have hcz32_1 : w31.cell? ⟨gb344, 1, none⟩ = some (.int .i64 0) := (blk_cell BK344.out 1).trans rfl; have hcz32_2 : w31.cell? ⟨gb344, 2, none⟩ = some (.int .i64 0) := (blk_cell BK344.out 2).trans rfl; have hcz32_3 : w31.cell? ⟨gb344, 3, none⟩ = some (.int .i64 0) := (blk_cell BK344.out 3).trans rfl; have hcz32_4 : w31.cell? ⟨gb344, 4, none⟩ = some (.int .i64 0) := (blk_cell BK344.out 4).trans rfl; have hfz32_0 := blk_frozen BK344.out 0; have hfz32_1 := blk_frozen BK344.out 1; have hfz32_2 := blk_frozen BK344.out 2; have hfz32_3 := blk_frozen BK344.out 3; have hfz32_4 := blk_frozen BK344.out 4) | ((with_reducible refine gate_callee (f := 26) rfl ?_); refine goesL_ (some 19) rfl rfl Tryd.func26 (by kernel_rfl) rfl #[.int .i64 2] rfl Mq ?_; (with_reducible refine (pke_fault.calls 2 t345 _ A29.out).mono ?_); rintro e w33 ⟨v346, rfl, ho0, hb⟩; refine ⟨_, rfl, ?_⟩; have HO347 := Aside0.mk (Kd.R_lower ho0 (below_size Bq)); replace BK344 := Aside0.mk (blk_below (g := gb344) (o := .cells #[.int .i64 t338, .int .i64 t339, .int .i64 t340, .int .i64 t341, .int .i64 t342] 34 (0, 0)) (by (with_reducible repeat (first | refine blk_drewN ?_ _ | refine blk_drew ?_ | refine blk_alloc ?_ _)); refine blk_put (cs := #[.int .i64 t338, .int .i64 t339, .int .i64 t340, .int .i64 t341, .int .i64 0]) ?_ 4 _ rfl; (with_reducible repeat (first | refine blk_drewN ?_ _ | refine blk_drew ?_ | refine blk_alloc ?_ _)); refine blk_put (cs := #[.int .i64 t338, .int .i64 t339, .int .i64 t340, .int .i64 0, .int .i64 0]) ?_ 3 _ rfl; (with_reducible repeat (first | refine blk_drewN ?_ _ | refine blk_drew ?_ | refine blk_alloc ?_ _)); refine blk_put (cs := #[.int .i64 t338, .int .i64 t339, .int .i64 0, .int .i64 0, .int .i64 0]) ?_ 2 _ rfl; (with_reducible repeat (first | refine blk_drewN ?_ _ | refine blk_drew ?_ | refine blk_alloc ?_ _)); refine blk_put (cs := #[.int .i64 t338, .int .i64 0, .int .i64 0, .int .i64 0, .int .i64 0]) ?_ 1 _ rfl; (with_reducible repeat (first | refine blk_drewN ?_ _ | refine blk_drew ?_ | refine blk_alloc ?_ _)); refine blk_put (cs := #[.int .i64 0, .int .i64 0, .int .i64 0, .int .i64 0, .int .i64 0]) ?_ 0 _ rfl; (with_reducible repeat (first | refine blk_drewN ?_ _ | refine blk_drew ?_ | refine blk_alloc ?_ _)); exact BK344.out) hb); replace HB := Aside0.mk (below_step Bq hb); clear hb ho0; (try clear A29)))
  go_ret
  exact ⟨_, by first | rfl | (simp [errW_none, errW_some] <;> rfl) | (simp [*, errW_none, errW_some] <;> rfl), Wq HO347, Bq⟩

/-! ### ring_Squash: function 71 -/
def ring_Squash.f (a0 : Int) (a1 : Int) : Option (Int) := if a0 < 1 then (some 0) else (if a0 > 11 then (some 0) else ((ring_Of.f a1).bind fun t361 => (if 0 ≤ (wrap64 (a0 + 1)) then (if 0 ≤ a0 then (some (Go.bits .and .i64 (wrap64 (Int.tdiv (wrap64 ((shl .i64 t361 (wrap64 (a0 + 1))) + 3329)) 6658)) (wrap64 ((shl .i64 1 a0) - 1)))) else (none)) else (none))))
set_option maxHeartbeats 8000000 in
set_option maxRecDepth 100000 in
theorem ring_Squash.calls (a0 : Int) (a1 : Int) (r : Int) (w : World) (h : ring_Squash.f a0 a1 = some r) :
  Calls Tryd.prog 71 #[.int .i64 a0, .int .i64 a1] w fun e w' => e = .returned (.int .i64 r) ∧ Drawn0 w w' := by
 have H := h
 unfold ring_Squash.f at H
 clear h
 by_cases c3 : a0 < 1
 ·rw [if_pos c3] at H
  have c3b0 : decide (a0 < 1) = true := decide_eq_true c3
  clear c3
  obtain rfl := Option.some.inj H
  go_enter Tryd.func71, Tryd.ntmps71
  go_wp2
  repeat (go_quiet (fail); try go_wp2)
  go_ret
  exact ⟨by first | rfl | (simp; done) | (simp [*]; done), by repeat (first | exact Drawn0.refl _ | apply Drawn0.step)⟩
 ·rw [if_neg c3] at H
  have c3b0 : decide (a0 < 1) = false := decide_eq_false c3
  clear c3
  by_cases c4 : a0 > 11
  ·rw [if_pos c4] at H
   have c4b0 : decide (11 < a0) = true := decide_eq_true c4
   clear c4
   obtain rfl := Option.some.inj H
   go_enter Tryd.func71, Tryd.ntmps71
   go_wp2
   repeat (go_quiet (fail); try go_wp2)
   go_ret
   exact ⟨by first | rfl | (simp; done) | (simp [*]; done), by repeat (first | exact Drawn0.refl _ | apply Drawn0.step)⟩
  ·rw [if_neg c4] at H
   have c4b0 : decide (11 < a0) = false := decide_eq_false c4
   clear c4
   replace H := Option.bind_eq_some_iff.mp H
   obtain ⟨t361, A50, H⟩ := H
   try dsimp only at H
   have A5 := Aside0.mk A50
   clear A50
   obtain ⟨ji6, hji6⟩ : ∃ j_ : Int, (wrap64 (a0 + 1)) = j_ := ⟨_, rfl⟩
   replace H : (if 0 ≤ (ji6) then (if 0 ≤ a0 then (some (Go.bits .and .i64 (wrap64 (Int.tdiv (wrap64 ((shl .i64 t361 (ji6)) + 3329)) 6658)) (wrap64 ((shl .i64 1 a0) - 1)))) else (none)) else (none)) = some r := by first | (rw [hji6] at H; exact H) | (simp only [hji6] at H ⊢; exact H)
   (try rw [hji6] at A5)
   have hji6w : (IntKind.i64.wrap (a0 + 1)) = ji6 := (i64_w _).trans hji6
   by_cases c7 : 0 ≤ (ji6)
   ·rw [if_pos c7] at H
    have c7b0 := eq_true c7
    have c7b1 : decide (0 ≤ (ji6)) = true := decide_eq_true c7
    clear c7
    obtain ⟨ji8, hji8⟩ : ∃ j_ : Int, (shl .i64 t361 (ji6)) = j_ := ⟨_, rfl⟩
    replace H : (if 0 ≤ a0 then (some (Go.bits .and .i64 (wrap64 (Int.tdiv (wrap64 ((ji8) + 3329)) 6658)) (wrap64 ((shl .i64 1 a0) - 1)))) else (none)) = some r := by first | (rw [hji8] at H; exact H) | (simp only [hji8] at H ⊢; exact H)
    (try rw [hji8] at A5)
    have hji8_ : (IntKind.i64.wrap (t361 * 2 ^ min (ji6).toNat 64)) = ji8 := hji8
    have hji8z : (ji6) ≤ 64 → (IntKind.i64.wrap (t361 * 2 ^ (ji6).toNat)) = ji8 := shl_small hji8
    have hji8y : (wrap64 (t361 * 2 ^ min (ji6).toNat 64)) = ji8 := (i64_w _).symm.trans hji8_
    have hji8x : (ji6) ≤ 64 → (wrap64 (t361 * 2 ^ (ji6).toNat)) = ji8 := fun h_ => (i64_w _).symm.trans (hji8z h_)
    by_cases c9 : 0 ≤ a0
    ·rw [if_pos c9] at H
     have c9b0 := eq_true c9
     have c9b1 : decide (0 ≤ a0) = true := decide_eq_true c9
     clear c9
     obtain ⟨ji10, hji10⟩ : ∃ j_ : Int, (shl .i64 1 a0) = j_ := ⟨_, rfl⟩
     replace H : (some (Go.bits .and .i64 (wrap64 (Int.tdiv (wrap64 ((ji8) + 3329)) 6658)) (wrap64 ((ji10) - 1)))) = some r := by first | (rw [hji10] at H; exact H) | (simp only [hji10] at H ⊢; exact H)
     (try rw [hji10] at A5)
     have hji10_ : (IntKind.i64.wrap (1 * 2 ^ min a0.toNat 64)) = ji10 := hji10
     have hji10z : a0 ≤ 64 → (IntKind.i64.wrap (1 * 2 ^ a0.toNat)) = ji10 := shl_small hji10
     have hji10u : (IntKind.i64.wrap (2 ^ min a0.toNat 64)) = ji10 := by have h_ := hji10_; rw [Int.one_mul] at h_; exact h_
     have hji10v : a0 ≤ 64 → (IntKind.i64.wrap (2 ^ a0.toNat)) = ji10 := fun hle_ => by have h_ := hji10z hle_; rw [Int.one_mul] at h_; exact h_
     have hji10y : (wrap64 (1 * 2 ^ min a0.toNat 64)) = ji10 := (i64_w _).symm.trans hji10_
     have hji10x : a0 ≤ 64 → (wrap64 (1 * 2 ^ a0.toNat)) = ji10 := fun h_ => (i64_w _).symm.trans (hji10z h_)
     obtain rfl := Option.some.inj H
     go_enter Tryd.func71, Tryd.ntmps71
     go_wp2_with (first | (go_at_call 70; (with_reducible refine (ring_Of.calls a1 t361 _ A5.out).mono ?_); rintro e w' ⟨rfl, ⟨nd, rfl⟩⟩; (try first | exact ⟨rfl, _, World.drewN_drewN _ _ _⟩ | exact ⟨rfl, _, Eq.trans (World.drewN_drewN _ _ _) (congrArg (World.drewN _) (Nat.add_assoc _ _ _))⟩)))
     repeat (go_quiet (first | (go_at_call 70; (with_reducible refine (ring_Of.calls a1 t361 _ A5.out).mono ?_); rintro e w' ⟨rfl, ⟨nd, rfl⟩⟩; (try first | exact ⟨rfl, _, World.drewN_drewN _ _ _⟩ | exact ⟨rfl, _, Eq.trans (World.drewN_drewN _ _ _) (congrArg (World.drewN _) (Nat.add_assoc _ _ _))⟩))); try go_wp2_with (first | (go_at_call 70; (with_reducible refine (ring_Of.calls a1 t361 _ A5.out).mono ?_); rintro e w' ⟨rfl, ⟨nd, rfl⟩⟩; (try first | exact ⟨rfl, _, World.drewN_drewN _ _ _⟩ | exact ⟨rfl, _, Eq.trans (World.drewN_drewN _ _ _) (congrArg (World.drewN _) (Nat.add_assoc _ _ _))⟩))))
     go_ret
     exact ⟨by first | rfl | (simp; done) | (simp only [← hji6, ← hji8, ← hji10] <;> (first | rfl | simp)) | (simp [*]; done), by repeat (first | exact Drawn0.refl _ | apply Drawn0.step)⟩
    ·rw [if_neg c9] at H
     exact absurd H (by simp)
   ·rw [if_neg c7] at H
    exact absurd H (by simp)

end Go.Proofs.YtkdfcgihgndnnaaDoor.PPA
end
section
namespace Go.Proofs.YtkdfcgihgndnnaaDoor.PPA
open Go.RowKit Go.Proofs.YtkdfcgihgndnnaaDoorW.PrintWords Go.Proofs.YtkdfcgihgndnnaaDoorW.PrintLast Go.Proofs.YtkdfcgihgndnnaaDoorW.PrintMore Go.Proofs.YtkdfcgihgndnnaaDoorW.PrintZip
attribute [local go_sem] max2_int min2_int max_two min_two max_three min_three max_four min_four   -- for this text's walks alone
set_option linter.unusedVariables false
set_option linter.unusedSimpArgs false

/-! ### pke_squash: function 51 -/
def pke_squash.l0 : Nat → Int → List Int → List Int → Int → Int → Option (List Int)
 | 0, _, _, _, _, _ => none
 | k + 1, x0, x5, x8, x9, x10 => if x10 < x9 then (if 0 ≤ x10 then (if x10 < (x8.length : Int) then ((ring_Squash.f x0 (rd x8 x10)).bind fun t363 => (if x5.length < 17592186044416 then (pke_squash.l0 k x0 (x5 ++ [t363]) x8 x9 (wrap64 (x10 + 1))) else (none))) else (none)) else (none)) else ((bits_Pack.f k x0 x5).bind fun t367 => (some t367))
def pke_squash.f (k : Nat) (a0 : Int) (l1 : List Int) : Option (List Int) := pke_squash.l0 k a0 ([] : List Int) l1 (l1.length : Int) 0
set_option maxHeartbeats 8000000 in
set_option maxRecDepth 100000 in
theorem pke_squash.calls (k : Nat) (a0 : Int) (A1 : Option Addr) (c1 : Nat) (l1 : List Int) (r : List Int) (w : World) (hr1 : Kd.C (Kd.int .i64) w A1 l1.length l1) (hc1 : l1.length ≤ c1) (h : pke_squash.f k a0 l1 = some r) :
  Calls Tryd.prog 51 #[.int .i64 a0, .slice A1 l1.length c1] w fun e w' => ∃ v0_ : Value, e = .returned (v0_) ∧ Kd.R (Kd.int .u8) 5 w' w.heap.size (fun _ => True) v0_ r ∧ Below w.heap.size w w' := by
 have HR1 := Aside0.mk hr1
 have HC1 := Aside0.mk hc1
 clear hr1 hc1
 have HB := Aside0.mk (Below.refl w.heap.size w)
 have H := h
 unfold pke_squash.f at H
 clear h
 have H' := Aside0.mk H
 clear H
 go_enter Tryd.func51, Tryd.ntmps51
 go_wp2
 go_loopg [5, 10] k (fun kq v5 v10 w' => ∃ (x5_1 : List Int) (x10_1 : Int), v10 = .int .i64 x10_1 ∧ Aside0 (pke_squash.l0 kq a0 x5_1 l1 (l1.length : Int) x10_1 = some r) ∧ Aside0 (kq ≤ k) ∧ Aside0 (Kd.R (Kd.int .i64) 3 w' w.heap.size (fun _ => True) v5 x5_1) ∧ Aside0 (Below w.heap.size w w'))
 case atStart => exact ⟨(([] : List Int)), (0), Rq, H', ⟨Nat.le_refl _⟩, ⟨by first | exact Kd.R_nil _ _ _ _ _ | exact Kd.N_nil _ _ _ _ _ | exact Kd.V_nil _ _ _ _ _ | exact Kd.Q_nil _ _ _ _ _ | exact Kd.S_nil _ _ _ _ _⟩, ⟨Bq⟩⟩
 case round =>
  clear H'
  try clear c1
  try clear p2
  obtain ⟨x5_1, x10_1, rfl, HA, HK1, HO_5, HB⟩ := hrel
  cases gk with
  | zero => exact absurd HA.out (by simp [pke_squash.l0])
  | succ k1 =>
   have H := HA.out
   clear HA
   simp only [pke_squash.l0] at H
   by_cases c3 : x10_1 < (l1.length : Int)
   ·rw [if_pos c3] at H
    have c3b0 : decide (x10_1 < (l1.length : Int)) = true := decide_eq_true c3
    clear c3
    by_cases c4 : 0 ≤ x10_1
    ·rw [if_pos c4] at H
     have c4b0 : decide (0 ≤ x10_1) = true := decide_eq_true c4
     clear c4
     by_cases c5 : x10_1 < (l1.length : Int)
     ·rw [if_pos c5] at H
      have c5b0 : decide (x10_1 < (l1.length : Int)) = true := decide_eq_true c5
      clear c5
      replace H := Option.bind_eq_some_iff.mp H
      obtain ⟨t363, A60, H⟩ := H
      try dsimp only at H
      have A6 := Aside0.mk A60
      clear A60
      by_cases c7 : x5_1.length < 17592186044416
      ·rw [if_pos c7] at H
       have LMc7 := Aside0.mk c7
       clear c7
       obtain ⟨y364, Ny364⟩ : ∃ y_ : List Int, Aside0 (y_ = (x5_1 ++ [t363])) := ⟨_, ⟨rfl⟩⟩
       first | rw [Option.bind_some, ← Ny364.out] at H | rw [← Ny364.out] at H
       have H' := Aside0.mk H
       clear H
       have p362 : 0 ≤ (x10_1 : Int) := of_decide_eq_true Aq
       have q362 : x10_1 < (l1.length : Int) := of_decide_eq_true Aq
       obtain ⟨ad362, e362, hx362_0⟩ := Kd.at_int HR1.out x10_1 p362 q362
       cases e362
       replace hx362_0 := (HB.out.cell (World.block_lt_of_cell? w _ hx362_0)).trans hx362_0
       replace p362 := eq_true p362
       replace q362 := eq_true q362
       go_wp2_with (first | ((with_reducible refine gate_callee (f := 71) rfl ?_); refine goesL_ (some 17) rfl rfl Tryd.func71 (by kernel_rfl) rfl #[.int .i64 a0, .int .i64 (rd l1 x10_1)] rfl Mq ?_; (with_reducible refine (ring_Squash.calls a0 (rd l1 x10_1) t363 _ A6.out).mono ?_); rintro e w' ⟨rfl, ⟨nd, rfl⟩⟩; refine ⟨_, rfl, ?_⟩) | ((with_reducible refine gate_builtin (b := .append) (xs := #[.tmp 14, .tmp 18]) rfl ?_); at_builtin; refine Kd.R_append (Kd.int .i64) (w0 := w) w.heap.size rfl (.tmp 14) (.tmp 18) 40 3 (.int .i64 0) 8 rfl Tryd.underlying40 info3 rfl (by decide) (by omega) u5 x5_1 t363 [.int .i64 t363] (fun _ => True) (fun _ => False) rfl rfl ?aP (fun _ hk => hk.elim) ?aF ?aO ?aB ?aS ?aL ?_; (case aP => exact rfl); (case aB => exact Bq); (case aF => exact (fun _ _ => trivial)); (case aO => exact (Wq HO_5)); (case aS => exact (below_size Bq)); (case aL => have := LMc7.out; omega); intro v365 w8 ho hb hg hat; rw [← Ny364.out] at ho; replace HB := Aside0.mk (hb); have HO366 := Aside0.mk (ho); clear HO_5; clear ho hb hg hat))
       go_roundg k1
       case measure => have := HK1.out; omega
       case rel => exact ⟨(y364), (wrap64 (x10_1 + 1)), Rq, H', ⟨by have := HK1.out; omega⟩, ⟨Wq HO366⟩, ⟨Bq⟩⟩
      ·rw [if_neg c7] at H
       exact absurd H (by simp)
     ·rw [if_neg c5] at H
      exact absurd H (by simp)
    ·rw [if_neg c4] at H
     exact absurd H (by simp)
   ·rw [if_neg c3] at H
    have c3b0 : decide (x10_1 < (l1.length : Int)) = false := decide_eq_false c3
    clear c3
    replace H := Option.bind_eq_some_iff.mp H
    obtain ⟨t367, A90, H⟩ := H
    try dsimp only at H
    have A9 := Aside0.mk A90
    clear A90
    obtain rfl := Option.some.inj H
    obtain ⟨Ao10, co10, eo10⟩ := Kd.R_slice HO_5.out
    subst eo10
    go_wp2_with (first | ((with_reducible refine gate_callee (f := 18) rfl ?_); refine goesL_ (some 23) rfl rfl Tryd.func18 (by kernel_rfl) rfl #[.int .i64 a0, .slice Ao10 x5_1.length co10] rfl Mq ?_; (with_reducible refine (bits_Pack.calls k1 a0 _ _ x5_1 t367 _ ?side1 ?side2 A9.out).mono ?_); (case side1 => repeat (first | exact (Kd.R_reads' HO_5.out).2.2 | (with_reducible refine Kd.C_alloc ?_ _) | (with_reducible refine Kd.C_drewN ?_ _) | (with_reducible refine Kd.C_drew ?_))); (case side2 => exact (Kd.R_reads' HO_5.out).2.1); rintro e w11 ⟨v368, rfl, ho0, hb⟩; refine ⟨_, rfl, ?_⟩; replace HO_5 := Aside0.mk (Kd.R_below (Wq HO_5) hb); have HO369 := Aside0.mk (Kd.R_lower ho0 (below_size Bq)); replace HB := Aside0.mk (below_step Bq hb); clear hb ho0; (try clear A9)))
    go_ret
    exact ⟨_, by first | rfl | (simp [errW_none, errW_some] <;> rfl) | (simp [*, errW_none, errW_some] <;> rfl), Wq HO369, Bq⟩

end Go.Proofs.YtkdfcgihgndnnaaDoor.PPA
end
section
namespace Go.Proofs.YtkdfcgihgndnnaaDoor.PPA
open Go.RowKit Go.Proofs.YtkdfcgihgndnnaaDoorW.PrintWords Go.Proofs.YtkdfcgihgndnnaaDoorW.PrintLast Go.Proofs.YtkdfcgihgndnnaaDoorW.PrintMore Go.Proofs.YtkdfcgihgndnnaaDoorW.PrintZip
attribute [local go_sem] max2_int min2_int max_two min_two max_three min_three max_four min_four   -- for this text's walks alone
set_option linter.unusedVariables false
set_option linter.unusedSimpArgs false

/-! ### poly_Back: function 52 -/
mutual
def poly_Back.l0 : Nat → List Int → Int → Int → Option (List Int)
 | 0, _, _, _ => none
 | k + 1, x0, x3, x4 => if x4 ≤ 128 then (poly_Back.l1 k x0 x3 x4 0) else (poly_Back.l3 k x0 (x0.length : Int) 0)
def poly_Back.l1 : Nat → List Int → Int → Int → Int → Option (List Int)
 | 0, _, _, _, _ => none
 | k + 1, x0, x3, x4, x5 => if x5 < 256 then ((ring_Root.f k x3).bind fun t374 => (poly_Back.l2 k x0 (wrap64 (x3 - 1)) x4 x5 t374 x5)) else (poly_Back.l0 k x0 x3 (wrap64 (x4 * 2)))
def poly_Back.l2 : Nat → List Int → Int → Int → Int → Int → Int → Option (List Int)
 | 0, _, _, _, _, _, _ => none
 | k + 1, x0, x3, x4, x5, x6, x7 => if x7 < (wrap64 (x5 + x4)) then (if 0 ≤ x7 then (if x7 < (x0.length : Int) then (if 0 ≤ (wrap64 (x7 + x4)) then (if (wrap64 (x7 + x4)) < (x0.length : Int) then ((some (x0.set (x7 : Int).toNat (Int.tmod (wrap64 ((rd x0 x7) + (rd x0 (wrap64 (x7 + x4))))) 3329) : List Int)).bind fun y377 => (poly_Back.l2 k (y377.set ((wrap64 (x7 + x4)) : Int).toNat (Int.tmod (wrap64 (x6 * (wrap64 ((wrap64 ((rd y377 (wrap64 (x7 + x4))) + 3329)) - (rd x0 x7))))) 3329)) x3 x4 x5 x6 (wrap64 (x7 + 1)))) else (none)) else (none)) else (none)) else (none)) else (poly_Back.l1 k x0 x3 x4 (wrap64 (x5 + (wrap64 (2 * x4)))))
def poly_Back.l3 : Nat → List Int → Int → Int → Option (List Int)
 | 0, _, _, _ => none
 | k + 1, x0, x71, x72 => if x72 < x71 then (if 0 ≤ x72 then (if x72 < (x0.length : Int) then (poly_Back.l3 k (x0.set (x72 : Int).toNat (Int.tmod (wrap64 ((rd x0 x72) * 3303)) 3329)) x71 (wrap64 (x72 + 1))) else (none)) else (none)) else (some x0)
end
def poly_Back.f (k : Nat) (l0 : List Int) : Option (List Int) := (poly_May.f k l0).bind fun t370 => (if t370 = true then ((slices_Clone_int_int.f l0).bind fun t371 => (poly_Back.l0 k t371 127 2)) else (some ([] : List Int)))
set_option maxHeartbeats 8000000 in
set_option maxRecDepth 100000 in
theorem poly_Back.calls (k : Nat) (A0 : Option Addr) (c0 : Nat) (l0 : List Int) (r : List Int) (w : World) (hr0 : Kd.C (Kd.int .i64) w A0 l0.length l0) (hc0 : l0.length ≤ c0) (h : poly_Back.f k l0 = some r) :
  Calls Tryd.prog 52 #[.slice A0 l0.length c0] w fun e w' => ∃ v0_ : Value, e = .returned (v0_) ∧ Kd.R (Kd.int .i64) 3 w' w.heap.size (fun _ => True) v0_ r ∧ Below w.heap.size w w' := by
 have HR0 := Aside0.mk hr0
 have HC0 := Aside0.mk hc0
 clear hr0 hc0
 have HB := Aside0.mk (Below.refl w.heap.size w)
 have H := h
 unfold poly_Back.f at H
 clear h
 replace H := Option.bind_eq_some_iff.mp H
 obtain ⟨t370, A20, H⟩ := H
 try dsimp only at H
 have A2 := Aside0.mk A20
 clear A20
 by_cases c3 : t370 = true
 ·subst c3
  rw [if_pos rfl] at H
  replace H := Option.bind_eq_some_iff.mp H
  obtain ⟨t371, A40, H⟩ := H
  try dsimp only at H
  have A4 := Aside0.mk A40
  clear A40
  have H' := Aside0.mk H
  clear H
  go_enter Tryd.func52, Tryd.ntmps52
  go_wp2_with (first | ((with_reducible refine gate_callee (f := 17) rfl ?_); refine goesL_ (some 11) rfl rfl Tryd.func17 (by kernel_rfl) rfl #[.slice A0 l0.length c0] rfl Mq ?_; (with_reducible refine (poly_May.calls k _ _ l0 true _ ?side1 ?side2 A2.out).mono ?_); (case side1 => exact Cq (HR0.out)); (case side2 => exact HC0.out); rintro e w' ⟨rfl, ⟨nd, rfl⟩⟩; refine ⟨_, rfl, ?_⟩) | ((with_reducible refine gate_callee (f := 65) rfl ?_); refine goesL_ (some 14) rfl rfl Tryd.func65 (by kernel_rfl) rfl #[.slice A0 l0.length c0] rfl Mq ?_; (with_reducible refine (slices_Clone_int_int.calls _ _ l0 t371 _ ?side1 ?side2 A4.out).mono ?_); (case side1 => exact Cq (HR0.out)); (case side2 => exact HC0.out); rintro e w5 ⟨v372, rfl, ho0, hb⟩; refine ⟨_, rfl, ?_⟩; have HO373 := Aside0.mk (Kd.R_lower ho0 (below_size Bq)); replace HB := Aside0.mk (below_step Bq hb); clear hb ho0; (try clear A4)))
  go_loopg [3, 4] k (fun kq v3 v4 w' => ∃ (x0_1 : List Int) (x3_1 : Int) (x4_1 : Int), v3 = .int .i64 x3_1 ∧ v4 = .int .i64 x4_1 ∧ Aside0 (poly_Back.l0 kq x0_1 x3_1 x4_1 = some r) ∧ Aside0 (kq ≤ k) ∧ Aside0 (Kd.R (Kd.int .i64) 3 w' w.heap.size (fun _ => True) v372 x0_1) ∧ Aside0 (Below w.heap.size w w'))
  case atStart => exact ⟨(t371), (127), (2), Rq, Rq, H', ⟨Nat.le_refl _⟩, ⟨Wq HO373⟩, ⟨Bq⟩⟩
  case round =>
   clear H'
   try clear c1
   try clear p2
   try clear c3
   try clear c5
   obtain ⟨x0_1, x3_1, x4_1, rfl, rfl, HA, HK1, HO_0, HB⟩ := hrel
   cases gk with
   | zero => exact absurd HA.out (by simp [poly_Back.l0])
   | succ k1 =>
    have H := HA.out
    clear HA
    simp only [poly_Back.l0] at H
    by_cases c6 : x4_1 ≤ 128
    ·rw [if_pos c6] at H
     have c6b0 : decide (x4_1 ≤ 128) = true := decide_eq_true c6
     clear c6
     have H' := Aside0.mk H
     clear H
     go_wp2
     go_loopg [3, 5] k1 (fun kq v3 v5 w' => ∃ (x0_2 : List Int) (x3_2 : Int) (x5_2 : Int), v3 = .int .i64 x3_2 ∧ v5 = .int .i64 x5_2 ∧ Aside0 (poly_Back.l1 kq x0_2 x3_2 x4_1 x5_2 = some r) ∧ Aside0 (kq ≤ k1) ∧ Aside0 (Kd.R (Kd.int .i64) 3 w' w.heap.size (fun _ => True) v372 x0_2) ∧ Aside0 (Below w.heap.size w w'))
     case atStart => exact ⟨(x0_1), (x3_1), (0), Rq, Rq, H', ⟨Nat.le_refl _⟩, ⟨Wq HO_0⟩, ⟨Bq⟩⟩
     case round =>
      clear H'
      try clear c1
      try clear p2
      try clear c3
      try clear c5
      try clear c6
      try clear c6b0
      try clear p2
      obtain ⟨x0_2, x3_2, x5_2, rfl, rfl, HA, HK2, HO_0, HB⟩ := hrel
      cases gk with
      | zero => exact absurd HA.out (by simp [poly_Back.l1])
      | succ k2 =>
       have H := HA.out
       clear HA
       simp only [poly_Back.l1] at H
       by_cases c7 : x5_2 < 256
       ·rw [if_pos c7] at H
        have c7b0 : decide (x5_2 < 256) = true := decide_eq_true c7
        clear c7
        replace H := Option.bind_eq_some_iff.mp H
        obtain ⟨t374, A80, H⟩ := H
        try dsimp only at H
        have A8 := Aside0.mk A80
        clear A80
        have H' := Aside0.mk H
        clear H
        go_wp2_with (first | ((with_reducible refine gate_callee (f := 66) rfl ?_); refine goesL_ (some 26) rfl rfl Tryd.func66 (by kernel_rfl) rfl #[.int .i64 x3_2] rfl Mq ?_; (with_reducible refine (ring_Root.calls k2 x3_2 t374 _ A8.out).mono ?_); rintro e w' ⟨rfl, ⟨nd, rfl⟩⟩; refine ⟨_, rfl, ?_⟩))
        go_loopg [7] k2 (fun kq v7 w' => ∃ (x0_3 : List Int) (x7_3 : Int), v7 = .int .i64 x7_3 ∧ Aside0 (poly_Back.l2 kq x0_3 (wrap64 (x3_2 - 1)) x4_1 x5_2 t374 x7_3 = some r) ∧ Aside0 (kq ≤ k2) ∧ Aside0 (Kd.R (Kd.int .i64) 3 w' w.heap.size (fun _ => True) v372 x0_3) ∧ Aside0 (Below w.heap.size w w'))
        case atStart => exact ⟨(x0_2), (x5_2), Rq, H', ⟨Nat.le_refl _⟩, ⟨Wq HO_0⟩, ⟨Bq⟩⟩
        case round =>
         clear H'
         try clear c1
         try clear p2
         try clear c3
         try clear c5
         try clear c6
         try clear c6b0
         try clear p6
         try clear c7
         try clear c7b0
         try clear p2
         obtain ⟨x0_3, x7_3, rfl, HA, HK3, HO_0, HB⟩ := hrel
         cases gk with
         | zero => exact absurd HA.out (by simp [poly_Back.l2])
         | succ k3 =>
          have H := HA.out
          clear HA
          simp only [poly_Back.l2] at H
          by_cases c9 : x7_3 < (wrap64 (x5_2 + x4_1))
          ·rw [if_pos c9] at H
           have c9b0 : decide (x7_3 < (wrap64 (x5_2 + x4_1))) = true := decide_eq_true c9
           clear c9
           by_cases c10 : 0 ≤ x7_3
           ·rw [if_pos c10] at H
            have c10b0 : decide (0 ≤ x7_3) = true := decide_eq_true c10
            clear c10
            by_cases c11 : x7_3 < (x0_3.length : Int)
            ·rw [if_pos c11] at H
             have c11b0 : decide (x7_3 < (x0_3.length : Int)) = true := decide_eq_true c11
             clear c11
             obtain ⟨ji12, hji12⟩ : ∃ j_ : Int, (wrap64 (x7_3 + x4_1)) = j_ := ⟨_, rfl⟩
             replace H : (if 0 ≤ (ji12) then (if (ji12) < (x0_3.length : Int) then ((some (x0_3.set (x7_3 : Int).toNat (Int.tmod (wrap64 ((rd x0_3 x7_3) + (rd x0_3 (ji12)))) 3329) : List Int)).bind fun y377 => (poly_Back.l2 k3 (y377.set ((ji12) : Int).toNat (Int.tmod (wrap64 (t374 * (wrap64 ((wrap64 ((rd y377 (ji12)) + 3329)) - (rd x0_3 x7_3))))) 3329)) (wrap64 (x3_2 - 1)) x4_1 x5_2 t374 (wrap64 (x7_3 + 1)))) else (none)) else (none)) = some r := by first | (rw [hji12] at H; exact H) | (simp only [hji12] at H ⊢; exact H)
             have hji12w : (IntKind.i64.wrap (x7_3 + x4_1)) = ji12 := (i64_w _).trans hji12
             by_cases c13 : 0 ≤ (ji12)
             ·rw [if_pos c13] at H
              have c13b0 : decide (0 ≤ (ji12)) = true := decide_eq_true c13
              clear c13
              by_cases c14 : (ji12) < (x0_3.length : Int)
              ·rw [if_pos c14] at H
               have c14b0 : decide ((ji12) < (x0_3.length : Int)) = true := decide_eq_true c14
               clear c14
               obtain ⟨y377, Ny377⟩ : ∃ y_ : List Int, Aside0 (y_ = (x0_3.set (x7_3 : Int).toNat (Int.tmod (wrap64 ((rd x0_3 x7_3) + (rd x0_3 (ji12)))) 3329))) := ⟨_, ⟨rfl⟩⟩
               first | rw [Option.bind_some, ← Ny377.out] at H | rw [← Ny377.out] at H
               obtain ⟨y379, Ny379⟩ : ∃ y_ : List Int, Aside0 (y_ = (y377.set ((ji12) : Int).toNat (Int.tmod (wrap64 (t374 * (wrap64 ((wrap64 ((rd y377 (ji12)) + 3329)) - (rd x0_3 x7_3))))) 3329))) := ⟨_, ⟨rfl⟩⟩
               first | rw [Option.bind_some, ← Ny379.out] at H | rw [← Ny379.out] at H
               have H' := Aside0.mk H
               clear H
               obtain ⟨Ao17, co17, eo17⟩ := Kd.R_slice HO_0.out
               subst eo17
               have p375 : 0 ≤ (x7_3 : Int) := of_decide_eq_true Aq
               have q375 : x7_3 < (x0_3.length : Int) := of_decide_eq_true Aq
               obtain ⟨ad375, e375, hx375_0⟩ := Kd.at_int (Kd.R_reads' HO_0.out).2.2 x7_3 p375 q375
               cases e375
               replace p375 := eq_true p375
               replace q375 := eq_true q375
               have p376 : 0 ≤ ((ji12) : Int) := of_decide_eq_true Aq
               have q376 : (ji12) < (x0_3.length : Int) := of_decide_eq_true Aq
               obtain ⟨ad376, e376, hx376_0⟩ := Kd.at_int (Kd.R_reads' HO_0.out).2.2 (ji12) p376 q376
               obtain rfl : ad375 = ad376 := (by injection e376)
               replace p376 := eq_true p376
               replace q376 := eq_true q376
               have p15 : 0 ≤ (x7_3 : Int) := of_decide_eq_true Aq
               have q15 : (x7_3 : Int) < ((x0_3.length : Int) : Int) := of_decide_eq_true Aq
               obtain ⟨go15, co15, eo15, gb15, gl15, cl15, HG15⟩ := Kd.R_form HO_0.out (by omega)
               (first | cases eo15 | (injection eo15 with ea_ en_ ec_; (first | subst ea_ | (injection ea_ with ea_; subst ea_)); subst ec_; clear en_))
               have GB15 := Aside0.mk gb15
               have GG15 := Aside0.mk HG15
               clear gb15 gl15 HG15
               (first | simp only [add_plain] at hx375_0 | skip)
               (first | simp only [add_plain] at hx376_0 | skip)
               obtain ⟨hx15_0, hf15_0⟩ := Kd.R_celln 0 HO_0.out (x7_3 : Int) p15 q15
               replace p15 := eq_true p15
               replace q15 := eq_true q15
               have HP18 := Kd.R_putg HO_0.out (x7_3 : Int) (Int.tmod (wrap64 ((rd x0_3 x7_3) + (rd x0_3 (ji12)))) 3329)
               go_wp2_with (first | ((with_reducible refine gate_store (t := 3) (p := 52) rfl ?_); refine store_event (t := 3) (p := 52) (v := ?vo_w19) (w1 := (wr.setCell ⟨go15, (x7_3 : Int).toNat, none⟩ (.int .i64 (Int.tmod (wrap64 ((rd x0_3 x7_3) + (rd x0_3 (ji12)))) 3329)))) ?hg ?ho ?hn ?hr ?_; (case ho => rfl); (case hg => rfl); (case hn => rfl); (case hr => first | (go_simp; done) | (go_simp; rfl)); intro w19 hw; have hg : wr.grownBy w19 (some go15) := (by rw [hw]; exact HP18.2); have hp_ : Kd.R (Kd.int .i64) 3 w19 w.heap.size (fun _ => True) (.slice (some ⟨go15, 0, none⟩) x0_3.length co17) y377 := (by rw [hw, Ny377.out]; exact HP18.1); clear HP18; replace HO_0 := Aside0.mk (hp_); replace HB := Aside0.mk ((by rw [hw]; exact below_set (HB.out) GB15.out : Below w.heap.size w w19)); clear hg hw hp_; have p378 : 0 ≤ ((ji12) : Int) := of_decide_eq_true Aq; have q378 : (ji12) < (y377.length : Int) := (by have h_ : ((ji12) : Int) < ((x0_3.length : Int) : Int) := of_decide_eq_true Aq; first | (have e_ := (Kd.R_reads' HO_0.out).1; omega) | simpa only [Ny377.out, List.length_set] using h_); have ql378 : (((ji12) : Int) < ((x0_3.length : Int) : Int)) = True := eq_true (of_decide_eq_true Aq); obtain ⟨ad378, e378, hx378_0⟩ := Kd.at_int (Kd.R_reads' HO_0.out).2.2 (ji12) p378 q378; obtain rfl : (⟨go15, 0, none⟩ : Addr) = ad378 := (by injection e378); (first | simp only [add_plain] at hx378_0 | simp only [add_at] at hx378_0 | simp only [Addr.add, Nat.zero_add] at hx378_0 | skip); replace p378 := eq_true p378; replace q378 := eq_true q378; have p16 : 0 ≤ ((ji12) : Int) := of_decide_eq_true Aq; have q16 : ((ji12) : Int) < ((x0_3.length : Int) : Int) := of_decide_eq_true Aq; obtain ⟨hx16_0, hf16_0⟩ := Kd.R_celln 0 HO_0.out ((ji12) : Int) p16 q16; replace p16 := eq_true p16; replace q16 := eq_true q16; obtain ⟨hy20_, hz20_⟩ := Kd.R_celln 0 HO_0.out ((ji12) : Int) (of_decide_eq_true Aq) (of_decide_eq_true Aq); have HP20 := Kd.R_putg HO_0.out ((ji12) : Int) (Int.tmod (wrap64 (t374 * (wrap64 ((wrap64 ((rd y377 (ji12)) + 3329)) - (rd x0_3 x7_3))))) 3329)) | ((with_reducible refine gate_store (t := 3) (p := 69) rfl ?_); refine store_event (t := 3) (p := 69) (v := ?vo_w21) (w1 := (w19.setCell ⟨go15, ((ji12) : Int).toNat, none⟩ (.int .i64 (Int.tmod (wrap64 (t374 * (wrap64 ((wrap64 ((rd y377 (ji12)) + 3329)) - (rd x0_3 x7_3))))) 3329)))) ?hg ?ho ?hn ?hr ?_; (case ho => rfl); (case hg => rfl); (case hn => rfl); (case hr => first | (go_simp; done) | (go_simp; rfl)); intro w21 hw; have hg : w19.grownBy w21 (some go15) := (by rw [hw]; exact HP20.2); have hp_ : Kd.R (Kd.int .i64) 3 w21 w.heap.size (fun _ => True) (.slice (some ⟨go15, 0, none⟩) x0_3.length co17) y379 := (by rw [hw, Ny379.out]; exact HP20.1); clear HP20; replace HO_0 := Aside0.mk (hp_); replace HB := Aside0.mk ((by rw [hw]; exact below_set (HB.out) GB15.out : Below w.heap.size w w21)); clear hg hw hp_))
               go_roundg k3
               case measure => have := HK1.out; have := HK2.out; have := HK3.out; omega
               case rel => exact ⟨(y379), (wrap64 (x7_3 + 1)), Rq, H', ⟨by have := HK1.out; have := HK2.out; have := HK3.out; omega⟩, ⟨Wq HO_0⟩, ⟨Bq⟩⟩
              ·rw [if_neg c14] at H
               exact absurd H (by simp)
             ·rw [if_neg c13] at H
              exact absurd H (by simp)
            ·rw [if_neg c11] at H
             exact absurd H (by simp)
           ·rw [if_neg c10] at H
            exact absurd H (by simp)
          ·rw [if_neg c9] at H
           have c9b0 : decide (x7_3 < (wrap64 (x5_2 + x4_1))) = false := decide_eq_false c9
           clear c9
           have H' := Aside0.mk H
           clear H
           go_wp2
           go_roundg k3
           case measure => have := HK1.out; have := HK2.out; have := HK3.out; omega
           case rel => exact ⟨(x0_3), ((wrap64 (x3_2 - 1))), (wrap64 (x5_2 + (wrap64 (2 * x4_1)))), Rq, Rq, H', ⟨by have := HK1.out; have := HK2.out; have := HK3.out; omega⟩, ⟨Wq HO_0⟩, ⟨Bq⟩⟩
       ·rw [if_neg c7] at H
        have c7b0 : decide (x5_2 < 256) = false := decide_eq_false c7
        clear c7
        have H' := Aside0.mk H
        clear H
        go_wp2
        go_roundg k2
        case measure => have := HK1.out; have := HK2.out; omega
        case rel => exact ⟨(x0_2), (x3_2), (wrap64 (x4_1 * 2)), Rq, Rq, H', ⟨by have := HK1.out; have := HK2.out; omega⟩, ⟨Wq HO_0⟩, ⟨Bq⟩⟩
    ·rw [if_neg c6] at H
     have c6b0 : decide (x4_1 ≤ 128) = false := decide_eq_false c6
     clear c6
     have H' := Aside0.mk H
     clear H
     obtain ⟨Ao22, co22, eo22⟩ := Kd.R_slice HO_0.out
     subst eo22
     go_wp2
     go_loopg [72] k1 (fun kq v72 w' => ∃ (x0_2 : List Int) (x72_2 : Int), v72 = .int .i64 x72_2 ∧ Aside0 (poly_Back.l3 kq x0_2 (x0_1.length : Int) x72_2 = some r) ∧ Aside0 (kq ≤ k1) ∧ Aside0 (Kd.R (Kd.int .i64) 3 w' w.heap.size (fun _ => True) (.slice Ao22 x0_1.length co22) x0_2) ∧ Aside0 (Below w.heap.size w w'))
     case atStart => exact ⟨(x0_1), (0), Rq, H', ⟨Nat.le_refl _⟩, ⟨Wq HO_0⟩, ⟨Bq⟩⟩
     case round =>
      clear H'
      try clear c1
      try clear p1
      try clear q1
      try clear hx1
      try clear hf1
      try clear p2
      try clear c3
      try clear p3
      try clear q3
      try clear hx3
      try clear c5
      try clear c6
      try clear c6b0
      try clear p6
      try clear c7
      try clear c7b0
      try clear c9
      try clear c9b0
      try clear c10
      try clear c10b0
      try clear c11
      try clear c11b0
      try clear c13
      try clear c13b0
      try clear c14
      try clear c14b0
      try clear p15
      try clear q15
      try clear hx15
      try clear hf15
      try clear p16
      try clear q16
      try clear hx16
      try clear hf16
      try clear c17
      try clear hx15_0
      try clear hx16_0
      try clear hx375_0
      try clear hx376_0
      try clear hx378_0
      try clear p15
      try clear p16
      try clear p2
      try clear p375
      try clear p376
      try clear p378
      try clear p6
      try clear q15
      try clear q16
      try clear q375
      try clear q376
      try clear q378
      obtain ⟨x0_2, x72_2, rfl, HA, HK2, HO_0, HB⟩ := hrel
      have hl0_2 := (Kd.R_reads' HO_0.out).1
      rw [hl0_2] at HO_0
      (try simp only [hl0_2])
      cases gk with
      | zero => exact absurd HA.out (by simp [poly_Back.l3])
      | succ k2 =>
       have H := HA.out
       clear HA
       simp only [poly_Back.l3] at H
       by_cases c23 : x72_2 < (x0_1.length : Int)
       ·rw [if_pos c23] at H
        have c23b0 : decide (x72_2 < (x0_1.length : Int)) = true := decide_eq_true c23
        clear c23
        have c23l0 := c23b0
        (try simp only [hl0_2] at c23l0)
        by_cases c24 : 0 ≤ x72_2
        ·rw [if_pos c24] at H
         have c24b0 : decide (0 ≤ x72_2) = true := decide_eq_true c24
         clear c24
         by_cases c25 : x72_2 < (x0_2.length : Int)
         ·rw [if_pos c25] at H
          have c25b0 : decide (x72_2 < (x0_2.length : Int)) = true := decide_eq_true c25
          clear c25
          have c25l0 := c25b0
          (try simp only [hl0_2] at c25l0)
          obtain ⟨y381, Ny381⟩ : ∃ y_ : List Int, Aside0 (y_ = (x0_2.set (x72_2 : Int).toNat (Int.tmod (wrap64 ((rd x0_2 x72_2) * 3303)) 3329))) := ⟨_, ⟨rfl⟩⟩
          first | rw [Option.bind_some, ← Ny381.out] at H | rw [← Ny381.out] at H
          have H' := Aside0.mk H
          clear H
          have p380 : 0 ≤ (x72_2 : Int) := of_decide_eq_true Aq
          have q380 : x72_2 < (x0_2.length : Int) := of_decide_eq_true Aq
          obtain ⟨ad380, e380, hx380_0⟩ := Kd.at_int (Kd.R_reads' HO_0.out).2.2 x72_2 p380 q380
          cases e380
          replace p380 := eq_true p380
          replace q380 := eq_true q380
          have p26 : 0 ≤ (x72_2 : Int) := of_decide_eq_true Aq
          have q26 : (x72_2 : Int) < ((x0_2.length : Int) : Int) := of_decide_eq_true Aq
          obtain ⟨go26, co26, eo26, gb26, gl26, cl26, HG26⟩ := Kd.R_form HO_0.out (by omega)
          (first | cases eo26 | (injection eo26 with ea_ en_ ec_; (first | subst ea_ | (injection ea_ with ea_; subst ea_)); subst ec_; clear en_))
          have GB26 := Aside0.mk gb26
          have GG26 := Aside0.mk HG26
          clear gb26 gl26 HG26
          (first | simp only [add_plain] at hx380_0 | skip)
          obtain ⟨hx26_0, hf26_0⟩ := Kd.R_celln 0 HO_0.out (x72_2 : Int) p26 q26
          replace p26 := eq_true p26
          replace q26 := eq_true q26
          have HP27 := Kd.R_putg HO_0.out (x72_2 : Int) (Int.tmod (wrap64 ((rd x0_2 x72_2) * 3303)) 3329)
          go_wp2_with (first | ((with_reducible refine gate_store (t := 3) (p := 83) rfl ?_); refine store_event (t := 3) (p := 83) (v := ?vo_w28) (w1 := (wr.setCell ⟨go26, (x72_2 : Int).toNat, none⟩ (.int .i64 (Int.tmod (wrap64 ((rd x0_2 x72_2) * 3303)) 3329)))) ?hg ?ho ?hn ?hr ?_; (case ho => rfl); (case hg => rfl); (case hn => rfl); (case hr => first | (go_simp; done) | (go_simp; rfl)); intro w28 hw; have hg : wr.grownBy w28 (some go26) := (by rw [hw]; exact HP27.2); have hp_ : Kd.R (Kd.int .i64) 3 w28 w.heap.size (fun _ => True) (.slice (some ⟨go26, 0, none⟩) x0_2.length co22) y381 := (by rw [hw, Ny381.out]; exact HP27.1); clear HP27; replace HO_0 := Aside0.mk (hp_); replace HB := Aside0.mk ((by rw [hw]; exact below_set (HB.out) GB26.out : Below w.heap.size w w28)); clear hg hw hp_))
          (try simp only [← hl0_2])
          go_roundg k2
          case measure => have := HK1.out; have := HK2.out; omega
          case rel => exact ⟨(y381), (wrap64 (x72_2 + 1)), Rq, H', ⟨by have := HK1.out; have := HK2.out; omega⟩, ⟨by (try simp only [hl0_2]); (with_reducible repeat (first | apply Kd.R_alloc | apply Kd.R_drewN | apply Kd.R_drew)); exact HO_0.out⟩, ⟨Bq⟩⟩
         ·rw [if_neg c25] at H
          exact absurd H (by simp)
        ·rw [if_neg c24] at H
         exact absurd H (by simp)
       ·rw [if_neg c23] at H
        have c23b0 : decide (x72_2 < (x0_1.length : Int)) = false := decide_eq_false c23
        clear c23
        have c23l0 := c23b0
        (try simp only [hl0_2] at c23l0)
        obtain rfl := Option.some.inj H
        go_wp2
        go_ret
        exact ⟨_, by first | rfl | (simp [errW_none, errW_some] <;> rfl) | (simp [*, errW_none, errW_some] <;> rfl), Wq HO_0, Bq⟩
 ·replace c3 := Bool.eq_false_iff.mpr c3
  subst c3
  rw [if_neg nf] at H
  obtain rfl := Option.some.inj H
  go_enter Tryd.func52, Tryd.ntmps52
  go_wp2_with (first | ((with_reducible refine gate_callee (f := 17) rfl ?_); refine goesL_ (some 11) rfl rfl Tryd.func17 (by kernel_rfl) rfl #[.slice A0 l0.length c0] rfl Mq ?_; (with_reducible refine (poly_May.calls k _ _ l0 false _ ?side1 ?side2 A2.out).mono ?_); (case side1 => exact Cq (HR0.out)); (case side2 => exact HC0.out); rintro e w' ⟨rfl, ⟨nd, rfl⟩⟩; refine ⟨_, rfl, ?_⟩))
  go_ret
  exact ⟨_, by first | rfl | (simp [errW_none, errW_some] <;> rfl) | (simp [*, errW_none, errW_some] <;> rfl), by first | exact Kd.R_nil _ _ _ _ _ | exact Kd.N_nil _ _ _ _ _ | exact Kd.V_nil _ _ _ _ _ | exact Kd.Q_nil _ _ _ _ _ | exact Kd.S_nil _ _ _ _ _, Bq⟩

end Go.Proofs.YtkdfcgihgndnnaaDoor.PPA
end
section
namespace Go.Proofs.YtkdfcgihgndnnaaDoor.PPA
open Go.RowKit Go.Proofs.YtkdfcgihgndnnaaDoorW.PrintWords Go.Proofs.YtkdfcgihgndnnaaDoorW.PrintLast Go.Proofs.YtkdfcgihgndnnaaDoorW.PrintMore Go.Proofs.YtkdfcgihgndnnaaDoorW.PrintZip
attribute [local go_sem] max2_int min2_int max_two min_two max_three min_three max_four min_four   -- for this text's walks alone
set_option linter.unusedVariables false
set_option linter.unusedSimpArgs false

/-! ### ring_Stretch: function 72 -/
def ring_Stretch.f (a0 : Int) (a1 : Int) : Option (Int) := if a0 < 1 then (some 0) else (if a0 > 11 then (some 0) else (if 0 ≤ a0 then (if 0 ≤ (wrap64 (a0 + 1)) then (some (shr .i64 (wrap64 ((wrap64 ((wrap64 (3329 * (Go.bits .and .i64 a1 (wrap64 ((shl .i64 1 a0) - 1))))) * 2)) + (shl .i64 1 a0))) (wrap64 (a0 + 1)))) else (none)) else (none)))
set_option maxHeartbeats 8000000 in
set_option maxRecDepth 100000 in
theorem ring_Stretch.calls (a0 : Int) (a1 : Int) (r : Int) (w : World) (h : ring_Stretch.f a0 a1 = some r) :
  Calls Tryd.prog 72 #[.int .i64 a0, .int .i64 a1] w fun e w' => e = .returned (.int .i64 r) ∧ Drawn0 w w' := by
 have H := h
 unfold ring_Stretch.f at H
 clear h
 by_cases c3 : a0 < 1
 ·rw [if_pos c3] at H
  have c3b0 : decide (a0 < 1) = true := decide_eq_true c3
  clear c3
  obtain rfl := Option.some.inj H
  go_enter Tryd.func72, Tryd.ntmps72
  go_wp2
  repeat (go_quiet (fail); try go_wp2)
  go_ret
  exact ⟨by first | rfl | (simp; done) | (simp [*]; done), by repeat (first | exact Drawn0.refl _ | apply Drawn0.step)⟩
 ·rw [if_neg c3] at H
  have c3b0 : decide (a0 < 1) = false := decide_eq_false c3
  clear c3
  by_cases c4 : a0 > 11
  ·rw [if_pos c4] at H
   have c4b0 : decide (11 < a0) = true := decide_eq_true c4
   clear c4
   obtain rfl := Option.some.inj H
   go_enter Tryd.func72, Tryd.ntmps72
   go_wp2
   repeat (go_quiet (fail); try go_wp2)
   go_ret
   exact ⟨by first | rfl | (simp; done) | (simp [*]; done), by repeat (first | exact Drawn0.refl _ | apply Drawn0.step)⟩
  ·rw [if_neg c4] at H
   have c4b0 : decide (11 < a0) = false := decide_eq_false c4
   clear c4
   by_cases c5 : 0 ≤ a0
   ·rw [if_pos c5] at H
    have c5b0 := eq_true c5
    have c5b1 : decide (0 ≤ a0) = true := decide_eq_true c5
    clear c5
    obtain ⟨ji6, hji6⟩ : ∃ j_ : Int, (shl .i64 1 a0) = j_ := ⟨_, rfl⟩
    replace H : (if 0 ≤ (wrap64 (a0 + 1)) then (some (shr .i64 (wrap64 ((wrap64 ((wrap64 (3329 * (Go.bits .and .i64 a1 (wrap64 ((ji6) - 1))))) * 2)) + (ji6))) (wrap64 (a0 + 1)))) else (none)) = some r := by first | (rw [hji6] at H; exact H) | (simp only [hji6] at H ⊢; exact H)
    have hji6_ : (IntKind.i64.wrap (1 * 2 ^ min a0.toNat 64)) = ji6 := hji6
    have hji6z : a0 ≤ 64 → (IntKind.i64.wrap (1 * 2 ^ a0.toNat)) = ji6 := shl_small hji6
    have hji6u : (IntKind.i64.wrap (2 ^ min a0.toNat 64)) = ji6 := by have h_ := hji6_; rw [Int.one_mul] at h_; exact h_
    have hji6v : a0 ≤ 64 → (IntKind.i64.wrap (2 ^ a0.toNat)) = ji6 := fun hle_ => by have h_ := hji6z hle_; rw [Int.one_mul] at h_; exact h_
    have hji6y : (wrap64 (1 * 2 ^ min a0.toNat 64)) = ji6 := (i64_w _).symm.trans hji6_
    have hji6x : a0 ≤ 64 → (wrap64 (1 * 2 ^ a0.toNat)) = ji6 := fun h_ => (i64_w _).symm.trans (hji6z h_)
    have c7b0 := eq_true (of_decide_eq_true Aq : 0 ≤ a0)
    obtain ⟨ji8, hji8⟩ : ∃ j_ : Int, (wrap64 (a0 + 1)) = j_ := ⟨_, rfl⟩
    replace H : (if 0 ≤ (ji8) then (some (shr .i64 (wrap64 ((wrap64 ((wrap64 (3329 * (Go.bits .and .i64 a1 (wrap64 ((ji6) - 1))))) * 2)) + (ji6))) (ji8))) else (none)) = some r := by first | (rw [hji8] at H; exact H) | (simp only [hji8] at H ⊢; exact H)
    have hji8w : (IntKind.i64.wrap (a0 + 1)) = ji8 := (i64_w _).trans hji8
    by_cases c9 : 0 ≤ (ji8)
    ·rw [if_pos c9] at H
     have c9b0 := eq_true c9
     have c9b1 : decide (0 ≤ (ji8)) = true := decide_eq_true c9
     clear c9
     obtain ⟨ji10, hji10⟩ : ∃ j_ : Int, (shr .i64 (wrap64 ((wrap64 ((wrap64 (3329 * (Go.bits .and .i64 a1 (wrap64 ((ji6) - 1))))) * 2)) + (ji6))) (ji8)) = j_ := ⟨_, rfl⟩
     replace H : (some ji10) = some r := by first | (rw [hji10] at H; exact H) | (simp only [hji10] at H ⊢; exact H)
     have hji10_ : ((wrap64 ((wrap64 ((wrap64 (3329 * (Go.bits .and .i64 a1 (wrap64 ((ji6) - 1))))) * 2)) + (ji6))) / 2 ^ min (ji8).toNat 64) = ji10 := hji10
     have hji10z : (ji8) ≤ 64 → ((wrap64 ((wrap64 ((wrap64 (3329 * (Go.bits .and .i64 a1 (wrap64 ((ji6) - 1))))) * 2)) + (ji6))) / 2 ^ (ji8).toNat) = ji10 := shr_small hji10
     obtain rfl := Option.some.inj H
     go_enter Tryd.func72, Tryd.ntmps72
     go_wp2
     repeat (go_quiet (fail); try go_wp2)
     go_ret
     exact ⟨by first | rfl | (simp; done) | (simp only [← hji6, ← hji8, ← hji10] <;> (first | rfl | simp)) | (simp [*]; done), by repeat (first | exact Drawn0.refl _ | apply Drawn0.step)⟩
    ·rw [if_neg c9] at H
     exact absurd H (by simp)
   ·rw [if_neg c5] at H
    exact absurd H (by simp)

/-! ### pke_message: function 53 -/
def pke_message.l0 : Nat → List Int → Int → Int → Option (List Int)
 | 0, _, _, _ => none
 | k + 1, x3, x8, x9 => if x9 < x8 then (if 0 ≤ x9 then (if x9 < (x3.length : Int) then ((ring_Stretch.f 1 1).bind fun t386 => (pke_message.l0 k (x3.set (x9 : Int).toNat (wrap64 ((rd x3 x9) * t386))) x8 (wrap64 (x9 + 1)))) else (none)) else (none)) else (some x3)
def pke_message.f (k : Nat) (l0 : List Int) : Option (List Int) := (bits_Unpack.f k 1 l0).bind fun t382 => (pke_message.l0 k t382 (t382.length : Int) 0)
def pke_message.T5 : Bool × List (List Nat × List Nat) := (true, [([], []), ([], []), ([0, 1], [0, 1]), ([2], [2]), ([], []), ([3, 4], [3, 4]), ([0, 1, 0, 1, 2, 3, 4, 5], [0, 1]), ([6, 5, 4, 0, 1, 2, 3, 4, 5], [5, 6])])
def pke_message.B5 : List Nat := [0, 0, 3, 7, 0, 31, 63, 127]
theorem pke_message.tab5 : rtab .any (opsOf Tryd.f53 5) = pke_message.T5 := by kernel_rfl
theorem pke_message.bits5 : waitsOk pke_message.T5.2 pke_message.B5 = true := by kernel_rfl
set_option maxHeartbeats 8000000 in
set_option maxRecDepth 100000 in
theorem pke_message.calls (k : Nat) (A0 : Option Addr) (c0 : Nat) (l0 : List Int) (r : List Int) (w : World) (hr0 : Kd.C (Kd.int .u8) w A0 l0.length l0) (hc0 : l0.length ≤ c0) (h : pke_message.f k l0 = some r) :
  Calls Tryd.prog 53 #[.slice A0 l0.length c0] w fun e w' => ∃ v0_ : Value, e = .returned (v0_) ∧ Kd.R (Kd.int .i64) 3 w' w.heap.size (fun _ => True) v0_ r ∧ Below w.heap.size w w' := by
 have HR0 := Aside0.mk hr0
 have HC0 := Aside0.mk hc0
 clear hr0 hc0
 have HB := Aside0.mk (Below.refl w.heap.size w)
 have H := h
 unfold pke_message.f at H
 clear h
 replace H := Option.bind_eq_some_iff.mp H
 obtain ⟨t382, A20, H⟩ := H
 try dsimp only at H
 have A2 := Aside0.mk A20
 clear A20
 have H' := Aside0.mk H
 clear H
 go_enter Tryd.func53, Tryd.ntmps53
 go_wp2_with (first | ((with_reducible refine gate_callee (f := 16) rfl ?_); refine goesL_ (some 6) rfl rfl Tryd.func16 (by kernel_rfl) rfl #[.int .i64 1, .slice A0 l0.length c0] rfl Mq ?_; (with_reducible refine (bits_Unpack.calls k 1 _ _ l0 t382 _ ?side1 ?side2 A2.out).mono ?_); (case side1 => exact Cq (HR0.out)); (case side2 => exact HC0.out); rintro e w3 ⟨v383, rfl, ho0, hb⟩; refine ⟨_, rfl, ?_⟩; have HO384 := Aside0.mk (Kd.R_lower ho0 (below_size Bq)); replace HB := Aside0.mk (below_step Bq hb); clear hb ho0; (try clear A2); obtain ⟨Ao4, co4, eo4⟩ := Kd.R_slice HO384.out; subst eo4))
 go_loopg [9] k (fun kq v9 w' => ∃ (x3_1 : List Int) (x9_1 : Int), v9 = .int .i64 x9_1 ∧ Aside0 (pke_message.l0 kq x3_1 (t382.length : Int) x9_1 = some r) ∧ Aside0 (kq ≤ k) ∧ Aside0 (Kd.R (Kd.int .i64) 3 w' w.heap.size (fun _ => True) (.slice Ao4 t382.length co4) x3_1) ∧ Aside0 (Below w.heap.size w w'))
 case atStart => exact ⟨(t382), (0), Rq, H', ⟨Nat.le_refl _⟩, ⟨Wq HO384⟩, ⟨Bq⟩⟩
 case round =>
  clear H'
  try clear c1
  try clear p2
  obtain ⟨x3_1, x9_1, rfl, HA, HK1, HO_3, HB⟩ := hrel
  have hl3_1 := (Kd.R_reads' HO_3.out).1
  rw [hl3_1] at HO_3
  (try simp only [hl3_1])
  cases gk with
  | zero => exact absurd HA.out (by simp [pke_message.l0])
  | succ k1 =>
   have H := HA.out
   clear HA
   simp only [pke_message.l0] at H
   by_cases c5 : x9_1 < (t382.length : Int)
   ·rw [if_pos c5] at H
    have c5b0 : decide (x9_1 < (t382.length : Int)) = true := decide_eq_true c5
    clear c5
    have c5l0 := c5b0
    (try simp only [hl3_1] at c5l0)
    by_cases c6 : 0 ≤ x9_1
    ·rw [if_pos c6] at H
     have c6b0 : decide (0 ≤ x9_1) = true := decide_eq_true c6
     clear c6
     by_cases c7 : x9_1 < (x3_1.length : Int)
     ·rw [if_pos c7] at H
      have c7b0 : decide (x9_1 < (x3_1.length : Int)) = true := decide_eq_true c7
      clear c7
      have c7l0 := c7b0
      (try simp only [hl3_1] at c7l0)
      replace H := Option.bind_eq_some_iff.mp H
      obtain ⟨t386, A80, H⟩ := H
      try dsimp only at H
      have A8 := Aside0.mk A80
      clear A80
      obtain ⟨y387, Ny387⟩ : ∃ y_ : List Int, Aside0 (y_ = (x3_1.set (x9_1 : Int).toNat (wrap64 ((rd x3_1 x9_1) * t386)))) := ⟨_, ⟨rfl⟩⟩
      first | rw [Option.bind_some, ← Ny387.out] at H | rw [← Ny387.out] at H
      have H' := Aside0.mk H
      clear H
      try go_wp2
      replace HO_3 := Aside0.mk (Kd.R_drew HO_3.out)
      replace HB := Aside0.mk (below_drew1 HB.out)
      have p385 : 0 ≤ (x9_1 : Int) := of_decide_eq_true Aq
      have q385 : x9_1 < (x3_1.length : Int) := of_decide_eq_true Aq
      obtain ⟨ad385, e385, hx385_0⟩ := Kd.at_int (Kd.R_reads' HO_3.out).2.2 x9_1 p385 q385
      cases e385
      replace p385 := eq_true p385
      replace q385 := eq_true q385
      refine start_ (n := 8) (S := fun w' => w'.cell? (ad385.add (x9_1).toNat) = some (.int .i64 (rd x3_1 x9_1))) (ds := [7]) (bl 8 0) (by kernel_rfl) rfl rfl (hx385_0) (fun hHeld => ?_); refine with_tabW pke_message.tab5 pke_message.bits5 (fun HT_ HW_ => ?_)
      generalize wr.drew = w10 at HO_3 HB hx385_0 hHeld ⊢
      refine pq 0 (some 12) (bl 8 1) ?_
      refine pq 1 (some 13) (bl 8 3) ?_
      refine pq 2 (some 14) (bl 8 7) ?_
      refine tq 3 (some 15) (bl 8 15) ?_
      refine one_ (i := 4) (N := some 16) (bl 8 31) rfl rfl (one_of HT_.out (by kernel_rfl)) (by decide) (fun K hK => ?_)
      refine goes_ Tryd.func72 (by kernel_rfl) rfl #[.int .i64 1, .int .i64 1] (by rfl) rfl rfl Mq ?_
      with_reducible refine (ring_Stretch.calls 1 1 t386 _ A8.out).mono ?_
      rintro e w' ⟨rfl, ⟨nd, rfl⟩⟩
      refine ⟨_, rfl, ?_⟩
      have p9 : 0 ≤ (x9_1 : Int) := of_decide_eq_true Aq
      have q9 : (x9_1 : Int) < ((x3_1.length : Int) : Int) := of_decide_eq_true Aq
      obtain ⟨go9, co9, eo9, gb9, gl9, cl9, HG9⟩ := Kd.R_form HO_3.out (by omega)
      (first | cases eo9 | (injection eo9 with ea_ en_ ec_; (first | subst ea_ | (injection ea_ with ea_; subst ea_)); subst ec_; clear en_))
      have GB9 := Aside0.mk gb9
      have GG9 := Aside0.mk HG9
      clear gb9 gl9 HG9
      (first | simp only [add_plain] at hx385_0 | skip)
      obtain ⟨hx9_0, hf9_0⟩ := Kd.R_celln 0 HO_3.out (x9_1 : Int) p9 q9
      replace p9 := eq_true p9
      replace q9 := eq_true q9
      have HP11 := Kd.R_putn HO_3.out (x9_1 : Int) (wrap64 ((rd x3_1 x9_1) * t386))
      rw [← Ny387.out] at HP11
      have HQ11 := Aside0.mk HP11
      clear HP11
      refine hK.out _ _ (hHeld) (fun hHeld => ?_)
      clear hK K
      refine norm_ (a' := ?_) ?_ ?_
      rotate_left
      ·show Act.put _ (some 16) _ = _
       simp only [Act.put, List.setIfInBounds_toArray, List.set_cons_zero, List.set_cons_succ, i64_w, i32_w]
       rfl
      refine pq 5 (some 17) (bl 8 63) ?_
      refine pq 6 (some 18) (bl 8 127) ?_
      refine last_ (i := 7) (N := none) (bl 8 255) rfl rfl (one_of HT_.out (by kernel_rfl)) (by decide) (fun K hK => ?_)
      refine skip_ (w1 := ?_) (by rfl) rfl ?_ ?_
      rotate_left
      ·go_simp
       rfl
      refine hK.out _ _ ?_
      clear hK K
      refine done_ (done_of HT_.out (by kernel_rfl)) ?_
      try go_wp2
      (try simp only [← hl3_1])
      go_roundg k1
      case measure => have := HK1.out; omega
      case rel => exact ⟨(y387), (wrap64 (x9_1 + 1)), Rq, H', ⟨by have := HK1.out; omega⟩, ⟨by (try simp only [hl3_1]); (with_reducible repeat (first | apply Kd.R_alloc | apply Kd.R_drewN | apply Kd.R_drew)); exact HQ11.out⟩, ⟨by repeat (first | (with_reducible first | exact HB.out | apply below_alloc | apply pw_below_drewN | apply below_drew1 | refine below_set ?_ GB9.out) | exact HB.out)⟩⟩
     ·rw [if_neg c7] at H
      exact absurd H (by simp)
    ·rw [if_neg c6] at H
     exact absurd H (by simp)
   ·rw [if_neg c5] at H
    have c5b0 : decide (x9_1 < (t382.length : Int)) = false := decide_eq_false c5
    clear c5
    have c5l0 := c5b0
    (try simp only [hl3_1] at c5l0)
    obtain rfl := Option.some.inj H
    go_wp2
    go_ret
    exact ⟨_, by first | rfl | (simp [errW_none, errW_some] <;> rfl) | (simp [*, errW_none, errW_some] <;> rfl), Wq HO_3, Bq⟩

end Go.Proofs.YtkdfcgihgndnnaaDoor.PPA
end
