import Derived.Test.YtggiddekbocokaaDoorQ1
section
namespace Go.Proofs.YtggiddekbocokaaDoor.PLR
open Go.RowKit Go.Proofs.YtggiddekbocokaaDoorW.PrintWords Go.Proofs.YtggiddekbocokaaDoorW.PrintLast Go.Proofs.YtggiddekbocokaaDoorW.PrintMore
attribute [local go_sem] max2_int min2_int max_two min_two max_three min_three max_four min_four   -- for this text's walks alone
set_option linter.unusedVariables false
set_option linter.unusedSimpArgs false

/-! ### lay_Unhint: function 16 -/
mutual
def lay_Unhint.l0 : Nat → List Int → List (List Int) → Int → List Int → Int → Int → Int → Int → Int → Int → Int → Int → Int → Int → Int → Option ((List (List Int)) × (List (S67)))
  | 0, _, _, _, _, _, _, _, _, _, _, _, _, _, _, _ => none
  | k + 1, x1, x8, x9, x35, x36, x37, x258000, x258001, x258002, x258003, x258004, x258005, x258006, x258007, x258008 => if x37 < x36 then (if 0 ≤ x37 then (if x37 < (x35.length : Int) then (if 256 ≤ 35184372088832 then (if (wrap64 (rd x35 x37)) > x258005 then ((lay_fault.f 4).bind fun t269 => (some (([] : List (List Int)), t269))) else (if (wrap64 (rd x35 x37)) < x9 then ((lay_fault.f 4).bind fun t272 => (some (([] : List (List Int)), t272))) else (lay_Unhint.l1 k x1 x8 x9 (wrap64 (rd x35 x37)) (List.replicate 256 0) x9 x35 x36 x37 x258000 x258001 x258002 x258003 x258004 x258005 x258006 x258007 x258008))) else (none)) else (none)) else (none)) else (if 0 ≤ x9 then (if x9 ≤ x258005 then (if x258005 ≤ (x1.length : Int) then ((slices_ContainsFunc_byte_byte_at_lay_Unhint_1.f k ((x1.take (x258005 : Int).toNat).drop (x9 : Int).toNat)).bind fun t288 => (if t288 = true then ((lay_fault.f 4).bind fun t289 => (some (([] : List (List Int)), t289))) else (some (x8, ([] : List (S67)))))) else (none)) else (none)) else (none))
def lay_Unhint.l1 : Nat → List Int → List (List Int) → Int → Int → List Int → Int → List Int → Int → Int → Int → Int → Int → Int → Int → Int → Int → Int → Int → Option ((List (List Int)) × (List (S67)))
  | 0, _, _, _, _, _, _, _, _, _, _, _, _, _, _, _, _, _, _ => none
  | k + 1, x1, x8, x9, x12, x13, x14, x35, x36, x37, x258000, x258001, x258002, x258003, x258004, x258005, x258006, x258007, x258008 => if x9 < x12 then (if x9 > x14 then (if 0 ≤ x9 then (if x9 < (x1.length : Int) then (if 0 ≤ (wrap64 (x9 - 1)) then (if (wrap64 (x9 - 1)) < (x1.length : Int) then (if (rd x1 x9) ≤ (rd x1 (wrap64 (x9 - 1))) then ((lay_fault.f 4).bind fun t277 => (some (([] : List (List Int)), t277))) else (if 0 ≤ (rd x1 x9) then (if (rd x1 x9) < (x13.length : Int) then (lay_Unhint.l1 k x1 x8 (wrap64 (x9 + 1)) x12 (x13.set ((rd x1 x9) : Int).toNat 1) x14 x35 x36 x37 x258000 x258001 x258002 x258003 x258004 x258005 x258006 x258007 x258008) else (none)) else (none))) else (none)) else (none)) else (none)) else (none)) else (if 0 ≤ x9 then (if x9 < (x1.length : Int) then (if 0 ≤ (rd x1 x9) then (if (rd x1 x9) < (x13.length : Int) then (lay_Unhint.l1 k x1 x8 (wrap64 (x9 + 1)) x12 (x13.set ((rd x1 x9) : Int).toNat 1) x14 x35 x36 x37 x258000 x258001 x258002 x258003 x258004 x258005 x258006 x258007 x258008) else (none)) else (none)) else (none)) else (none))) else (if x8.length < 5864062014805 then (lay_Unhint.l0 k x1 (x8 ++ [x13]) x9 x35 x36 (wrap64 (x37 + 1)) x258000 x258001 x258002 x258003 x258004 x258005 x258006 x258007 x258008) else (none))
end
def lay_Unhint.f (k : Nat) (a0 : Int) (l1 : List Int) : Option ((List (List Int)) × (List (S67))) := (lay_Of.f a0).bind fun bt247 => (if bt247.2.2.2.2.2.2.2.2.2 = true then (if (l1.length : Int) = (wrap64 (bt247.2.2.2.2.2.1 + bt247.1)) then (if 0 ≤ bt247.2.2.2.2.2.1 then (if bt247.2.2.2.2.2.1 ≤ (l1.length : Int) then (lay_Unhint.l0 k l1 ([] : List (List Int)) 0 (l1.drop (bt247.2.2.2.2.2.1 : Int).toNat) ((l1.drop (bt247.2.2.2.2.2.1 : Int).toNat).length : Int) 0 bt247.1 bt247.2.1 bt247.2.2.1 bt247.2.2.2.1 bt247.2.2.2.2.1 bt247.2.2.2.2.2.1 bt247.2.2.2.2.2.2.1 bt247.2.2.2.2.2.2.2.1 bt247.2.2.2.2.2.2.2.2.1) else (none)) else (none)) else ((lay_fault.f 3).bind fun t261 => (some (([] : List (List Int)), t261)))) else ((lay_fault.f 2).bind fun t258 => (some (([] : List (List Int)), t258))))
def lay_Unhint.T18 : Bool × List (List Nat × List Nat) := (true, [([], []), ([], []), ([0, 1], [0, 1]), ([2], [2]), ([3], [3]), ([3], [3]), ([4, 5, 3], [3, 4, 5]), ([6, 3], [3, 6]), ([3], [3]), ([3], [3]), ([9, 3], [3, 9]), ([8, 10, 3], [3, 8, 10]), ([11, 3], [3, 11]), ([7, 12, 3], [3, 7, 12]), ([3, 13], [3, 13])])
def lay_Unhint.B18 : List Nat := [0, 0, 3, 7, 15, 15, 63, 127, 15, 15, 527, 1807, 3855, 8191, 16383]
theorem lay_Unhint.tab18 : rtab .any (opsOf Tryd.f16 18) = lay_Unhint.T18 := by kernel_rfl
theorem lay_Unhint.bits18 : waitsOk lay_Unhint.T18.2 lay_Unhint.B18 = true := by kernel_rfl
set_option maxHeartbeats 8000000 in
set_option maxRecDepth 100000 in
theorem lay_Unhint.calls (k : Nat) (a0 : Int) (A1 : Option Addr) (c1 : Nat) (l1 : List Int) (r1 : List (List Int)) (r2 : List (S67)) (w : World) (hr1 : Kd.C (Kd.int .u8) w A1 l1.length l1) (hc1 : l1.length ≤ c1) (h : lay_Unhint.f k a0 l1 = some (r1, r2)) :
    Calls Tryd.prog 16 #[.int .i64 a0, .slice A1 l1.length c1] w fun e w' => ∃ v0_ v1_ : Value, e = .returned (.tuple #[v0_, v1_]) ∧ Kd.S (Kd.slice 3 (Kd.int .i64)) 22 w' w.heap.size (fun _ => True) v0_ r1 ∧ Kd.R k67 67 w' w.heap.size (fun _ => True) (eRow v1_) r2 ∧ Below w.heap.size w w' := by
  have hu26 := Tryd.underlying26
  have HR1 := Aside0.mk hr1
  have HC1 := Aside0.mk hc1
  clear hr1 hc1
  have HB := Aside0.mk (Below.refl w.heap.size w)
  have H : ((lay_Of.f a0).bind fun bt247 => (if bt247.2.2.2.2.2.2.2.2.2 = true then (if (l1.length : Int) = (wrap64 (bt247.2.2.2.2.2.1 + bt247.1)) then (if 0 ≤ bt247.2.2.2.2.2.1 then (if bt247.2.2.2.2.2.1 ≤ (l1.length : Int) then (lay_Unhint.l0 k l1 ([] : List (List Int)) 0 (l1.drop (bt247.2.2.2.2.2.1 : Int).toNat) ((l1.drop (bt247.2.2.2.2.2.1 : Int).toNat).length : Int) 0 bt247.1 bt247.2.1 bt247.2.2.1 bt247.2.2.2.1 bt247.2.2.2.2.1 bt247.2.2.2.2.2.1 bt247.2.2.2.2.2.2.1 bt247.2.2.2.2.2.2.2.1 bt247.2.2.2.2.2.2.2.2.1) else (none)) else (none)) else ((lay_fault.f 3).bind fun t261 => (some (([] : List (List Int)), t261)))) else ((lay_fault.f 2).bind fun t258 => (some (([] : List (List Int)), t258))))) = some (r1, r2) := h
  clear h
  replace H := Option.bind_eq_some_iff.mp H
  obtain ⟨⟨t247, t248, t249, t250, t251, t252, t253, t254, t255, t256⟩, A30, H⟩ := H
  replace H : (if t256 = true then (if (l1.length : Int) = (wrap64 (t252 + t247)) then (if 0 ≤ t252 then (if t252 ≤ (l1.length : Int) then (lay_Unhint.l0 k l1 ([] : List (List Int)) 0 (l1.drop (t252 : Int).toNat) ((l1.drop (t252 : Int).toNat).length : Int) 0 t247 t248 t249 t250 t251 t252 t253 t254 t255) else (none)) else (none)) else ((lay_fault.f 3).bind fun t261 => (some (([] : List (List Int)), t261)))) else ((lay_fault.f 2).bind fun t258 => (some (([] : List (List Int)), t258)))) = some (r1, r2) := H
  have A3 := Aside0.mk A30
  clear A30
  by_cases c4 : t256 = true
  · subst c4
    have H1 : (if (l1.length : Int) = (wrap64 (t252 + t247)) then (if 0 ≤ t252 then (if t252 ≤ (l1.length : Int) then (lay_Unhint.l0 k l1 ([] : List (List Int)) 0 (l1.drop (t252 : Int).toNat) ((l1.drop (t252 : Int).toNat).length : Int) 0 t247 t248 t249 t250 t251 t252 t253 t254 t255) else (none)) else (none)) else ((lay_fault.f 3).bind fun t261 => (some (([] : List (List Int)), t261)))) = some (r1, r2) := by rw [if_pos rfl] at H; exact H
    clear H
    have H := H1
    clear H1
    by_cases c5 : (l1.length : Int) = (wrap64 (t252 + t247))
    · rw [if_pos c5] at H
      have c5b0 : ((l1.length : Int) == (wrap64 (t252 + t247))) = true := beq_iff_eq.mpr c5
      have c5b1 : ((l1.length : Int) != (wrap64 (t252 + t247))) = false := bne_eq_false_iff_eq.mpr c5
      clear c5
      by_cases c6 : 0 ≤ t252
      · rw [if_pos c6] at H
        have c6b0 := eq_true c6
        have c6b1 : decide (0 ≤ t252) = true := decide_eq_true c6
        clear c6
        by_cases c7 : t252 ≤ (l1.length : Int)
        · rw [if_pos c7] at H
          have c7b0 := eq_true c7
          have c7b1 : decide (t252 ≤ (l1.length : Int)) = true := decide_eq_true c7
          clear c7
          have H' := Aside0.mk H
          clear H
          go_enter Tryd.func16, Tryd.ntmps16
          go_wp2_with (first | ((with_reducible refine gate_callee (f := 8) rfl ?_); refine goesL_ (some 17) rfl rfl Tryd.func8 (by kernel_rfl) rfl #[.int .i64 a0] rfl (by (try simp only [List.map_toArray, List.map_cons, List.map_nil]); first | done | rfl | (simp only [List.length_drop, List.length_take]; rfl)) ?_; (with_reducible refine (lay_Of.calls a0 t247 t248 t249 t250 t251 t252 t253 t254 t255 true _ A3.out).mono ?_); rintro e w8 ⟨rfl, hb⟩; refine ⟨_, rfl, ?_⟩; have n0_ := Aside0.mk (below_step (by repeat (first | (with_reducible first | exact HB.out | apply below_alloc | apply pw_below_drewN | apply below_drew1) | exact HB.out)) hb); clear HB; have HB := n0_; clear n0_; (try clear hb); (try clear hb2); (try clear hk); (try clear hi); (try clear A3)) | ((with_reducible refine gate_dst (N := 6) rfl ?_); refine box_event ?hg (N := 6) ?hd (cs := #[.int .i64 0, .int .i64 0, .int .i64 0, .int .i64 0, .int .i64 0, .int .i64 0, .int .i64 0, .int .i64 0, .int .i64 0]) (t := 26) ?hr ?_; (case hd => rfl); (case hg => rfl); (case hr => first | (go_simp; done) | (go_simp; rfl)); intro gb257 hg w9 hbox hb; have n0_ := Aside0.mk (below_step (by repeat (first | (with_reducible first | exact HB.out | apply below_alloc | apply pw_below_drewN | apply below_drew1) | exact HB.out)) hb); have n1_ := Aside0.mk (hbox); have n2_ := Aside0.mk ((by rw [hg]; exact (below_size (by repeat (first | (with_reducible first | exact HB.out | apply below_alloc | apply pw_below_drewN | apply below_drew1) | exact HB.out))) : w.heap.size ≤ gb257)); have n3_ := Aside0.mk ((by rw [hg]; exact (below_size (by repeat (first | (with_reducible first | exact HB.out | apply below_alloc | apply pw_below_drewN | apply below_drew1) | exact HB.out))) : w.heap.size ≤ gb257)); clear HB; have HB := n0_; have BK257 := n1_; have GW257 := n2_; have GE257 := n3_; clear n0_ n1_ n2_ n3_; clear hb hbox hg; have hcz10_0 : w9.cell? ⟨gb257, 0, none⟩ = some (.int .i64 0) := (blk_cell BK257.out 0).trans rfl; have hcz10_1 : w9.cell? ⟨gb257, 1, none⟩ = some (.int .i64 0) := (blk_cell BK257.out 1).trans rfl; have hcz10_2 : w9.cell? ⟨gb257, 2, none⟩ = some (.int .i64 0) := (blk_cell BK257.out 2).trans rfl; have hcz10_3 : w9.cell? ⟨gb257, 3, none⟩ = some (.int .i64 0) := (blk_cell BK257.out 3).trans rfl; have hcz10_4 : w9.cell? ⟨gb257, 4, none⟩ = some (.int .i64 0) := (blk_cell BK257.out 4).trans rfl; have hcz10_5 : w9.cell? ⟨gb257, 5, none⟩ = some (.int .i64 0) := (blk_cell BK257.out 5).trans rfl; have hcz10_6 : w9.cell? ⟨gb257, 6, none⟩ = some (.int .i64 0) := (blk_cell BK257.out 6).trans rfl; have hcz10_7 : w9.cell? ⟨gb257, 7, none⟩ = some (.int .i64 0) := (blk_cell BK257.out 7).trans rfl; have hcz10_8 : w9.cell? ⟨gb257, 8, none⟩ = some (.int .i64 0) := (blk_cell BK257.out 8).trans rfl; have hfz10_0 := blk_frozen BK257.out 0; have hfz10_1 := blk_frozen BK257.out 1; have hfz10_2 := blk_frozen BK257.out 2; have hfz10_3 := blk_frozen BK257.out 3; have hfz10_4 := blk_frozen BK257.out 4; have hfz10_5 := blk_frozen BK257.out 5; have hfz10_6 := blk_frozen BK257.out 6; have hfz10_7 := blk_frozen BK257.out 7; have hfz10_8 := blk_frozen BK257.out 8; obtain ⟨i011, hi011, _, hsz11, _⟩ := info_parts info5; obtain ⟨A11, hcut11, hA11, hC11⟩ := print_drop_of (P := Tryd.prog) (Value.int .u8) 0 30 5 .i64 Tryd.underlying30 hi011 hsz11 A1 c1 l1 t252 (of_decide_eq_true (by first | (with_reducible assumption) | assumption)) (of_decide_eq_true (by first | (with_reducible assumption) | assumption)) HC1.out; have HR264 := Aside0.mk (Kd.C_of_reads (h1 := fun _ => rfl) (hA11 _ (Kd.reads_of_C HR1.out))); have HC264 := Aside0.mk hC11; clear hA11 hC11 hi011 hsz11))
          go_loopg [8, 9, 37] k (fun kq v8 v9 v37 w' => ∃ (x8_1 : List (List Int)) (x9_1 : Int) (x37_1 : Int), v9 = .int .i64 x9_1 ∧ v37 = .int .i64 x37_1 ∧ Aside0 (lay_Unhint.l0 kq l1 x8_1 x9_1 (l1.drop (t252 : Int).toNat) ((l1.drop (t252 : Int).toNat).length : Int) x37_1 t247 t248 t249 t250 t251 t252 t253 t254 t255 = some (r1, r2)) ∧ Aside0 (kq ≤ k) ∧ Aside0 (Kd.S (Kd.slice 3 (Kd.int .i64)) 22 w' w.heap.size (fun _ => True) v8 x8_1) ∧ Aside0 (w'.heap[gb257]? = some (.cells #[.int .i64 t247, .int .i64 t248, .int .i64 t249, .int .i64 t250, .int .i64 t251, .int .i64 t252, .int .i64 t253, .int .i64 t254, .int .i64 t255] 26 (0, 0))) ∧ Aside0 (Below w.heap.size w w'))
          case atStart => exact ⟨(([] : List (List Int))), (0), (0), (by first | rfl | (simp; done) | (simp [*]; done)), (by first | rfl | (simp; done) | (simp [*]; done)), H', ⟨Nat.le_refl _⟩, ⟨by first | exact Kd.S_nil _ _ _ _ _ | exact Kd.N_nil _ _ _ _ _ | exact Kd.V_nil _ _ _ _ _ | exact Kd.Q_nil _ _ _ _ _ | exact Kd.R_nil _ _ _ _ _⟩, ⟨by (with_reducible repeat (first | refine blk_drewN ?_ _ | refine blk_drew ?_ | refine blk_alloc ?_ _)); refine blk_put (cs := #[.int .i64 t247, .int .i64 t248, .int .i64 t249, .int .i64 t250, .int .i64 t251, .int .i64 t252, .int .i64 t253, .int .i64 t254, .int .i64 0]) ?_ 8 _ rfl; (with_reducible repeat (first | refine blk_drewN ?_ _ | refine blk_drew ?_ | refine blk_alloc ?_ _)); refine blk_put (cs := #[.int .i64 t247, .int .i64 t248, .int .i64 t249, .int .i64 t250, .int .i64 t251, .int .i64 t252, .int .i64 t253, .int .i64 0, .int .i64 0]) ?_ 7 _ rfl; (with_reducible repeat (first | refine blk_drewN ?_ _ | refine blk_drew ?_ | refine blk_alloc ?_ _)); refine blk_put (cs := #[.int .i64 t247, .int .i64 t248, .int .i64 t249, .int .i64 t250, .int .i64 t251, .int .i64 t252, .int .i64 0, .int .i64 0, .int .i64 0]) ?_ 6 _ rfl; (with_reducible repeat (first | refine blk_drewN ?_ _ | refine blk_drew ?_ | refine blk_alloc ?_ _)); refine blk_put (cs := #[.int .i64 t247, .int .i64 t248, .int .i64 t249, .int .i64 t250, .int .i64 t251, .int .i64 0, .int .i64 0, .int .i64 0, .int .i64 0]) ?_ 5 _ rfl; (with_reducible repeat (first | refine blk_drewN ?_ _ | refine blk_drew ?_ | refine blk_alloc ?_ _)); refine blk_put (cs := #[.int .i64 t247, .int .i64 t248, .int .i64 t249, .int .i64 t250, .int .i64 0, .int .i64 0, .int .i64 0, .int .i64 0, .int .i64 0]) ?_ 4 _ rfl; (with_reducible repeat (first | refine blk_drewN ?_ _ | refine blk_drew ?_ | refine blk_alloc ?_ _)); refine blk_put (cs := #[.int .i64 t247, .int .i64 t248, .int .i64 t249, .int .i64 0, .int .i64 0, .int .i64 0, .int .i64 0, .int .i64 0, .int .i64 0]) ?_ 3 _ rfl; (with_reducible repeat (first | refine blk_drewN ?_ _ | refine blk_drew ?_ | refine blk_alloc ?_ _)); refine blk_put (cs := #[.int .i64 t247, .int .i64 t248, .int .i64 0, .int .i64 0, .int .i64 0, .int .i64 0, .int .i64 0, .int .i64 0, .int .i64 0]) ?_ 2 _ rfl; (with_reducible repeat (first | refine blk_drewN ?_ _ | refine blk_drew ?_ | refine blk_alloc ?_ _)); refine blk_put (cs := #[.int .i64 t247, .int .i64 0, .int .i64 0, .int .i64 0, .int .i64 0, .int .i64 0, .int .i64 0, .int .i64 0, .int .i64 0]) ?_ 1 _ rfl; (with_reducible repeat (first | refine blk_drewN ?_ _ | refine blk_drew ?_ | refine blk_alloc ?_ _)); refine blk_put (cs := #[.int .i64 0, .int .i64 0, .int .i64 0, .int .i64 0, .int .i64 0, .int .i64 0, .int .i64 0, .int .i64 0, .int .i64 0]) ?_ 0 _ rfl; (with_reducible repeat (first | refine blk_drewN ?_ _ | refine blk_drew ?_ | refine blk_alloc ?_ _)); exact BK257.out⟩, ⟨by repeat (first | (with_reducible first | exact HB.out | apply below_alloc | apply pw_below_drewN | apply below_drew1 | refine below_set ?_ GE257.out) | exact HB.out)⟩⟩
          case round =>
            clear H'
            try clear c1
            try clear p2
            try clear c4
            try clear c5
            try clear c5b0
            try clear c5b0q
            try clear c5b1
            try clear c6
            try clear c6b0
            try clear c6b0q
            try clear c6b1
            try clear p6
            try clear c7
            try clear c7b0
            try clear c7b0q
            try clear c7b1
            try clear c8
            try clear hcz10_0
            try clear hcz10_1
            try clear hcz10_2
            try clear hcz10_3
            try clear hcz10_4
            try clear hcz10_5
            try clear hcz10_6
            try clear hcz10_7
            try clear hcz10_8
            try clear hfz10_0
            try clear hfz10_1
            try clear hfz10_2
            try clear hfz10_3
            try clear hfz10_4
            try clear hfz10_5
            try clear hfz10_6
            try clear hfz10_7
            try clear hfz10_8
            obtain ⟨x8_1, x9_1, x37_1, rfl, rfl, HA, HK1, HO_8, BK257, HB⟩ := hrel
            cases gk with
            | zero => exact absurd HA.out (by simp [lay_Unhint.l0])
            | succ k1 =>
              have H := HA.out
              clear HA
              simp only [lay_Unhint.l0] at H
              by_cases c12 : x37_1 < ((l1.drop (t252 : Int).toNat).length : Int)
              · rw [if_pos c12] at H
                have c12b0 : decide (x37_1 < ((l1.drop (t252 : Int).toNat).length : Int)) = true := decide_eq_true c12
                have c12b0q : decide (x37_1 < ((l1.length - (t252 : Int).toNat : Nat) : Int)) = true := by have h_ := c12b0; rw [List.length_drop] at h_; exact h_
                clear c12
                by_cases c13 : 0 ≤ x37_1
                · rw [if_pos c13] at H
                  have c13b0 : decide (0 ≤ x37_1) = true := decide_eq_true c13
                  clear c13
                  by_cases c14 : x37_1 < ((l1.drop (t252 : Int).toNat).length : Int)
                  · rw [if_pos c14] at H
                    have c14b0 : decide (x37_1 < ((l1.drop (t252 : Int).toNat).length : Int)) = true := decide_eq_true c14
                    have c14b0q : decide (x37_1 < ((l1.length - (t252 : Int).toNat : Nat) : Int)) = true := by have h_ := c14b0; rw [List.length_drop] at h_; exact h_
                    clear c14
                    by_cases c15 : 256 ≤ 35184372088832
                    · rw [if_pos c15] at H
                      have c15b0 := eq_true c15
                      have c15b1 : decide (256 ≤ 35184372088832) = true := decide_eq_true c15
                      clear c15
                      obtain ⟨y266, hy266⟩ : ∃ y_ : List Int, y_ = (List.replicate 256 0) := ⟨_, rfl⟩
                      replace H : (if (wrap64 (rd (l1.drop (t252 : Int).toNat) x37_1)) > t252 then ((lay_fault.f 4).bind fun t269 => (some (([] : List (List Int)), t269))) else (if (wrap64 (rd (l1.drop (t252 : Int).toNat) x37_1)) < x9_1 then ((lay_fault.f 4).bind fun t272 => (some (([] : List (List Int)), t272))) else (lay_Unhint.l1 k1 l1 x8_1 x9_1 (wrap64 (rd (l1.drop (t252 : Int).toNat) x37_1)) y266 x9_1 (l1.drop (t252 : Int).toNat) ((l1.drop (t252 : Int).toNat).length : Int) x37_1 t247 t248 t249 t250 t251 t252 t253 t254 t255))) = some (r1, r2) := by first | (rw [hy266]; with_reducible exact H) | (have H2_ := (Option.bind_some _ _).symm.trans H; rw [hy266]; with_reducible exact H2_) | (have H2_ := (Option.bind_some _ _).symm.trans H; with_reducible exact H2_) | with_reducible exact H | (rw [hy266]; exact H) | exact H
                      have Ny266 := Aside0.mk hy266
                      clear hy266
                      by_cases c16 : (wrap64 (rd (l1.drop (t252 : Int).toNat) x37_1)) > t252
                      · rw [if_pos c16] at H
                        have c16b0 : decide (t252 < (wrap64 (rd (l1.drop (t252 : Int).toNat) x37_1))) = true := decide_eq_true c16
                        clear c16
                        replace H := Option.bind_eq_some_iff.mp H
                        obtain ⟨t269, A170, H⟩ := H
                        replace H : (some (([] : List (List Int)), t269)) = some (r1, r2) := H
                        have A17 := Aside0.mk A170
                        clear A170
                        simp only [Option.some.injEq, Prod.mk.injEq] at H
                        obtain ⟨rfl, rfl⟩ := H
                        have p265 : 0 ≤ (x37_1 : Int) := of_decide_eq_true (by first | (with_reducible assumption) | assumption)
                        have q265 : x37_1 < ((l1.drop (t252 : Int).toNat).length : Int) := of_decide_eq_true (by first | (with_reducible assumption) | assumption)
                        obtain ⟨ad265, e265, hx265_0⟩ := Kd.at_int HR264.out x37_1 p265 q265
                        cases e265
                        replace hx265_0 := (HB.out.cell (World.block_lt_of_cell? w _ hx265_0)).trans hx265_0
                        replace p265 := eq_true p265
                        replace q265 := eq_true q265
                        have q265q := q265; rw [List.length_drop] at q265q
                        try go_wp2
                        have n0_ := Aside0.mk (Kd.S_drew HO_8.out)
                        have n1_ := Aside0.mk (blk_drew BK257.out)
                        have n2_ := Aside0.mk (below_drew1 HB.out)
                        clear HO_8
                        clear BK257
                        clear HB
                        have HO_8 := n0_
                        have BK257 := n1_
                        have HB := n2_
                        clear n0_ n1_ n2_
                        refine start_ (n := 5) (S := fun w' => True) (ds := []) #[false, false, false, false, false] (by kernel_rfl) rfl rfl trivial (fun hHeld => ?_)
                        generalize wr.drew = w18 at HO_8 BK257 HB hHeld ⊢
                        refine pure_ (i := 0) (N := some 41) (v := ?_) (a' := ?_) #[true, false, false, false, false] rfl rfl (by kernel_rfl) (fun _ _ _ h => h) (Or.inl ⟨by rfl, ?_⟩) ?_ ?_
                        rotate_left
                        · intro w'
                          go_simp
                          with_reducible rfl
                        rotate_left
                        · simp only [Act.put, List.setIfInBounds_toArray, List.set_cons_zero, List.set_cons_succ, i64_w, i32_w]
                          rfl
                        refine pure_ (i := 1) (N := some 42) (v := ?_) (a' := ?_) #[true, true, false, false, false] rfl rfl (by kernel_rfl) (fun _ _ _ h => h) (Or.inl ⟨by rfl, ?_⟩) ?_ ?_
                        rotate_left
                        · intro w'
                          go_simp
                          with_reducible rfl
                        rotate_left
                        · simp only [Act.put, List.setIfInBounds_toArray, List.set_cons_zero, List.set_cons_succ, i64_w, i32_w]
                          rfl
                        refine pure_ (i := 3) (N := some 12) (v := ?_) (a' := ?_) #[true, true, false, true, false] rfl rfl (by kernel_rfl) (fun _ _ _ h => h) (Or.inl ⟨by rfl, ?_⟩) ?_ ?_
                        rotate_left
                        · intro w'
                          go_simp
                          with_reducible rfl
                        rotate_left
                        · simp only [Act.put, List.setIfInBounds_toArray, List.set_cons_zero, List.set_cons_succ, i64_w, i32_w]
                          rfl
                        refine one_ (i := 2) (N := some 43) #[true, true, true, true, false] rfl rfl (by kernel_rfl) (by decide) (fun K hK => ?_)
                        refine Kd.R_make_step (Kd.int .i64) _ 3 (by rfl) (N := 43) rfl 22 _ _ rfl 256 rfl rfl Tryd.underlying22 (.int .i64 0) 8 info3 rfl (by decide) (by omega) 0 (ok := fun _ => True) (okp := fun _ => True) rfl (fun _ hk => hk) trivial (by omega) (by omega) (Below.refl _ _) (Nat.le_refl _) ?_
                        intro v267 w19 ho20 hb hg_ hnew_
                        clear hg_ hnew_
                        (first | rw [← Ny266.out] at ho20 | (simp only [Int.reduceToNat] at ho20; rw [← Ny266.out] at ho20))
                        have n0_ := Aside0.mk (Kd.S_elder' (by (with_reducible repeat (first | apply Kd.S_alloc | apply Kd.S_drewN | apply Kd.S_drew)); exact HO_8.out) (Kd.R_base ho20) hb)
                        have n1_ := Aside0.mk (Kd.R_lower ho20 (below_size (by repeat (first | (with_reducible first | exact HB.out | apply below_alloc | apply pw_below_drewN | apply below_drew1 | refine below_set ?_ GE257.out) | exact HB.out))))
                        have n2_ := Aside0.mk (blk_below (g := gb257) (o := .cells #[.int .i64 t247, .int .i64 t248, .int .i64 t249, .int .i64 t250, .int .i64 t251, .int .i64 t252, .int .i64 t253, .int .i64 t254, .int .i64 t255] 26 (0, 0)) (by (with_reducible repeat (first | refine blk_drewN ?_ _ | refine blk_drew ?_ | refine blk_alloc ?_ _)); exact BK257.out) hb)
                        have n3_ := Aside0.mk (below_step (by repeat (first | (with_reducible first | exact HB.out | apply below_alloc | apply pw_below_drewN | apply below_drew1 | refine below_set ?_ GE257.out) | exact HB.out)) hb)
                        clear HO_8
                        clear BK257
                        clear HB
                        have HO_8 := n0_
                        have HO268 := n1_
                        have BK257 := n2_
                        have HB := n3_
                        clear n0_ n1_ n2_ n3_
                        clear hb ho20
                        refine hK.out _ _ trivial (fun hHeld => ?_)
                        clear hK K
                        refine norm_ (a' := ?_) ?_ ?_
                        rotate_left
                        · show Act.put _ (some 43) _ = _
                          simp only [Act.put, List.setIfInBounds_toArray, List.set_cons_zero, List.set_cons_succ, i64_w, i32_w]
                          rfl
                        refine pure_ (i := 4) (N := some 13) (v := ?_) (a' := ?_) #[true, true, true, true, true] rfl rfl (by kernel_rfl) (fun _ _ _ h => h) (Or.inl ⟨by rfl, ?_⟩) ?_ ?_
                        rotate_left
                        · intro w'
                          go_simp
                          with_reducible rfl
                        rotate_left
                        · simp only [Act.put, List.setIfInBounds_toArray, List.set_cons_zero, List.set_cons_succ, i64_w, i32_w]
                          rfl
                        refine done_ (by kernel_rfl) ?_
                        have hcz21_0 : w19.cell? ⟨gb257, 0, none⟩ = some (.int .i64 t247) := (blk_cell BK257.out 0).trans rfl
                        have hcz21_1 : w19.cell? ⟨gb257, 1, none⟩ = some (.int .i64 t248) := (blk_cell BK257.out 1).trans rfl
                        have hcz21_2 : w19.cell? ⟨gb257, 2, none⟩ = some (.int .i64 t249) := (blk_cell BK257.out 2).trans rfl
                        have hcz21_3 : w19.cell? ⟨gb257, 3, none⟩ = some (.int .i64 t250) := (blk_cell BK257.out 3).trans rfl
                        have hcz21_4 : w19.cell? ⟨gb257, 4, none⟩ = some (.int .i64 t251) := (blk_cell BK257.out 4).trans rfl
                        have hcz21_5 : w19.cell? ⟨gb257, 5, none⟩ = some (.int .i64 t252) := (blk_cell BK257.out 5).trans rfl
                        have hcz21_6 : w19.cell? ⟨gb257, 6, none⟩ = some (.int .i64 t253) := (blk_cell BK257.out 6).trans rfl
                        have hcz21_7 : w19.cell? ⟨gb257, 7, none⟩ = some (.int .i64 t254) := (blk_cell BK257.out 7).trans rfl
                        have hcz21_8 : w19.cell? ⟨gb257, 8, none⟩ = some (.int .i64 t255) := (blk_cell BK257.out 8).trans rfl
                        have hfz21_0 := blk_frozen BK257.out 0
                        have hfz21_1 := blk_frozen BK257.out 1
                        have hfz21_2 := blk_frozen BK257.out 2
                        have hfz21_3 := blk_frozen BK257.out 3
                        have hfz21_4 := blk_frozen BK257.out 4
                        have hfz21_5 := blk_frozen BK257.out 5
                        have hfz21_6 := blk_frozen BK257.out 6
                        have hfz21_7 := blk_frozen BK257.out 7
                        have hfz21_8 := blk_frozen BK257.out 8
                        try go_wp2_with (first | ((with_reducible refine gate_callee (f := 27) rfl ?_); refine goesL_ (some 54) rfl rfl Tryd.func27 (by kernel_rfl) rfl #[.int .i64 4] rfl (by (try simp only [List.map_toArray, List.map_cons, List.map_nil]); first | done | rfl | (simp only [List.length_drop, List.length_take]; rfl)) ?_; (with_reducible refine (lay_fault.calls 4 t269 _ A17.out).mono ?_); rintro e w22 ⟨v270, rfl, ho0, hb⟩; refine ⟨_, rfl, ?_⟩; have n0_ := Aside0.mk (Kd.S_below (by (with_reducible repeat (first | apply Kd.S_alloc | apply Kd.S_drewN | apply Kd.S_drew)); exact HO_8.out) hb); have n1_ := Aside0.mk (Kd.R_below (by (with_reducible repeat (first | apply Kd.R_alloc | apply Kd.R_drewN | apply Kd.R_drew)); exact HO268.out) hb); have n2_ := Aside0.mk (Kd.R_lower ho0 (below_size (by repeat (first | (with_reducible first | exact HB.out | apply below_alloc | apply pw_below_drewN | apply below_drew1 | refine below_set ?_ GE257.out) | exact HB.out)))); have n3_ := Aside0.mk (blk_below (g := gb257) (o := .cells #[.int .i64 t247, .int .i64 t248, .int .i64 t249, .int .i64 t250, .int .i64 t251, .int .i64 t252, .int .i64 t253, .int .i64 t254, .int .i64 t255] 26 (0, 0)) (by (with_reducible repeat (first | refine blk_drewN ?_ _ | refine blk_drew ?_ | refine blk_alloc ?_ _)); exact BK257.out) hb); have n4_ := Aside0.mk (below_step (by repeat (first | (with_reducible first | exact HB.out | apply below_alloc | apply pw_below_drewN | apply below_drew1 | refine below_set ?_ GE257.out) | exact HB.out)) hb); clear HO_8; clear HO268; clear BK257; clear HB; have HO_8 := n0_; have HO268 := n1_; have HO271 := n2_; have BK257 := n3_; have HB := n4_; clear n0_ n1_ n2_ n3_ n4_; (try clear hb); (try clear hb2); (try clear hk); (try clear hi); (try clear ho0); (try clear A17)))
                        go_ret2
                        exact ⟨_, _, by first | rfl | (simp [errW_none, errW_some] <;> rfl) | (simp [*, errW_none, errW_some] <;> rfl), by first | exact Kd.S_nil _ _ _ _ _ | exact Kd.N_nil _ _ _ _ _ | exact Kd.V_nil _ _ _ _ _ | exact Kd.Q_nil _ _ _ _ _ | exact Kd.R_nil _ _ _ _ _, by (with_reducible repeat (first | apply Kd.R_alloc | apply Kd.R_drewN | apply Kd.R_drew)); exact HO271.out, by repeat (first | (with_reducible first | exact HB.out | apply below_alloc | apply pw_below_drewN | apply below_drew1 | refine below_set ?_ GE257.out) | exact HB.out)⟩
                      · rw [if_neg c16] at H
                        have c16b0 : decide (t252 < (wrap64 (rd (l1.drop (t252 : Int).toNat) x37_1))) = false := decide_eq_false c16
                        clear c16
                        by_cases c23 : (wrap64 (rd (l1.drop (t252 : Int).toNat) x37_1)) < x9_1
                        · rw [if_pos c23] at H
                          have c23b0 : decide ((wrap64 (rd (l1.drop (t252 : Int).toNat) x37_1)) < x9_1) = true := decide_eq_true c23
                          clear c23
                          replace H := Option.bind_eq_some_iff.mp H
                          obtain ⟨t272, A240, H⟩ := H
                          replace H : (some (([] : List (List Int)), t272)) = some (r1, r2) := H
                          have A24 := Aside0.mk A240
                          clear A240
                          simp only [Option.some.injEq, Prod.mk.injEq] at H
                          obtain ⟨rfl, rfl⟩ := H
                          have p265 : 0 ≤ (x37_1 : Int) := of_decide_eq_true (by first | (with_reducible assumption) | assumption)
                          have q265 : x37_1 < ((l1.drop (t252 : Int).toNat).length : Int) := of_decide_eq_true (by first | (with_reducible assumption) | assumption)
                          obtain ⟨ad265, e265, hx265_0⟩ := Kd.at_int HR264.out x37_1 p265 q265
                          cases e265
                          replace hx265_0 := (HB.out.cell (World.block_lt_of_cell? w _ hx265_0)).trans hx265_0
                          replace p265 := eq_true p265
                          replace q265 := eq_true q265
                          have q265q := q265; rw [List.length_drop] at q265q
                          try go_wp2
                          have n0_ := Aside0.mk (Kd.S_drew HO_8.out)
                          have n1_ := Aside0.mk (blk_drew BK257.out)
                          have n2_ := Aside0.mk (below_drew1 HB.out)
                          clear HO_8
                          clear BK257
                          clear HB
                          have HO_8 := n0_
                          have BK257 := n1_
                          have HB := n2_
                          clear n0_ n1_ n2_
                          refine start_ (n := 5) (S := fun w' => True) (ds := []) #[false, false, false, false, false] (by kernel_rfl) rfl rfl trivial (fun hHeld => ?_)
                          generalize wr.drew = w25 at HO_8 BK257 HB hHeld ⊢
                          refine pure_ (i := 0) (N := some 41) (v := ?_) (a' := ?_) #[true, false, false, false, false] rfl rfl (by kernel_rfl) (fun _ _ _ h => h) (Or.inl ⟨by rfl, ?_⟩) ?_ ?_
                          rotate_left
                          · intro w'
                            go_simp
                            with_reducible rfl
                          rotate_left
                          · simp only [Act.put, List.setIfInBounds_toArray, List.set_cons_zero, List.set_cons_succ, i64_w, i32_w]
                            rfl
                          refine pure_ (i := 1) (N := some 42) (v := ?_) (a' := ?_) #[true, true, false, false, false] rfl rfl (by kernel_rfl) (fun _ _ _ h => h) (Or.inl ⟨by rfl, ?_⟩) ?_ ?_
                          rotate_left
                          · intro w'
                            go_simp
                            with_reducible rfl
                          rotate_left
                          · simp only [Act.put, List.setIfInBounds_toArray, List.set_cons_zero, List.set_cons_succ, i64_w, i32_w]
                            rfl
                          refine pure_ (i := 3) (N := some 12) (v := ?_) (a' := ?_) #[true, true, false, true, false] rfl rfl (by kernel_rfl) (fun _ _ _ h => h) (Or.inl ⟨by rfl, ?_⟩) ?_ ?_
                          rotate_left
                          · intro w'
                            go_simp
                            with_reducible rfl
                          rotate_left
                          · simp only [Act.put, List.setIfInBounds_toArray, List.set_cons_zero, List.set_cons_succ, i64_w, i32_w]
                            rfl
                          refine one_ (i := 2) (N := some 43) #[true, true, true, true, false] rfl rfl (by kernel_rfl) (by decide) (fun K hK => ?_)
                          refine Kd.R_make_step (Kd.int .i64) _ 3 (by rfl) (N := 43) rfl 22 _ _ rfl 256 rfl rfl Tryd.underlying22 (.int .i64 0) 8 info3 rfl (by decide) (by omega) 0 (ok := fun _ => True) (okp := fun _ => True) rfl (fun _ hk => hk) trivial (by omega) (by omega) (Below.refl _ _) (Nat.le_refl _) ?_
                          intro v267 w26 ho27 hb hg_ hnew_
                          clear hg_ hnew_
                          (first | rw [← Ny266.out] at ho27 | (simp only [Int.reduceToNat] at ho27; rw [← Ny266.out] at ho27))
                          have n0_ := Aside0.mk (Kd.S_elder' (by (with_reducible repeat (first | apply Kd.S_alloc | apply Kd.S_drewN | apply Kd.S_drew)); exact HO_8.out) (Kd.R_base ho27) hb)
                          have n1_ := Aside0.mk (Kd.R_lower ho27 (below_size (by repeat (first | (with_reducible first | exact HB.out | apply below_alloc | apply pw_below_drewN | apply below_drew1 | refine below_set ?_ GE257.out) | exact HB.out))))
                          have n2_ := Aside0.mk (blk_below (g := gb257) (o := .cells #[.int .i64 t247, .int .i64 t248, .int .i64 t249, .int .i64 t250, .int .i64 t251, .int .i64 t252, .int .i64 t253, .int .i64 t254, .int .i64 t255] 26 (0, 0)) (by (with_reducible repeat (first | refine blk_drewN ?_ _ | refine blk_drew ?_ | refine blk_alloc ?_ _)); exact BK257.out) hb)
                          have n3_ := Aside0.mk (below_step (by repeat (first | (with_reducible first | exact HB.out | apply below_alloc | apply pw_below_drewN | apply below_drew1 | refine below_set ?_ GE257.out) | exact HB.out)) hb)
                          clear HO_8
                          clear BK257
                          clear HB
                          have HO_8 := n0_
                          have HO268 := n1_
                          have BK257 := n2_
                          have HB := n3_
                          clear n0_ n1_ n2_ n3_
                          clear hb ho27
                          refine hK.out _ _ trivial (fun hHeld => ?_)
                          clear hK K
                          refine norm_ (a' := ?_) ?_ ?_
                          rotate_left
                          · show Act.put _ (some 43) _ = _
                            simp only [Act.put, List.setIfInBounds_toArray, List.set_cons_zero, List.set_cons_succ, i64_w, i32_w]
                            rfl
                          refine pure_ (i := 4) (N := some 13) (v := ?_) (a' := ?_) #[true, true, true, true, true] rfl rfl (by kernel_rfl) (fun _ _ _ h => h) (Or.inl ⟨by rfl, ?_⟩) ?_ ?_
                          rotate_left
                          · intro w'
                            go_simp
                            with_reducible rfl
                          rotate_left
                          · simp only [Act.put, List.setIfInBounds_toArray, List.set_cons_zero, List.set_cons_succ, i64_w, i32_w]
                            rfl
                          refine done_ (by kernel_rfl) ?_
                          have hcz28_0 : w26.cell? ⟨gb257, 0, none⟩ = some (.int .i64 t247) := (blk_cell BK257.out 0).trans rfl
                          have hcz28_1 : w26.cell? ⟨gb257, 1, none⟩ = some (.int .i64 t248) := (blk_cell BK257.out 1).trans rfl
                          have hcz28_2 : w26.cell? ⟨gb257, 2, none⟩ = some (.int .i64 t249) := (blk_cell BK257.out 2).trans rfl
                          have hcz28_3 : w26.cell? ⟨gb257, 3, none⟩ = some (.int .i64 t250) := (blk_cell BK257.out 3).trans rfl
                          have hcz28_4 : w26.cell? ⟨gb257, 4, none⟩ = some (.int .i64 t251) := (blk_cell BK257.out 4).trans rfl
                          have hcz28_5 : w26.cell? ⟨gb257, 5, none⟩ = some (.int .i64 t252) := (blk_cell BK257.out 5).trans rfl
                          have hcz28_6 : w26.cell? ⟨gb257, 6, none⟩ = some (.int .i64 t253) := (blk_cell BK257.out 6).trans rfl
                          have hcz28_7 : w26.cell? ⟨gb257, 7, none⟩ = some (.int .i64 t254) := (blk_cell BK257.out 7).trans rfl
                          have hcz28_8 : w26.cell? ⟨gb257, 8, none⟩ = some (.int .i64 t255) := (blk_cell BK257.out 8).trans rfl
                          have hfz28_0 := blk_frozen BK257.out 0
                          have hfz28_1 := blk_frozen BK257.out 1
                          have hfz28_2 := blk_frozen BK257.out 2
                          have hfz28_3 := blk_frozen BK257.out 3
                          have hfz28_4 := blk_frozen BK257.out 4
                          have hfz28_5 := blk_frozen BK257.out 5
                          have hfz28_6 := blk_frozen BK257.out 6
                          have hfz28_7 := blk_frozen BK257.out 7
                          have hfz28_8 := blk_frozen BK257.out 8
                          try go_wp2_with (first | ((with_reducible refine gate_callee (f := 27) rfl ?_); refine goesL_ (some 54) rfl rfl Tryd.func27 (by kernel_rfl) rfl #[.int .i64 4] rfl (by (try simp only [List.map_toArray, List.map_cons, List.map_nil]); first | done | rfl | (simp only [List.length_drop, List.length_take]; rfl)) ?_; (with_reducible refine (lay_fault.calls 4 t272 _ A24.out).mono ?_); rintro e w29 ⟨v273, rfl, ho0, hb⟩; refine ⟨_, rfl, ?_⟩; have n0_ := Aside0.mk (Kd.S_below (by (with_reducible repeat (first | apply Kd.S_alloc | apply Kd.S_drewN | apply Kd.S_drew)); exact HO_8.out) hb); have n1_ := Aside0.mk (Kd.R_below (by (with_reducible repeat (first | apply Kd.R_alloc | apply Kd.R_drewN | apply Kd.R_drew)); exact HO268.out) hb); have n2_ := Aside0.mk (Kd.R_lower ho0 (below_size (by repeat (first | (with_reducible first | exact HB.out | apply below_alloc | apply pw_below_drewN | apply below_drew1 | refine below_set ?_ GE257.out) | exact HB.out)))); have n3_ := Aside0.mk (blk_below (g := gb257) (o := .cells #[.int .i64 t247, .int .i64 t248, .int .i64 t249, .int .i64 t250, .int .i64 t251, .int .i64 t252, .int .i64 t253, .int .i64 t254, .int .i64 t255] 26 (0, 0)) (by (with_reducible repeat (first | refine blk_drewN ?_ _ | refine blk_drew ?_ | refine blk_alloc ?_ _)); exact BK257.out) hb); have n4_ := Aside0.mk (below_step (by repeat (first | (with_reducible first | exact HB.out | apply below_alloc | apply pw_below_drewN | apply below_drew1 | refine below_set ?_ GE257.out) | exact HB.out)) hb); clear HO_8; clear HO268; clear BK257; clear HB; have HO_8 := n0_; have HO268 := n1_; have HO274 := n2_; have BK257 := n3_; have HB := n4_; clear n0_ n1_ n2_ n3_ n4_; (try clear hb); (try clear hb2); (try clear hk); (try clear hi); (try clear ho0); (try clear A24)))
                          go_ret2
                          exact ⟨_, _, by first | rfl | (simp [errW_none, errW_some] <;> rfl) | (simp [*, errW_none, errW_some] <;> rfl), by first | exact Kd.S_nil _ _ _ _ _ | exact Kd.N_nil _ _ _ _ _ | exact Kd.V_nil _ _ _ _ _ | exact Kd.Q_nil _ _ _ _ _ | exact Kd.R_nil _ _ _ _ _, by (with_reducible repeat (first | apply Kd.R_alloc | apply Kd.R_drewN | apply Kd.R_drew)); exact HO274.out, by repeat (first | (with_reducible first | exact HB.out | apply below_alloc | apply pw_below_drewN | apply below_drew1 | refine below_set ?_ GE257.out) | exact HB.out)⟩
                        · rw [if_neg c23] at H
                          have c23b0 : decide ((wrap64 (rd (l1.drop (t252 : Int).toNat) x37_1)) < x9_1) = false := decide_eq_false c23
                          clear c23
                          have H' := Aside0.mk H
                          clear H
                          have p265 : 0 ≤ (x37_1 : Int) := of_decide_eq_true (by first | (with_reducible assumption) | assumption)
                          have q265 : x37_1 < ((l1.drop (t252 : Int).toNat).length : Int) := of_decide_eq_true (by first | (with_reducible assumption) | assumption)
                          obtain ⟨ad265, e265, hx265_0⟩ := Kd.at_int HR264.out x37_1 p265 q265
                          cases e265
                          replace hx265_0 := (HB.out.cell (World.block_lt_of_cell? w _ hx265_0)).trans hx265_0
                          replace p265 := eq_true p265
                          replace q265 := eq_true q265
                          have q265q := q265; rw [List.length_drop] at q265q
                          try go_wp2
                          have n0_ := Aside0.mk (Kd.S_drew HO_8.out)
                          have n1_ := Aside0.mk (blk_drew BK257.out)
                          have n2_ := Aside0.mk (below_drew1 HB.out)
                          clear HO_8
                          clear BK257
                          clear HB
                          have HO_8 := n0_
                          have BK257 := n1_
                          have HB := n2_
                          clear n0_ n1_ n2_
                          refine start_ (n := 5) (S := fun w' => True) (ds := []) #[false, false, false, false, false] (by kernel_rfl) rfl rfl trivial (fun hHeld => ?_)
                          generalize wr.drew = w30 at HO_8 BK257 HB hHeld ⊢
                          refine pure_ (i := 0) (N := some 41) (v := ?_) (a' := ?_) #[true, false, false, false, false] rfl rfl (by kernel_rfl) (fun _ _ _ h => h) (Or.inl ⟨by rfl, ?_⟩) ?_ ?_
                          rotate_left
                          · intro w'
                            go_simp
                            with_reducible rfl
                          rotate_left
                          · simp only [Act.put, List.setIfInBounds_toArray, List.set_cons_zero, List.set_cons_succ, i64_w, i32_w]
                            rfl
                          refine pure_ (i := 1) (N := some 42) (v := ?_) (a' := ?_) #[true, true, false, false, false] rfl rfl (by kernel_rfl) (fun _ _ _ h => h) (Or.inl ⟨by rfl, ?_⟩) ?_ ?_
                          rotate_left
                          · intro w'
                            go_simp
                            with_reducible rfl
                          rotate_left
                          · simp only [Act.put, List.setIfInBounds_toArray, List.set_cons_zero, List.set_cons_succ, i64_w, i32_w]
                            rfl
                          refine pure_ (i := 3) (N := some 12) (v := ?_) (a' := ?_) #[true, true, false, true, false] rfl rfl (by kernel_rfl) (fun _ _ _ h => h) (Or.inl ⟨by rfl, ?_⟩) ?_ ?_
                          rotate_left
                          · intro w'
                            go_simp
                            with_reducible rfl
                          rotate_left
                          · simp only [Act.put, List.setIfInBounds_toArray, List.set_cons_zero, List.set_cons_succ, i64_w, i32_w]
                            rfl
                          refine one_ (i := 2) (N := some 43) #[true, true, true, true, false] rfl rfl (by kernel_rfl) (by decide) (fun K hK => ?_)
                          refine Kd.R_make_step (Kd.int .i64) _ 3 (by rfl) (N := 43) rfl 22 _ _ rfl 256 rfl rfl Tryd.underlying22 (.int .i64 0) 8 info3 rfl (by decide) (by omega) 0 (ok := fun _ => True) (okp := fun _ => True) rfl (fun _ hk => hk) trivial (by omega) (by omega) (Below.refl _ _) (Nat.le_refl _) ?_
                          intro v267 w31 ho32 hb hg_ hnew_
                          clear hg_ hnew_
                          (first | rw [← Ny266.out] at ho32 | (simp only [Int.reduceToNat] at ho32; rw [← Ny266.out] at ho32))
                          have n0_ := Aside0.mk (Kd.S_elder' (by (with_reducible repeat (first | apply Kd.S_alloc | apply Kd.S_drewN | apply Kd.S_drew)); exact HO_8.out) (Kd.R_base ho32) hb)
                          have n1_ := Aside0.mk (Kd.R_lower ho32 (below_size (by repeat (first | (with_reducible first | exact HB.out | apply below_alloc | apply pw_below_drewN | apply below_drew1 | refine below_set ?_ GE257.out) | exact HB.out))))
                          have n2_ := Aside0.mk (blk_below (g := gb257) (o := .cells #[.int .i64 t247, .int .i64 t248, .int .i64 t249, .int .i64 t250, .int .i64 t251, .int .i64 t252, .int .i64 t253, .int .i64 t254, .int .i64 t255] 26 (0, 0)) (by (with_reducible repeat (first | refine blk_drewN ?_ _ | refine blk_drew ?_ | refine blk_alloc ?_ _)); exact BK257.out) hb)
                          have n3_ := Aside0.mk (below_step (by repeat (first | (with_reducible first | exact HB.out | apply below_alloc | apply pw_below_drewN | apply below_drew1 | refine below_set ?_ GE257.out) | exact HB.out)) hb)
                          clear HO_8
                          clear BK257
                          clear HB
                          have HO_8 := n0_
                          have HO268 := n1_
                          have BK257 := n2_
                          have HB := n3_
                          clear n0_ n1_ n2_ n3_
                          clear hb ho32
                          refine hK.out _ _ trivial (fun hHeld => ?_)
                          clear hK K
                          refine norm_ (a' := ?_) ?_ ?_
                          rotate_left
                          · show Act.put _ (some 43) _ = _
                            simp only [Act.put, List.setIfInBounds_toArray, List.set_cons_zero, List.set_cons_succ, i64_w, i32_w]
                            rfl
                          refine pure_ (i := 4) (N := some 13) (v := ?_) (a' := ?_) #[true, true, true, true, true] rfl rfl (by kernel_rfl) (fun _ _ _ h => h) (Or.inl ⟨by rfl, ?_⟩) ?_ ?_
                          rotate_left
                          · intro w'
                            go_simp
                            with_reducible rfl
                          rotate_left
                          · simp only [Act.put, List.setIfInBounds_toArray, List.set_cons_zero, List.set_cons_succ, i64_w, i32_w]
                            rfl
                          refine done_ (by kernel_rfl) ?_
                          have hcz33_0 : w31.cell? ⟨gb257, 0, none⟩ = some (.int .i64 t247) := (blk_cell BK257.out 0).trans rfl
                          have hcz33_1 : w31.cell? ⟨gb257, 1, none⟩ = some (.int .i64 t248) := (blk_cell BK257.out 1).trans rfl
                          have hcz33_2 : w31.cell? ⟨gb257, 2, none⟩ = some (.int .i64 t249) := (blk_cell BK257.out 2).trans rfl
                          have hcz33_3 : w31.cell? ⟨gb257, 3, none⟩ = some (.int .i64 t250) := (blk_cell BK257.out 3).trans rfl
                          have hcz33_4 : w31.cell? ⟨gb257, 4, none⟩ = some (.int .i64 t251) := (blk_cell BK257.out 4).trans rfl
                          have hcz33_5 : w31.cell? ⟨gb257, 5, none⟩ = some (.int .i64 t252) := (blk_cell BK257.out 5).trans rfl
                          have hcz33_6 : w31.cell? ⟨gb257, 6, none⟩ = some (.int .i64 t253) := (blk_cell BK257.out 6).trans rfl
                          have hcz33_7 : w31.cell? ⟨gb257, 7, none⟩ = some (.int .i64 t254) := (blk_cell BK257.out 7).trans rfl
                          have hcz33_8 : w31.cell? ⟨gb257, 8, none⟩ = some (.int .i64 t255) := (blk_cell BK257.out 8).trans rfl
                          have hfz33_0 := blk_frozen BK257.out 0
                          have hfz33_1 := blk_frozen BK257.out 1
                          have hfz33_2 := blk_frozen BK257.out 2
                          have hfz33_3 := blk_frozen BK257.out 3
                          have hfz33_4 := blk_frozen BK257.out 4
                          have hfz33_5 := blk_frozen BK257.out 5
                          have hfz33_6 := blk_frozen BK257.out 6
                          have hfz33_7 := blk_frozen BK257.out 7
                          have hfz33_8 := blk_frozen BK257.out 8
                          try go_wp2
                          go_loopg [9] k1 (fun kq v9 w' => ∃ (x9_2 : Int) (x13_2 : List Int), v9 = .int .i64 x9_2 ∧ Aside0 (lay_Unhint.l1 kq l1 x8_1 x9_2 (wrap64 (rd (l1.drop (t252 : Int).toNat) x37_1)) x13_2 x9_1 (l1.drop (t252 : Int).toNat) ((l1.drop (t252 : Int).toNat).length : Int) x37_1 t247 t248 t249 t250 t251 t252 t253 t254 t255 = some (r1, r2)) ∧ Aside0 (kq ≤ k1) ∧ Aside0 (Kd.S (Kd.slice 3 (Kd.int .i64)) 22 w' w.heap.size (fun k_ => some k_ ≠ (v267 : Value).ownBlock) u8 x8_1) ∧ Aside0 (Kd.R (Kd.int .i64) 3 w' w.heap.size (fun _ => True) v267 x13_2) ∧ Aside0 (w'.heap[gb257]? = some (.cells #[.int .i64 t247, .int .i64 t248, .int .i64 t249, .int .i64 t250, .int .i64 t251, .int .i64 t252, .int .i64 t253, .int .i64 t254, .int .i64 t255] 26 (0, 0))) ∧ Aside0 (Below w.heap.size w w'))
                          case atStart => exact ⟨(x9_1), (y266), (by first | rfl | (simp; done) | (simp [*]; done)), H', ⟨Nat.le_refl _⟩, ⟨by (with_reducible repeat (first | apply Kd.S_alloc | apply Kd.S_drewN | apply Kd.S_drew)); exact Kd.S_mono HO_8.out (fun _ hk => hk.2)⟩, ⟨by (with_reducible repeat (first | apply Kd.R_alloc | apply Kd.R_drewN | apply Kd.R_drew)); exact HO268.out⟩, ⟨by (with_reducible repeat (first | refine blk_drewN ?_ _ | refine blk_drew ?_ | refine blk_alloc ?_ _)); exact BK257.out⟩, ⟨by repeat (first | (with_reducible first | exact HB.out | apply below_alloc | apply pw_below_drewN | apply below_drew1 | refine below_set ?_ GE257.out) | exact HB.out)⟩⟩
                          case round =>
                            clear H'
                            try clear c1
                            try clear c2
                            try clear p2
                            try clear q2
                            try clear hx2
                            try clear c4
                            try clear c5
                            try clear c5b0
                            try clear c5b0q
                            try clear c5b1
                            try clear c6
                            try clear c6b0
                            try clear c6b0q
                            try clear c6b1
                            try clear p6
                            try clear c7
                            try clear c7b0
                            try clear c7b0q
                            try clear c7b1
                            try clear c8
                            try clear c12
                            try clear c12b0
                            try clear c12b0q
                            try clear c13
                            try clear c13b0
                            try clear c13b0q
                            try clear c14
                            try clear c14b0
                            try clear c14b0q
                            try clear c15
                            try clear c15b0
                            try clear c15b0q
                            try clear c15b1
                            try clear c16
                            try clear c16b0
                            try clear c16b0q
                            try clear c23
                            try clear c23b0
                            try clear c23b0q
                            try clear p26
                            try clear q26
                            try clear hx26
                            try clear c27
                            try clear hcz10_0
                            try clear hcz10_1
                            try clear hcz10_2
                            try clear hcz10_3
                            try clear hcz10_4
                            try clear hcz10_5
                            try clear hcz10_6
                            try clear hcz10_7
                            try clear hcz10_8
                            try clear hcz21_0
                            try clear hcz21_1
                            try clear hcz21_2
                            try clear hcz21_3
                            try clear hcz21_4
                            try clear hcz21_5
                            try clear hcz21_6
                            try clear hcz21_7
                            try clear hcz21_8
                            try clear hcz28_0
                            try clear hcz28_1
                            try clear hcz28_2
                            try clear hcz28_3
                            try clear hcz28_4
                            try clear hcz28_5
                            try clear hcz28_6
                            try clear hcz28_7
                            try clear hcz28_8
                            try clear hcz33_0
                            try clear hcz33_1
                            try clear hcz33_2
                            try clear hcz33_3
                            try clear hcz33_4
                            try clear hcz33_5
                            try clear hcz33_6
                            try clear hcz33_7
                            try clear hcz33_8
                            try clear hfz10_0
                            try clear hfz10_1
                            try clear hfz10_2
                            try clear hfz10_3
                            try clear hfz10_4
                            try clear hfz10_5
                            try clear hfz10_6
                            try clear hfz10_7
                            try clear hfz10_8
                            try clear hfz21_0
                            try clear hfz21_1
                            try clear hfz21_2
                            try clear hfz21_3
                            try clear hfz21_4
                            try clear hfz21_5
                            try clear hfz21_6
                            try clear hfz21_7
                            try clear hfz21_8
                            try clear hfz28_0
                            try clear hfz28_1
                            try clear hfz28_2
                            try clear hfz28_3
                            try clear hfz28_4
                            try clear hfz28_5
                            try clear hfz28_6
                            try clear hfz28_7
                            try clear hfz28_8
                            try clear hfz33_0
                            try clear hfz33_1
                            try clear hfz33_2
                            try clear hfz33_3
                            try clear hfz33_4
                            try clear hfz33_5
                            try clear hfz33_6
                            try clear hfz33_7
                            try clear hfz33_8
                            try clear hx265_0
                            try clear p2
                            try clear p265
                            try clear p6
                            try clear q265
                            obtain ⟨x9_2, x13_2, rfl, HA, HK2, HO_8, HO_13, BK257, HB⟩ := hrel
                            cases gk with
                            | zero => exact absurd HA.out (by simp [lay_Unhint.l1])
                            | succ k2 =>
                              have H := HA.out
                              clear HA
                              simp only [lay_Unhint.l1] at H
                              by_cases c34 : x9_2 < (wrap64 (rd (l1.drop (t252 : Int).toNat) x37_1))
                              · rw [if_pos c34] at H
                                have c34b0 : decide (x9_2 < (wrap64 (rd (l1.drop (t252 : Int).toNat) x37_1))) = true := decide_eq_true c34
                                clear c34
                                by_cases c35 : x9_2 > x9_1
                                · rw [if_pos c35] at H
                                  have c35b0 : decide (x9_1 < x9_2) = true := decide_eq_true c35
                                  clear c35
                                  by_cases c36 : 0 ≤ x9_2
                                  · rw [if_pos c36] at H
                                    have c36b0 : decide (0 ≤ x9_2) = true := decide_eq_true c36
                                    clear c36
                                    by_cases c37 : x9_2 < (l1.length : Int)
                                    · rw [if_pos c37] at H
                                      have c37b0 : decide (x9_2 < (l1.length : Int)) = true := decide_eq_true c37
                                      clear c37
                                      obtain ⟨ji38, hji38⟩ : ∃ j_ : Int, (wrap64 (x9_2 - 1)) = j_ := ⟨_, rfl⟩
                                      replace H : (if 0 ≤ (ji38) then (if (ji38) < (l1.length : Int) then (if (rd l1 x9_2) ≤ (rd l1 (ji38)) then ((lay_fault.f 4).bind fun t277 => (some (([] : List (List Int)), t277))) else (if 0 ≤ (rd l1 x9_2) then (if (rd l1 x9_2) < (x13_2.length : Int) then (lay_Unhint.l1 k2 l1 x8_1 (wrap64 (x9_2 + 1)) (wrap64 (rd (l1.drop (t252 : Int).toNat) x37_1)) (x13_2.set ((rd l1 x9_2) : Int).toNat 1) x9_1 (l1.drop (t252 : Int).toNat) ((l1.drop (t252 : Int).toNat).length : Int) x37_1 t247 t248 t249 t250 t251 t252 t253 t254 t255) else (none)) else (none))) else (none)) else (none)) = some (r1, r2) := by first | (rw [hji38] at H; exact H) | (simp only [hji38] at H ⊢; exact H)
                                      have hji38w : (IntKind.i64.wrap (x9_2 - 1)) = ji38 := (i64_w _).trans hji38
                                      by_cases c39 : 0 ≤ (ji38)
                                      · rw [if_pos c39] at H
                                        have c39b0 : decide (0 ≤ (ji38)) = true := decide_eq_true c39
                                        clear c39
                                        by_cases c40 : (ji38) < (l1.length : Int)
                                        · rw [if_pos c40] at H
                                          have c40b0 : decide ((ji38) < (l1.length : Int)) = true := decide_eq_true c40
                                          clear c40
                                          by_cases c41 : (rd l1 x9_2) ≤ (rd l1 (ji38))
                                          · rw [if_pos c41] at H
                                            have c41b0 : decide ((rd l1 x9_2) ≤ (rd l1 (ji38))) = true := decide_eq_true c41
                                            clear c41
                                            replace H := Option.bind_eq_some_iff.mp H
                                            obtain ⟨t277, A420, H⟩ := H
                                            replace H : (some (([] : List (List Int)), t277)) = some (r1, r2) := H
                                            have A42 := Aside0.mk A420
                                            clear A420
                                            simp only [Option.some.injEq, Prod.mk.injEq] at H
                                            obtain ⟨rfl, rfl⟩ := H
                                            try go_wp2
                                            have n0_ := Aside0.mk (Kd.S_drew HO_8.out)
                                            have n1_ := Aside0.mk (Kd.R_drew HO_13.out)
                                            have n2_ := Aside0.mk (blk_drew BK257.out)
                                            have n3_ := Aside0.mk (below_drew1 HB.out)
                                            clear HO_8
                                            clear HO_13
                                            clear BK257
                                            clear HB
                                            have HO_8 := n0_
                                            have HO_13 := n1_
                                            have BK257 := n2_
                                            have HB := n3_
                                            clear n0_ n1_ n2_ n3_
                                            have p275 : 0 ≤ (x9_2 : Int) := of_decide_eq_true (by first | (with_reducible assumption) | assumption)
                                            have q275 : x9_2 < (l1.length : Int) := of_decide_eq_true (by first | (with_reducible assumption) | assumption)
                                            obtain ⟨ad275, e275, hx275_0⟩ := Kd.at_int HR1.out x9_2 p275 q275
                                            have hw275_0 := hx275_0
                                            cases e275
                                            replace hx275_0 := (HB.out.cell (World.block_lt_of_cell? w _ hx275_0)).trans hx275_0
                                            replace p275 := eq_true p275
                                            replace q275 := eq_true q275
                                            have p276 : 0 ≤ ((ji38) : Int) := of_decide_eq_true (by first | (with_reducible assumption) | assumption)
                                            have q276 : (ji38) < (l1.length : Int) := of_decide_eq_true (by first | (with_reducible assumption) | assumption)
                                            obtain ⟨ad276, e276, hx276_0⟩ := Kd.at_int HR1.out (ji38) p276 q276
                                            have hw276_0 := hx276_0
                                            obtain rfl : ad275 = ad276 := (by injection e276)
                                            replace hx276_0 := (HB.out.cell (World.block_lt_of_cell? w _ hx276_0)).trans hx276_0
                                            replace p276 := eq_true p276
                                            replace q276 := eq_true q276
                                            refine start_ (n := 15) (S := fun w' => w'.cell? (ad275.add (x9_2).toNat) = some (.int .u8 (rd l1 x9_2)) ∧ w'.cell? (ad275.add ((ji38)).toNat) = some (.int .u8 (rd l1 (ji38)))) (ds := []) #[false, false, false, false, false, false, false, false, false, false, false, false, false, false, false] (by kernel_rfl) rfl rfl ⟨((HB.out.cell (World.block_lt_of_cell? w _ hw275_0)).trans hw275_0), ((HB.out.cell (World.block_lt_of_cell? w _ hw276_0)).trans hw276_0)⟩ (fun hHeld => ?_); refine with_tabW lay_Unhint.tab18 lay_Unhint.bits18 (fun HT_ HW_ => ?_)
                                            generalize wr.drew = w43 at HO_8 HO_13 BK257 HB hx275_0 hx276_0 hHeld ⊢
                                            refine pure_ (i := 0) (N := some 60) (v := ?_) (a' := ?_) #[true, false, false, false, false, false, false, false, false, false, false, false, false, false, false] rfl rfl (any_of HT_.out (by kernel_rfl)) (fun _ _ _ h => h) (Or.inl ⟨by rfl, ?_⟩) ?_ ?_
                                            rotate_left
                                            · intro w'
                                              go_simp
                                              with_reducible rfl
                                            rotate_left
                                            · simp only [Act.put, List.setIfInBounds_toArray, List.set_cons_zero, List.set_cons_succ, i64_w, i32_w]
                                              rfl
                                            refine pure_ (i := 1) (N := some 61) (v := ?_) (a' := ?_) #[true, true, false, false, false, false, false, false, false, false, false, false, false, false, false] rfl rfl (any_of HT_.out (by kernel_rfl)) (fun _ _ _ h => h) (Or.inl ⟨by rfl, ?_⟩) ?_ ?_
                                            rotate_left
                                            · intro w'
                                              go_simp
                                              with_reducible rfl
                                            rotate_left
                                            · simp only [Act.put, List.setIfInBounds_toArray, List.set_cons_zero, List.set_cons_succ, i64_w, i32_w]
                                              rfl
                                            refine pure_ (i := 2) (N := some 62) (v := ?_) (a' := ?_) #[true, true, true, false, false, false, false, false, false, false, false, false, false, false, false] rfl rfl (any_of HT_.out (by kernel_rfl)) (fun _ _ _ h => h) (Or.inl ⟨by rfl, ?_⟩) ?_ ?_
                                            rotate_left
                                            · intro w'
                                              go_simp
                                              with_reducible rfl
                                            rotate_left
                                            · simp only [Act.put, List.setIfInBounds_toArray, List.set_cons_zero, List.set_cons_succ, i64_w, i32_w]
                                              rfl
                                            refine pure_ (i := 3) (N := some 63) (v := ?_) (a' := ?_) #[true, true, true, true, false, false, false, false, false, false, false, false, false, false, false] rfl rfl (any_of HT_.out (by kernel_rfl)) (fun _ _ _ h => h) (Or.inl ⟨by rfl, ?_⟩) ?_ ?_
                                            rotate_left
                                            · intro w'
                                              go_simp
                                              with_reducible rfl
                                            rotate_left
                                            · simp only [Act.put, List.setIfInBounds_toArray, List.set_cons_zero, List.set_cons_succ, i64_w, i32_w]
                                              rfl
                                            refine pure_ (i := 4) (N := some 64) (v := ?_) (a' := ?_) #[true, true, true, true, true, false, false, false, false, false, false, false, false, false, false] rfl rfl (any_of HT_.out (by kernel_rfl)) (fun _ _ _ h => h) (Or.inl ⟨by rfl, ?_⟩) ?_ ?_
                                            rotate_left
                                            · intro w'
                                              go_simp
                                              with_reducible rfl
                                            rotate_left
                                            · simp only [Act.put, List.setIfInBounds_toArray, List.set_cons_zero, List.set_cons_succ, i64_w, i32_w]
                                              rfl
                                            refine pure_ (i := 5) (N := some 65) (v := ?_) (a' := ?_) #[true, true, true, true, true, true, false, false, false, false, false, false, false, false, false] rfl rfl (any_of HT_.out (by kernel_rfl)) (fun _ _ _ h => h) (Or.inl ⟨by rfl, ?_⟩) ?_ ?_
                                            rotate_left
                                            · intro w'
                                              go_simp
                                              with_reducible rfl
                                            rotate_left
                                            · simp only [Act.put, List.setIfInBounds_toArray, List.set_cons_zero, List.set_cons_succ, i64_w, i32_w]
                                              rfl
                                            refine pure_ (i := 6) (N := some 66) (v := ?_) (a' := ?_) #[true, true, true, true, true, true, true, false, false, false, false, false, false, false, false] rfl rfl (any_of HT_.out (by kernel_rfl)) (fun _ _ _ h => h) (Or.inl ⟨by rfl, ?_⟩) ?_ ?_
                                            rotate_left
                                            · intro w'
                                              go_simp
                                              with_reducible rfl
                                            rotate_left
                                            · simp only [Act.put, List.setIfInBounds_toArray, List.set_cons_zero, List.set_cons_succ, i64_w, i32_w]
                                              rfl
                                            refine pure_ (i := 8) (N := some 68) (v := ?_) (a' := ?_) #[true, true, true, true, true, true, true, false, true, false, false, false, false, false, false] rfl rfl (any_of HT_.out (by kernel_rfl)) (fun _ _ _ h => h) (Or.inl ⟨by rfl, ?_⟩) ?_ ?_
                                            rotate_left
                                            · intro w'
                                              go_simp
                                              with_reducible rfl
                                            rotate_left
                                            · simp only [Act.put, List.setIfInBounds_toArray, List.set_cons_zero, List.set_cons_succ, i64_w, i32_w]
                                              rfl
                                            refine pure_ (i := 9) (N := some 69) (v := ?_) (a' := ?_) #[true, true, true, true, true, true, true, false, true, true, false, false, false, false, false] rfl rfl (any_of HT_.out (by kernel_rfl)) (fun _ _ _ h => h) (Or.inl ⟨by rfl, ?_⟩) ?_ ?_
                                            rotate_left
                                            · intro w'
                                              go_simp
                                              with_reducible rfl
                                            rotate_left
                                            · simp only [Act.put, List.setIfInBounds_toArray, List.set_cons_zero, List.set_cons_succ, i64_w, i32_w]
                                              rfl
                                            refine pure_ (i := 10) (N := some 70) (v := ?_) (a' := ?_) #[true, true, true, true, true, true, true, false, true, true, true, false, false, false, false] rfl rfl (any_of HT_.out (by kernel_rfl)) (fun _ _ _ h => h) (Or.inl ⟨by rfl, ?_⟩) ?_ ?_
                                            rotate_left
                                            · intro w'
                                              go_simp
                                              with_reducible rfl
                                            rotate_left
                                            · simp only [Act.put, List.setIfInBounds_toArray, List.set_cons_zero, List.set_cons_succ, i64_w, i32_w]
                                              rfl
                                            refine pure_ (i := 11) (N := some 71) (v := ?_) (a' := ?_) #[true, true, true, true, true, true, true, false, true, true, true, true, false, false, false] rfl rfl (any_of HT_.out (by kernel_rfl)) (fun _ _ _ h => h) (Or.inl ⟨by rfl, ?_⟩) ?_ ?_
                                            rotate_left
                                            · intro w'
                                              go_simp
                                              with_reducible rfl
                                            rotate_left
                                            · simp only [Act.put, List.setIfInBounds_toArray, List.set_cons_zero, List.set_cons_succ, i64_w, i32_w]
                                              rfl
                                            refine take_ (i := 7) (N := some 67) (v := ?_) (a' := ?_) #[true, true, true, true, true, true, true, true, true, true, true, true, false, false, false] rfl rfl (take_ofW HT_.out HW_.out (by kernel_rfl)) (fun _ _ _ h => h) (Or.inl ⟨by rfl, ?_⟩) hHeld ?_ ?_
                                            rotate_left
                                            · rintro w' ⟨s0, s1⟩
                                              go_simp
                                              with_reducible rfl
                                            rotate_left
                                            · simp only [Act.put, List.setIfInBounds_toArray, List.set_cons_zero, List.set_cons_succ, i64_w, i32_w]
                                              rfl
                                            refine take_ (i := 12) (N := some 72) (v := ?_) (a' := ?_) #[true, true, true, true, true, true, true, true, true, true, true, true, true, false, false] rfl rfl (take_ofW HT_.out HW_.out (by kernel_rfl)) (fun _ _ _ h => h) (Or.inl ⟨by rfl, ?_⟩) hHeld ?_ ?_
                                            rotate_left
                                            · rintro w' ⟨s0, s1⟩
                                              go_simp
                                              with_reducible rfl
                                            rotate_left
                                            · simp only [Act.put, List.setIfInBounds_toArray, List.set_cons_zero, List.set_cons_succ, i64_w, i32_w]
                                              rfl
                                            refine pure_ (i := 13) (N := some 73) (v := ?_) (a' := ?_) #[true, true, true, true, true, true, true, true, true, true, true, true, true, true, false] rfl rfl (any_of HT_.out (by kernel_rfl)) (fun _ _ _ h => h) (Or.inl ⟨by rfl, ?_⟩) ?_ ?_
                                            rotate_left
                                            · intro w'
                                              go_simp
                                              with_reducible rfl
                                            rotate_left
                                            · simp only [Act.put, List.setIfInBounds_toArray, List.set_cons_zero, List.set_cons_succ, i64_w, i32_w]
                                              rfl
                                            refine pure_ (i := 14) (N := some 74) (v := ?_) (a' := ?_) #[true, true, true, true, true, true, true, true, true, true, true, true, true, true, true] rfl rfl (any_of HT_.out (by kernel_rfl)) (fun _ _ _ h => h) (Or.inl ⟨by rfl, ?_⟩) ?_ ?_
                                            rotate_left
                                            · intro w'
                                              go_simp
                                              with_reducible rfl
                                            rotate_left
                                            · simp only [Act.put, List.setIfInBounds_toArray, List.set_cons_zero, List.set_cons_succ, i64_w, i32_w]
                                              rfl
                                            refine done_ (done_of HT_.out (by kernel_rfl)) ?_
                                            try go_wp2_with (first | ((with_reducible refine gate_callee (f := 27) rfl ?_); refine goesL_ (some 75) rfl rfl Tryd.func27 (by kernel_rfl) rfl #[.int .i64 4] rfl (by (try simp only [List.map_toArray, List.map_cons, List.map_nil]); first | done | rfl | (simp only [List.length_drop, List.length_take]; rfl)) ?_; (with_reducible refine (lay_fault.calls 4 t277 _ A42.out).mono ?_); rintro e w44 ⟨v278, rfl, ho0, hb⟩; refine ⟨_, rfl, ?_⟩; have n0_ := Aside0.mk (Kd.S_below (by (with_reducible repeat (first | apply Kd.S_alloc | apply Kd.S_drewN | apply Kd.S_drew)); exact HO_8.out) hb); have n1_ := Aside0.mk (Kd.R_below (by (with_reducible repeat (first | apply Kd.R_alloc | apply Kd.R_drewN | apply Kd.R_drew)); exact HO_13.out) hb); have n2_ := Aside0.mk (Kd.R_lower ho0 (below_size (by repeat (first | (with_reducible first | exact HB.out | apply below_alloc | apply pw_below_drewN | apply below_drew1 | refine below_set ?_ GE257.out) | exact HB.out)))); have n3_ := Aside0.mk (blk_below (g := gb257) (o := .cells #[.int .i64 t247, .int .i64 t248, .int .i64 t249, .int .i64 t250, .int .i64 t251, .int .i64 t252, .int .i64 t253, .int .i64 t254, .int .i64 t255] 26 (0, 0)) (by (with_reducible repeat (first | refine blk_drewN ?_ _ | refine blk_drew ?_ | refine blk_alloc ?_ _)); exact BK257.out) hb); have n4_ := Aside0.mk (below_step (by repeat (first | (with_reducible first | exact HB.out | apply below_alloc | apply pw_below_drewN | apply below_drew1 | refine below_set ?_ GE257.out) | exact HB.out)) hb); clear HO_8; clear HO_13; clear BK257; clear HB; have HO_8 := n0_; have HO_13 := n1_; have HO279 := n2_; have BK257 := n3_; have HB := n4_; clear n0_ n1_ n2_ n3_ n4_; (try clear hb); (try clear hb2); (try clear hk); (try clear hi); (try clear ho0); (try clear A42)))
                                            go_ret2
                                            exact ⟨_, _, by first | rfl | (simp [errW_none, errW_some] <;> rfl) | (simp only [← hji38]; first | rfl | (simp [errW_none, errW_some] <;> rfl)) | (simp [*, errW_none, errW_some] <;> rfl), by first | exact Kd.S_nil _ _ _ _ _ | exact Kd.N_nil _ _ _ _ _ | exact Kd.V_nil _ _ _ _ _ | exact Kd.Q_nil _ _ _ _ _ | exact Kd.R_nil _ _ _ _ _, by (with_reducible repeat (first | apply Kd.R_alloc | apply Kd.R_drewN | apply Kd.R_drew)); exact HO279.out, by repeat (first | (with_reducible first | exact HB.out | apply below_alloc | apply pw_below_drewN | apply below_drew1 | refine below_set ?_ GE257.out) | exact HB.out)⟩
                                          · rw [if_neg c41] at H
                                            have c41b0 : decide ((rd l1 x9_2) ≤ (rd l1 (ji38))) = false := decide_eq_false c41
                                            clear c41
                                            by_cases c45 : 0 ≤ (rd l1 x9_2)
                                            · rw [if_pos c45] at H
                                              have c45b0 : decide (0 ≤ (rd l1 x9_2)) = true := decide_eq_true c45
                                              clear c45
                                              by_cases c46 : (rd l1 x9_2) < (x13_2.length : Int)
                                              · rw [if_pos c46] at H
                                                have c46b0 : decide ((rd l1 x9_2) < (x13_2.length : Int)) = true := decide_eq_true c46
                                                clear c46
                                                obtain ⟨y281, hy281⟩ : ∃ y_ : List Int, y_ = (x13_2.set ((rd l1 x9_2) : Int).toNat 1) := ⟨_, rfl⟩
                                                replace H : (lay_Unhint.l1 k2 l1 x8_1 (wrap64 (x9_2 + 1)) (wrap64 (rd (l1.drop (t252 : Int).toNat) x37_1)) y281 x9_1 (l1.drop (t252 : Int).toNat) ((l1.drop (t252 : Int).toNat).length : Int) x37_1 t247 t248 t249 t250 t251 t252 t253 t254 t255) = some (r1, r2) := by first | (rw [hy281]; with_reducible exact H) | (have H2_ := (Option.bind_some _ _).symm.trans H; rw [hy281]; with_reducible exact H2_) | (have H2_ := (Option.bind_some _ _).symm.trans H; with_reducible exact H2_) | with_reducible exact H | (rw [hy281]; exact H) | exact H
                                                have Ny281 := Aside0.mk hy281
                                                clear hy281
                                                have H' := Aside0.mk H
                                                clear H
                                                try go_wp2
                                                have n0_ := Aside0.mk (Kd.S_drew HO_8.out)
                                                have n1_ := Aside0.mk (Kd.R_drew HO_13.out)
                                                have n2_ := Aside0.mk (blk_drew BK257.out)
                                                have n3_ := Aside0.mk (below_drew1 HB.out)
                                                clear HO_8
                                                clear HO_13
                                                clear BK257
                                                clear HB
                                                have HO_8 := n0_
                                                have HO_13 := n1_
                                                have BK257 := n2_
                                                have HB := n3_
                                                clear n0_ n1_ n2_ n3_
                                                have p275 : 0 ≤ (x9_2 : Int) := of_decide_eq_true (by first | (with_reducible assumption) | assumption)
                                                have q275 : x9_2 < (l1.length : Int) := of_decide_eq_true (by first | (with_reducible assumption) | assumption)
                                                obtain ⟨ad275, e275, hx275_0⟩ := Kd.at_int HR1.out x9_2 p275 q275
                                                have hw275_0 := hx275_0
                                                cases e275
                                                replace hx275_0 := (HB.out.cell (World.block_lt_of_cell? w _ hx275_0)).trans hx275_0
                                                replace p275 := eq_true p275
                                                replace q275 := eq_true q275
                                                have p276 : 0 ≤ ((ji38) : Int) := of_decide_eq_true (by first | (with_reducible assumption) | assumption)
                                                have q276 : (ji38) < (l1.length : Int) := of_decide_eq_true (by first | (with_reducible assumption) | assumption)
                                                obtain ⟨ad276, e276, hx276_0⟩ := Kd.at_int HR1.out (ji38) p276 q276
                                                have hw276_0 := hx276_0
                                                obtain rfl : ad275 = ad276 := (by injection e276)
                                                replace hx276_0 := (HB.out.cell (World.block_lt_of_cell? w _ hx276_0)).trans hx276_0
                                                replace p276 := eq_true p276
                                                replace q276 := eq_true q276
                                                refine start_ (n := 15) (S := fun w' => w'.cell? (ad275.add (x9_2).toNat) = some (.int .u8 (rd l1 x9_2)) ∧ w'.cell? (ad275.add ((ji38)).toNat) = some (.int .u8 (rd l1 (ji38)))) (ds := []) #[false, false, false, false, false, false, false, false, false, false, false, false, false, false, false] (by kernel_rfl) rfl rfl ⟨((HB.out.cell (World.block_lt_of_cell? w _ hw275_0)).trans hw275_0), ((HB.out.cell (World.block_lt_of_cell? w _ hw276_0)).trans hw276_0)⟩ (fun hHeld => ?_); refine with_tabW lay_Unhint.tab18 lay_Unhint.bits18 (fun HT_ HW_ => ?_)
                                                generalize wr.drew = w48 at HO_8 HO_13 BK257 HB hx275_0 hx276_0 hHeld ⊢
                                                refine pure_ (i := 0) (N := some 60) (v := ?_) (a' := ?_) #[true, false, false, false, false, false, false, false, false, false, false, false, false, false, false] rfl rfl (any_of HT_.out (by kernel_rfl)) (fun _ _ _ h => h) (Or.inl ⟨by rfl, ?_⟩) ?_ ?_
                                                rotate_left
                                                · intro w'
                                                  go_simp
                                                  with_reducible rfl
                                                rotate_left
                                                · simp only [Act.put, List.setIfInBounds_toArray, List.set_cons_zero, List.set_cons_succ, i64_w, i32_w]
                                                  rfl
                                                refine pure_ (i := 1) (N := some 61) (v := ?_) (a' := ?_) #[true, true, false, false, false, false, false, false, false, false, false, false, false, false, false] rfl rfl (any_of HT_.out (by kernel_rfl)) (fun _ _ _ h => h) (Or.inl ⟨by rfl, ?_⟩) ?_ ?_
                                                rotate_left
                                                · intro w'
                                                  go_simp
                                                  with_reducible rfl
                                                rotate_left
                                                · simp only [Act.put, List.setIfInBounds_toArray, List.set_cons_zero, List.set_cons_succ, i64_w, i32_w]
                                                  rfl
                                                refine pure_ (i := 2) (N := some 62) (v := ?_) (a' := ?_) #[true, true, true, false, false, false, false, false, false, false, false, false, false, false, false] rfl rfl (any_of HT_.out (by kernel_rfl)) (fun _ _ _ h => h) (Or.inl ⟨by rfl, ?_⟩) ?_ ?_
                                                rotate_left
                                                · intro w'
                                                  go_simp
                                                  with_reducible rfl
                                                rotate_left
                                                · simp only [Act.put, List.setIfInBounds_toArray, List.set_cons_zero, List.set_cons_succ, i64_w, i32_w]
                                                  rfl
                                                refine pure_ (i := 3) (N := some 63) (v := ?_) (a' := ?_) #[true, true, true, true, false, false, false, false, false, false, false, false, false, false, false] rfl rfl (any_of HT_.out (by kernel_rfl)) (fun _ _ _ h => h) (Or.inl ⟨by rfl, ?_⟩) ?_ ?_
                                                rotate_left
                                                · intro w'
                                                  go_simp
                                                  with_reducible rfl
                                                rotate_left
                                                · simp only [Act.put, List.setIfInBounds_toArray, List.set_cons_zero, List.set_cons_succ, i64_w, i32_w]
                                                  rfl
                                                refine pure_ (i := 4) (N := some 64) (v := ?_) (a' := ?_) #[true, true, true, true, true, false, false, false, false, false, false, false, false, false, false] rfl rfl (any_of HT_.out (by kernel_rfl)) (fun _ _ _ h => h) (Or.inl ⟨by rfl, ?_⟩) ?_ ?_
                                                rotate_left
                                                · intro w'
                                                  go_simp
                                                  with_reducible rfl
                                                rotate_left
                                                · simp only [Act.put, List.setIfInBounds_toArray, List.set_cons_zero, List.set_cons_succ, i64_w, i32_w]
                                                  rfl
                                                refine pure_ (i := 5) (N := some 65) (v := ?_) (a' := ?_) #[true, true, true, true, true, true, false, false, false, false, false, false, false, false, false] rfl rfl (any_of HT_.out (by kernel_rfl)) (fun _ _ _ h => h) (Or.inl ⟨by rfl, ?_⟩) ?_ ?_
                                                rotate_left
                                                · intro w'
                                                  go_simp
                                                  with_reducible rfl
                                                rotate_left
                                                · simp only [Act.put, List.setIfInBounds_toArray, List.set_cons_zero, List.set_cons_succ, i64_w, i32_w]
                                                  rfl
                                                refine pure_ (i := 6) (N := some 66) (v := ?_) (a' := ?_) #[true, true, true, true, true, true, true, false, false, false, false, false, false, false, false] rfl rfl (any_of HT_.out (by kernel_rfl)) (fun _ _ _ h => h) (Or.inl ⟨by rfl, ?_⟩) ?_ ?_
                                                rotate_left
                                                · intro w'
                                                  go_simp
                                                  with_reducible rfl
                                                rotate_left
                                                · simp only [Act.put, List.setIfInBounds_toArray, List.set_cons_zero, List.set_cons_succ, i64_w, i32_w]
                                                  rfl
                                                refine pure_ (i := 8) (N := some 68) (v := ?_) (a' := ?_) #[true, true, true, true, true, true, true, false, true, false, false, false, false, false, false] rfl rfl (any_of HT_.out (by kernel_rfl)) (fun _ _ _ h => h) (Or.inl ⟨by rfl, ?_⟩) ?_ ?_
                                                rotate_left
                                                · intro w'
                                                  go_simp
                                                  with_reducible rfl
                                                rotate_left
                                                · simp only [Act.put, List.setIfInBounds_toArray, List.set_cons_zero, List.set_cons_succ, i64_w, i32_w]
                                                  rfl
                                                refine pure_ (i := 9) (N := some 69) (v := ?_) (a' := ?_) #[true, true, true, true, true, true, true, false, true, true, false, false, false, false, false] rfl rfl (any_of HT_.out (by kernel_rfl)) (fun _ _ _ h => h) (Or.inl ⟨by rfl, ?_⟩) ?_ ?_
                                                rotate_left
                                                · intro w'
                                                  go_simp
                                                  with_reducible rfl
                                                rotate_left
                                                · simp only [Act.put, List.setIfInBounds_toArray, List.set_cons_zero, List.set_cons_succ, i64_w, i32_w]
                                                  rfl
                                                refine pure_ (i := 10) (N := some 70) (v := ?_) (a' := ?_) #[true, true, true, true, true, true, true, false, true, true, true, false, false, false, false] rfl rfl (any_of HT_.out (by kernel_rfl)) (fun _ _ _ h => h) (Or.inl ⟨by rfl, ?_⟩) ?_ ?_
                                                rotate_left
                                                · intro w'
                                                  go_simp
                                                  with_reducible rfl
                                                rotate_left
                                                · simp only [Act.put, List.setIfInBounds_toArray, List.set_cons_zero, List.set_cons_succ, i64_w, i32_w]
                                                  rfl
                                                refine pure_ (i := 11) (N := some 71) (v := ?_) (a' := ?_) #[true, true, true, true, true, true, true, false, true, true, true, true, false, false, false] rfl rfl (any_of HT_.out (by kernel_rfl)) (fun _ _ _ h => h) (Or.inl ⟨by rfl, ?_⟩) ?_ ?_
                                                rotate_left
                                                · intro w'
                                                  go_simp
                                                  with_reducible rfl
                                                rotate_left
                                                · simp only [Act.put, List.setIfInBounds_toArray, List.set_cons_zero, List.set_cons_succ, i64_w, i32_w]
                                                  rfl
                                                refine take_ (i := 7) (N := some 67) (v := ?_) (a' := ?_) #[true, true, true, true, true, true, true, true, true, true, true, true, false, false, false] rfl rfl (take_ofW HT_.out HW_.out (by kernel_rfl)) (fun _ _ _ h => h) (Or.inl ⟨by rfl, ?_⟩) hHeld ?_ ?_
                                                rotate_left
                                                · rintro w' ⟨s0, s1⟩
                                                  go_simp
                                                  with_reducible rfl
                                                rotate_left
                                                · simp only [Act.put, List.setIfInBounds_toArray, List.set_cons_zero, List.set_cons_succ, i64_w, i32_w]
                                                  rfl
                                                refine take_ (i := 12) (N := some 72) (v := ?_) (a' := ?_) #[true, true, true, true, true, true, true, true, true, true, true, true, true, false, false] rfl rfl (take_ofW HT_.out HW_.out (by kernel_rfl)) (fun _ _ _ h => h) (Or.inl ⟨by rfl, ?_⟩) hHeld ?_ ?_
                                                rotate_left
                                                · rintro w' ⟨s0, s1⟩
                                                  go_simp
                                                  with_reducible rfl
                                                rotate_left
                                                · simp only [Act.put, List.setIfInBounds_toArray, List.set_cons_zero, List.set_cons_succ, i64_w, i32_w]
                                                  rfl
                                                refine pure_ (i := 13) (N := some 73) (v := ?_) (a' := ?_) #[true, true, true, true, true, true, true, true, true, true, true, true, true, true, false] rfl rfl (any_of HT_.out (by kernel_rfl)) (fun _ _ _ h => h) (Or.inl ⟨by rfl, ?_⟩) ?_ ?_
                                                rotate_left
                                                · intro w'
                                                  go_simp
                                                  with_reducible rfl
                                                rotate_left
                                                · simp only [Act.put, List.setIfInBounds_toArray, List.set_cons_zero, List.set_cons_succ, i64_w, i32_w]
                                                  rfl
                                                refine pure_ (i := 14) (N := some 74) (v := ?_) (a' := ?_) #[true, true, true, true, true, true, true, true, true, true, true, true, true, true, true] rfl rfl (any_of HT_.out (by kernel_rfl)) (fun _ _ _ h => h) (Or.inl ⟨by rfl, ?_⟩) ?_ ?_
                                                rotate_left
                                                · intro w'
                                                  go_simp
                                                  with_reducible rfl
                                                rotate_left
                                                · simp only [Act.put, List.setIfInBounds_toArray, List.set_cons_zero, List.set_cons_succ, i64_w, i32_w]
                                                  rfl
                                                refine done_ (done_of HT_.out (by kernel_rfl)) ?_
                                                have p280 : 0 ≤ (x9_2 : Int) := of_decide_eq_true (by first | (with_reducible assumption) | assumption)
                                                have q280 : x9_2 < (l1.length : Int) := of_decide_eq_true (by first | (with_reducible assumption) | assumption)
                                                obtain ⟨ad280, e280, hx280_0⟩ := Kd.at_int HR1.out x9_2 p280 q280
                                                obtain rfl : ad275 = ad280 := (by injection e280)
                                                replace hx280_0 := (HB.out.cell (World.block_lt_of_cell? w _ hx280_0)).trans hx280_0
                                                replace p280 := eq_true p280
                                                replace q280 := eq_true q280
                                                have p47 : 0 ≤ ((rd l1 x9_2) : Int) := of_decide_eq_true (by first | (with_reducible assumption) | assumption)
                                                have q47 : ((rd l1 x9_2) : Int) < ((x13_2.length : Int) : Int) := of_decide_eq_true (by first | (with_reducible assumption) | assumption)
                                                obtain ⟨go47, co47, eo47, gb47, gl47, cl47, HG47⟩ := Kd.R_form HO_13.out (by omega)
                                                (first | cases eo47 | (injection eo47 with ea_ en_ ec_; (first | subst ea_ | (injection ea_ with ea_; subst ea_)); subst ec_; clear en_))
                                                have GB47 := Aside0.mk gb47
                                                have GG47 := Aside0.mk HG47
                                                clear gb47 gl47 HG47
                                                obtain ⟨hx47_0, hf47_0⟩ := Kd.R_celln 0 HO_13.out ((rd l1 x9_2) : Int) p47 q47
                                                replace p47 := eq_true p47
                                                replace q47 := eq_true q47
                                                obtain ⟨hy49_, hz49_⟩ := Kd.R_celln 0 HO_13.out ((rd l1 x9_2) : Int) (of_decide_eq_true (by first | (with_reducible assumption) | assumption)) (of_decide_eq_true (by first | (with_reducible assumption) | assumption))
                                                have HP49 := Kd.R_putg HO_13.out ((rd l1 x9_2) : Int) 1
                                                try go_wp2_with (first | ((with_reducible refine gate_store (t := 3) (p := 81) rfl ?_); refine store_event (t := 3) (p := 81) (v := ?vo_w50) (w1 := (w48.setCell ⟨go47, ((rd l1 x9_2) : Int).toNat, none⟩ (.int .i64 1))) ?hg ?ho ?hn ?hr ?_; (case ho => rfl); (case hg => rfl); (case hn => rfl); (case hr => first | (go_simp; done) | (go_simp; rfl)); intro w50 hw; have hg : w48.grownBy w50 (some go47) := (by rw [hw]; exact HP49.2); have hp_ : Kd.R (Kd.int .i64) 3 w50 w.heap.size (fun _ => True) (.slice (some ⟨go47, 0, none⟩) x13_2.length co47) y281 := (by rw [hw, Ny281.out]; exact HP49.1); clear HP49; have n0_ := Aside0.mk (Kd.S_after (v := (.slice (some ⟨go47, 0, none⟩) x13_2.length co47)) (v1 := (.slice (some ⟨go47, 0, none⟩) x13_2.length co47)) (ok := (fun _ => True)) (by (with_reducible repeat (first | apply Kd.S_alloc | apply Kd.S_drewN | apply Kd.S_drew)); exact Kd.S_mono HO_8.out (fun _ hk => ⟨trivial, hk⟩)) hg (.inl rfl)); have n1_ := Aside0.mk (hp_); have n2_ := Aside0.mk (blk_grown (g := gb257) (o := .cells #[.int .i64 t247, .int .i64 t248, .int .i64 t249, .int .i64 t250, .int .i64 t251, .int .i64 t252, .int .i64 t253, .int .i64 t254, .int .i64 t255] 26 (0, 0)) (by (with_reducible repeat (first | refine blk_drewN ?_ _ | refine blk_drew ?_ | refine blk_alloc ?_ _)); exact BK257.out) hg (Kd.R_ne HO_13.out BK257.out (by decide))); have n3_ := Aside0.mk ((by rw [hw]; exact below_set (HB.out) GB47.out : Below w.heap.size w w50)); clear HO_8; clear HO_13; clear BK257; clear HB; have HO_8 := n0_; have HO_13 := n1_; have BK257 := n2_; have HB := n3_; clear n0_ n1_ n2_ n3_; clear hg hw hp_))
                                                go_roundg k2
                                                case measure => have := HK1.out; have := HK2.out; omega
                                                case rel => exact ⟨(wrap64 (x9_2 + 1)), (y281), (by first | rfl | (simp; done) | (simp [*]; done)), H', ⟨by have := HK1.out; have := HK2.out; omega⟩, ⟨by (with_reducible repeat (first | apply Kd.S_alloc | apply Kd.S_drewN | apply Kd.S_drew)); exact Kd.S_mono HO_8.out (fun _ hk => hk.2)⟩, ⟨by (with_reducible repeat (first | apply Kd.R_alloc | apply Kd.R_drewN | apply Kd.R_drew)); exact HO_13.out⟩, ⟨by (with_reducible repeat (first | refine blk_drewN ?_ _ | refine blk_drew ?_ | refine blk_alloc ?_ _)); exact BK257.out⟩, ⟨by repeat (first | (with_reducible first | exact HB.out | apply below_alloc | apply pw_below_drewN | apply below_drew1 | refine below_set ?_ GE257.out) | exact HB.out)⟩⟩
                                              · rw [if_neg c46] at H
                                                exact absurd H (by simp)
                                            · rw [if_neg c45] at H
                                              exact absurd H (by simp)
                                        · rw [if_neg c40] at H
                                          exact absurd H (by simp)
                                      · rw [if_neg c39] at H
                                        exact absurd H (by simp)
                                    · rw [if_neg c37] at H
                                      exact absurd H (by simp)
                                  · rw [if_neg c36] at H
                                    exact absurd H (by simp)
                                · rw [if_neg c35] at H
                                  have c35b0 : decide (x9_1 < x9_2) = false := decide_eq_false c35
                                  clear c35
                                  by_cases c51 : 0 ≤ x9_2
                                  · rw [if_pos c51] at H
                                    have c51b0 : decide (0 ≤ x9_2) = true := decide_eq_true c51
                                    clear c51
                                    by_cases c52 : x9_2 < (l1.length : Int)
                                    · rw [if_pos c52] at H
                                      have c52b0 : decide (x9_2 < (l1.length : Int)) = true := decide_eq_true c52
                                      clear c52
                                      by_cases c53 : 0 ≤ (rd l1 x9_2)
                                      · rw [if_pos c53] at H
                                        have c53b0 : decide (0 ≤ (rd l1 x9_2)) = true := decide_eq_true c53
                                        clear c53
                                        by_cases c54 : (rd l1 x9_2) < (x13_2.length : Int)
                                        · rw [if_pos c54] at H
                                          have c54b0 : decide ((rd l1 x9_2) < (x13_2.length : Int)) = true := decide_eq_true c54
                                          clear c54
                                          obtain ⟨y283, hy283⟩ : ∃ y_ : List Int, y_ = (x13_2.set ((rd l1 x9_2) : Int).toNat 1) := ⟨_, rfl⟩
                                          replace H : (lay_Unhint.l1 k2 l1 x8_1 (wrap64 (x9_2 + 1)) (wrap64 (rd (l1.drop (t252 : Int).toNat) x37_1)) y283 x9_1 (l1.drop (t252 : Int).toNat) ((l1.drop (t252 : Int).toNat).length : Int) x37_1 t247 t248 t249 t250 t251 t252 t253 t254 t255) = some (r1, r2) := by first | (rw [hy283]; with_reducible exact H) | (have H2_ := (Option.bind_some _ _).symm.trans H; rw [hy283]; with_reducible exact H2_) | (have H2_ := (Option.bind_some _ _).symm.trans H; with_reducible exact H2_) | with_reducible exact H | (rw [hy283]; exact H) | exact H
                                          have Ny283 := Aside0.mk hy283
                                          clear hy283
                                          have H' := Aside0.mk H
                                          clear H
                                          try go_wp2
                                          have n0_ := Aside0.mk (Kd.S_drew HO_8.out)
                                          have n1_ := Aside0.mk (Kd.R_drew HO_13.out)
                                          have n2_ := Aside0.mk (blk_drew BK257.out)
                                          have n3_ := Aside0.mk (below_drew1 HB.out)
                                          clear HO_8
                                          clear HO_13
                                          clear BK257
                                          clear HB
                                          have HO_8 := n0_
                                          have HO_13 := n1_
                                          have BK257 := n2_
                                          have HB := n3_
                                          clear n0_ n1_ n2_ n3_
                                          refine start_ (n := 15) (S := fun w' => True) (ds := []) #[false, false, false, false, false, false, false, false, false, false, false, false, false, false, false] (by kernel_rfl) rfl rfl trivial (fun hHeld => ?_); refine with_tabW lay_Unhint.tab18 lay_Unhint.bits18 (fun HT_ HW_ => ?_)
                                          generalize wr.drew = w56 at HO_8 HO_13 BK257 HB hHeld ⊢
                                          refine pure_ (i := 0) (N := some 60) (v := ?_) (a' := ?_) #[true, false, false, false, false, false, false, false, false, false, false, false, false, false, false] rfl rfl (any_of HT_.out (by kernel_rfl)) (fun _ _ _ h => h) (Or.inl ⟨by rfl, ?_⟩) ?_ ?_
                                          rotate_left
                                          · intro w'
                                            go_simp
                                            with_reducible rfl
                                          rotate_left
                                          · simp only [Act.put, List.setIfInBounds_toArray, List.set_cons_zero, List.set_cons_succ, i64_w, i32_w]
                                            rfl
                                          refine pure_ (i := 1) (N := some 61) (v := ?_) (a' := ?_) #[true, true, false, false, false, false, false, false, false, false, false, false, false, false, false] rfl rfl (any_of HT_.out (by kernel_rfl)) (fun _ _ _ h => h) (Or.inl ⟨by rfl, ?_⟩) ?_ ?_
                                          rotate_left
                                          · intro w'
                                            go_simp
                                            with_reducible rfl
                                          rotate_left
                                          · simp only [Act.put, List.setIfInBounds_toArray, List.set_cons_zero, List.set_cons_succ, i64_w, i32_w]
                                            rfl
                                          refine pure_ (i := 2) (N := some 62) (v := ?_) (a' := ?_) #[true, true, true, false, false, false, false, false, false, false, false, false, false, false, false] rfl rfl (any_of HT_.out (by kernel_rfl)) (fun _ _ _ h => h) (Or.inl ⟨by rfl, ?_⟩) ?_ ?_
                                          rotate_left
                                          · intro w'
                                            go_simp
                                            with_reducible rfl
                                          rotate_left
                                          · simp only [Act.put, List.setIfInBounds_toArray, List.set_cons_zero, List.set_cons_succ, i64_w, i32_w]
                                            rfl
                                          refine pure_ (i := 3) (N := some 63) (v := ?_) (a' := ?_) #[true, true, true, true, false, false, false, false, false, false, false, false, false, false, false] rfl rfl (any_of HT_.out (by kernel_rfl)) (fun _ _ _ h => h) (Or.inl ⟨by rfl, ?_⟩) ?_ ?_
                                          rotate_left
                                          · intro w'
                                            go_simp
                                            with_reducible rfl
                                          rotate_left
                                          · simp only [Act.put, List.setIfInBounds_toArray, List.set_cons_zero, List.set_cons_succ, i64_w, i32_w]
                                            rfl
                                          refine pure_ (i := 4) (N := some 64) (v := undef) (a' := ?_) #[true, true, true, true, true, false, false, false, false, false, false, false, false, false, false] rfl rfl (any_of HT_.out (by kernel_rfl)) (fun _ _ _ h => h) (Or.inr ⟨by rfl, rfl⟩) ?_ ?_
                                          rotate_left
                                          · simp only [Act.put, List.setIfInBounds_toArray, List.set_cons_zero, List.set_cons_succ, i64_w, i32_w]
                                            rfl
                                          refine pure_ (i := 5) (N := some 65) (v := undef) (a' := ?_) #[true, true, true, true, true, true, false, false, false, false, false, false, false, false, false] rfl rfl (any_of HT_.out (by kernel_rfl)) (fun _ _ _ h => h) (Or.inr ⟨by rfl, rfl⟩) ?_ ?_
                                          rotate_left
                                          · simp only [Act.put, List.setIfInBounds_toArray, List.set_cons_zero, List.set_cons_succ, i64_w, i32_w]
                                            rfl
                                          refine pure_ (i := 6) (N := some 66) (v := undef) (a' := ?_) #[true, true, true, true, true, true, true, false, false, false, false, false, false, false, false] rfl rfl (any_of HT_.out (by kernel_rfl)) (fun _ _ _ h => h) (Or.inr ⟨by rfl, rfl⟩) ?_ ?_
                                          rotate_left
                                          · simp only [Act.put, List.setIfInBounds_toArray, List.set_cons_zero, List.set_cons_succ, i64_w, i32_w]
                                            rfl
                                          refine pure_ (i := 7) (N := some 67) (v := undef) (a' := ?_) #[true, true, true, true, true, true, true, true, false, false, false, false, false, false, false] rfl rfl (any_of HT_.out (by kernel_rfl)) (fun _ _ _ h => h) (Or.inr ⟨by rfl, rfl⟩) ?_ ?_
                                          rotate_left
                                          · simp only [Act.put, List.setIfInBounds_toArray, List.set_cons_zero, List.set_cons_succ, i64_w, i32_w]
                                            rfl
                                          refine pure_ (i := 8) (N := some 68) (v := undef) (a' := ?_) #[true, true, true, true, true, true, true, true, true, false, false, false, false, false, false] rfl rfl (any_of HT_.out (by kernel_rfl)) (fun _ _ _ h => h) (Or.inr ⟨by rfl, rfl⟩) ?_ ?_
                                          rotate_left
                                          · simp only [Act.put, List.setIfInBounds_toArray, List.set_cons_zero, List.set_cons_succ, i64_w, i32_w]
                                            rfl
                                          refine pure_ (i := 9) (N := some 69) (v := undef) (a' := ?_) #[true, true, true, true, true, true, true, true, true, true, false, false, false, false, false] rfl rfl (any_of HT_.out (by kernel_rfl)) (fun _ _ _ h => h) (Or.inr ⟨by rfl, rfl⟩) ?_ ?_
                                          rotate_left
                                          · simp only [Act.put, List.setIfInBounds_toArray, List.set_cons_zero, List.set_cons_succ, i64_w, i32_w]
                                            rfl
                                          refine pure_ (i := 10) (N := some 70) (v := undef) (a' := ?_) #[true, true, true, true, true, true, true, true, true, true, true, false, false, false, false] rfl rfl (any_of HT_.out (by kernel_rfl)) (fun _ _ _ h => h) (Or.inr ⟨by rfl, rfl⟩) ?_ ?_
                                          rotate_left
                                          · simp only [Act.put, List.setIfInBounds_toArray, List.set_cons_zero, List.set_cons_succ, i64_w, i32_w]
                                            rfl
                                          refine pure_ (i := 11) (N := some 71) (v := undef) (a' := ?_) #[true, true, true, true, true, true, true, true, true, true, true, true, false, false, false] rfl rfl (any_of HT_.out (by kernel_rfl)) (fun _ _ _ h => h) (Or.inr ⟨by rfl, rfl⟩) ?_ ?_
                                          rotate_left
                                          · simp only [Act.put, List.setIfInBounds_toArray, List.set_cons_zero, List.set_cons_succ, i64_w, i32_w]
                                            rfl
                                          refine pure_ (i := 12) (N := some 72) (v := undef) (a' := ?_) #[true, true, true, true, true, true, true, true, true, true, true, true, true, false, false] rfl rfl (any_of HT_.out (by kernel_rfl)) (fun _ _ _ h => h) (Or.inr ⟨by rfl, rfl⟩) ?_ ?_
                                          rotate_left
                                          · simp only [Act.put, List.setIfInBounds_toArray, List.set_cons_zero, List.set_cons_succ, i64_w, i32_w]
                                            rfl
                                          refine pure_ (i := 13) (N := some 73) (v := undef) (a' := ?_) #[true, true, true, true, true, true, true, true, true, true, true, true, true, true, false] rfl rfl (any_of HT_.out (by kernel_rfl)) (fun _ _ _ h => h) (Or.inr ⟨by rfl, rfl⟩) ?_ ?_
                                          rotate_left
                                          · simp only [Act.put, List.setIfInBounds_toArray, List.set_cons_zero, List.set_cons_succ, i64_w, i32_w]
                                            rfl
                                          refine pure_ (i := 14) (N := some 74) (v := ?_) (a' := ?_) #[true, true, true, true, true, true, true, true, true, true, true, true, true, true, true] rfl rfl (any_of HT_.out (by kernel_rfl)) (fun _ _ _ h => h) (Or.inl ⟨by rfl, ?_⟩) ?_ ?_
                                          rotate_left
                                          · intro w'
                                            go_simp
                                            with_reducible rfl
                                          rotate_left
                                          · simp only [Act.put, List.setIfInBounds_toArray, List.set_cons_zero, List.set_cons_succ, i64_w, i32_w]
                                            rfl
                                          refine done_ (done_of HT_.out (by kernel_rfl)) ?_
                                          have p282 : 0 ≤ (x9_2 : Int) := of_decide_eq_true (by first | (with_reducible assumption) | assumption)
                                          have q282 : x9_2 < (l1.length : Int) := of_decide_eq_true (by first | (with_reducible assumption) | assumption)
                                          obtain ⟨ad282, e282, hx282_0⟩ := Kd.at_int HR1.out x9_2 p282 q282
                                          cases e282
                                          replace hx282_0 := (HB.out.cell (World.block_lt_of_cell? w _ hx282_0)).trans hx282_0
                                          replace p282 := eq_true p282
                                          replace q282 := eq_true q282
                                          have p55 : 0 ≤ ((rd l1 x9_2) : Int) := of_decide_eq_true (by first | (with_reducible assumption) | assumption)
                                          have q55 : ((rd l1 x9_2) : Int) < ((x13_2.length : Int) : Int) := of_decide_eq_true (by first | (with_reducible assumption) | assumption)
                                          obtain ⟨go55, co55, eo55, gb55, gl55, cl55, HG55⟩ := Kd.R_form HO_13.out (by omega)
                                          (first | cases eo55 | (injection eo55 with ea_ en_ ec_; (first | subst ea_ | (injection ea_ with ea_; subst ea_)); subst ec_; clear en_))
                                          have GB55 := Aside0.mk gb55
                                          have GG55 := Aside0.mk HG55
                                          clear gb55 gl55 HG55
                                          obtain ⟨hx55_0, hf55_0⟩ := Kd.R_celln 0 HO_13.out ((rd l1 x9_2) : Int) p55 q55
                                          replace p55 := eq_true p55
                                          replace q55 := eq_true q55
                                          obtain ⟨hy57_, hz57_⟩ := Kd.R_celln 0 HO_13.out ((rd l1 x9_2) : Int) (of_decide_eq_true (by first | (with_reducible assumption) | assumption)) (of_decide_eq_true (by first | (with_reducible assumption) | assumption))
                                          have HP57 := Kd.R_putg HO_13.out ((rd l1 x9_2) : Int) 1
                                          try go_wp2_with (first | ((with_reducible refine gate_store (t := 3) (p := 81) rfl ?_); refine store_event (t := 3) (p := 81) (v := ?vo_w58) (w1 := (w56.setCell ⟨go55, ((rd l1 x9_2) : Int).toNat, none⟩ (.int .i64 1))) ?hg ?ho ?hn ?hr ?_; (case ho => rfl); (case hg => rfl); (case hn => rfl); (case hr => first | (go_simp; done) | (go_simp; rfl)); intro w58 hw; have hg : w56.grownBy w58 (some go55) := (by rw [hw]; exact HP57.2); have hp_ : Kd.R (Kd.int .i64) 3 w58 w.heap.size (fun _ => True) (.slice (some ⟨go55, 0, none⟩) x13_2.length co55) y283 := (by rw [hw, Ny283.out]; exact HP57.1); clear HP57; have n0_ := Aside0.mk (Kd.S_after (v := (.slice (some ⟨go55, 0, none⟩) x13_2.length co55)) (v1 := (.slice (some ⟨go55, 0, none⟩) x13_2.length co55)) (ok := (fun _ => True)) (by (with_reducible repeat (first | apply Kd.S_alloc | apply Kd.S_drewN | apply Kd.S_drew)); exact Kd.S_mono HO_8.out (fun _ hk => ⟨trivial, hk⟩)) hg (.inl rfl)); have n1_ := Aside0.mk (hp_); have n2_ := Aside0.mk (blk_grown (g := gb257) (o := .cells #[.int .i64 t247, .int .i64 t248, .int .i64 t249, .int .i64 t250, .int .i64 t251, .int .i64 t252, .int .i64 t253, .int .i64 t254, .int .i64 t255] 26 (0, 0)) (by (with_reducible repeat (first | refine blk_drewN ?_ _ | refine blk_drew ?_ | refine blk_alloc ?_ _)); exact BK257.out) hg (Kd.R_ne HO_13.out BK257.out (by decide))); have n3_ := Aside0.mk ((by rw [hw]; exact below_set (HB.out) GB55.out : Below w.heap.size w w58)); clear HO_8; clear HO_13; clear BK257; clear HB; have HO_8 := n0_; have HO_13 := n1_; have BK257 := n2_; have HB := n3_; clear n0_ n1_ n2_ n3_; clear hg hw hp_))
                                          go_roundg k2
                                          case measure => have := HK1.out; have := HK2.out; omega
                                          case rel => exact ⟨(wrap64 (x9_2 + 1)), (y283), (by first | rfl | (simp; done) | (simp [*]; done)), H', ⟨by have := HK1.out; have := HK2.out; omega⟩, ⟨by (with_reducible repeat (first | apply Kd.S_alloc | apply Kd.S_drewN | apply Kd.S_drew)); exact Kd.S_mono HO_8.out (fun _ hk => hk.2)⟩, ⟨by (with_reducible repeat (first | apply Kd.R_alloc | apply Kd.R_drewN | apply Kd.R_drew)); exact HO_13.out⟩, ⟨by (with_reducible repeat (first | refine blk_drewN ?_ _ | refine blk_drew ?_ | refine blk_alloc ?_ _)); exact BK257.out⟩, ⟨by repeat (first | (with_reducible first | exact HB.out | apply below_alloc | apply pw_below_drewN | apply below_drew1 | refine below_set ?_ GE257.out) | exact HB.out)⟩⟩
                                        · rw [if_neg c54] at H
                                          exact absurd H (by simp)
                                      · rw [if_neg c53] at H
                                        exact absurd H (by simp)
                                    · rw [if_neg c52] at H
                                      exact absurd H (by simp)
                                  · rw [if_neg c51] at H
                                    exact absurd H (by simp)
                              · rw [if_neg c34] at H
                                have c34b0 : decide (x9_2 < (wrap64 (rd (l1.drop (t252 : Int).toNat) x37_1))) = false := decide_eq_false c34
                                clear c34
                                by_cases c59 : x8_1.length < 5864062014805
                                · rw [if_pos c59] at H
                                  have LMc59 := Aside0.mk c59
                                  clear c59
                                  obtain ⟨y284, hy284⟩ : ∃ y_ : List (List Int), y_ = (x8_1 ++ [x13_2]) := ⟨_, rfl⟩
                                  replace H : (lay_Unhint.l0 k2 l1 y284 x9_2 (l1.drop (t252 : Int).toNat) ((l1.drop (t252 : Int).toNat).length : Int) (wrap64 (x37_1 + 1)) t247 t248 t249 t250 t251 t252 t253 t254 t255) = some (r1, r2) := by first | (rw [hy284]; with_reducible exact H) | (have H2_ := (Option.bind_some _ _).symm.trans H; rw [hy284]; with_reducible exact H2_) | (have H2_ := (Option.bind_some _ _).symm.trans H; with_reducible exact H2_) | with_reducible exact H | (rw [hy284]; exact H) | exact H
                                  have Ny284 := Aside0.mk hy284
                                  clear hy284
                                  have H' := Aside0.mk H
                                  clear H
                                  obtain ⟨Ao61, co61, eo61⟩ := Kd.R_slice HO_13.out
                                  subst eo61
                                  go_wp2_with (first | ((with_reducible refine gate_builtin (b := .append) (xs := #[.tmp 82, .tmp 84]) rfl ?_); at_builtin; refine Kd.S_append (Kd.slice 3 (Kd.int .i64)) (w0 := w) w.heap.size rfl (.tmp 82) (.tmp 84) 29 22 (.slice none 0 0) 24 rfl Tryd.underlying29 info22 rfl (by decide) (by omega) u8 x8_1 x13_2 [.slice Ao61 x13_2.length co61] (fun _ => True) (fun k_ => some k_ = (.slice Ao61 x13_2.length co61 : Value).ownBlock) rfl rfl ?aP (fun k_ hk_ => ((Kd.R_mono (ok' := fun k_ => ((fun _ => True)) k_ ∧ some k_ ≠ (u8 : Value).ownBlock) (Kd.R_apart' (HO_13.out) (Kd.S_typed HO_8.out) (by decide)) (fun k_ hk => ⟨trivial, hk.2⟩))).1 k_ hk_.symm) ?aF ?aO ?aB ?aS ?aL ?_; (case aP => exact Kd.M_row (Kd.R_mono (Kd.R_tight rfl (Kd.R_mono (ok' := fun k_ => ((fun _ => True)) k_ ∧ some k_ ≠ (u8 : Value).ownBlock) (Kd.R_apart' (HO_13.out) (Kd.S_typed HO_8.out) (by decide)) (fun k_ hk => ⟨trivial, hk.2⟩))) (fun _ h_ => h_))); (case aB => exact (by repeat (first | (with_reducible first | exact HB.out | apply below_alloc | apply pw_below_drewN | apply below_drew1 | refine below_set ?_ GE257.out) | exact HB.out))); (case aF => exact (fun _ _ => trivial)); (case aO => exact (by (with_reducible repeat (first | apply Kd.S_alloc | apply Kd.S_drewN | apply Kd.S_drew)); exact Kd.S_mono HO_8.out (fun k_ hk => ⟨trivial, fun e_ => hk e_⟩))); (case aS => exact (below_size (by repeat (first | (with_reducible first | exact HB.out | apply below_alloc | apply pw_below_drewN | apply below_drew1 | refine below_set ?_ GE257.out) | exact HB.out)))); (case aL => have := LMc59.out; omega); intro v285 w60 ho hb hg hat; rw [← Ny284.out] at ho; have n0_ := Aside0.mk (blk_grown (g := gb257) (o := .cells #[.int .i64 t247, .int .i64 t248, .int .i64 t249, .int .i64 t250, .int .i64 t251, .int .i64 t252, .int .i64 t253, .int .i64 t254, .int .i64 t255] 26 (0, 0)) (by (with_reducible repeat (first | refine blk_drewN ?_ _ | refine blk_drew ?_ | refine blk_alloc ?_ _)); exact BK257.out) hg (Kd.S_ne HO_8.out BK257.out (by decide))); have n1_ := Aside0.mk (hb); have n2_ := Aside0.mk (ho); clear BK257; clear HB; clear HO_8; clear HO_13; have BK257 := n0_; have HB := n1_; have HO286 := n2_; clear n0_ n1_ n2_; clear ho hb hg hat))
                                  go_roundg k2
                                  case measure => have := HK1.out; have := HK2.out; omega
                                  case rel => exact ⟨(y284), (x9_2), (wrap64 (x37_1 + 1)), (by first | rfl | (simp; done) | (simp [*]; done)), (by first | rfl | (simp; done) | (simp [*]; done)), H', ⟨by have := HK1.out; have := HK2.out; omega⟩, ⟨by (with_reducible repeat (first | apply Kd.S_alloc | apply Kd.S_drewN | apply Kd.S_drew)); exact HO286.out⟩, ⟨by (with_reducible repeat (first | refine blk_drewN ?_ _ | refine blk_drew ?_ | refine blk_alloc ?_ _)); exact BK257.out⟩, ⟨by repeat (first | (with_reducible first | exact HB.out | apply below_alloc | apply pw_below_drewN | apply below_drew1 | refine below_set ?_ GE257.out) | exact HB.out)⟩⟩
                                · rw [if_neg c59] at H
                                  exact absurd H (by simp)
                    · rw [if_neg c15] at H
                      exact absurd H (by simp)
                  · rw [if_neg c14] at H
                    exact absurd H (by simp)
                · rw [if_neg c13] at H
                  exact absurd H (by simp)
              · rw [if_neg c12] at H
                have c12b0 : decide (x37_1 < ((l1.drop (t252 : Int).toNat).length : Int)) = false := decide_eq_false c12
                have c12b0q : decide (x37_1 < ((l1.length - (t252 : Int).toNat : Nat) : Int)) = false := by have h_ := c12b0; rw [List.length_drop] at h_; exact h_
                clear c12
                by_cases c62 : 0 ≤ x9_1
                · rw [if_pos c62] at H
                  have c62b0 := eq_true c62
                  have c62b1 : decide (0 ≤ x9_1) = true := decide_eq_true c62
                  clear c62
                  by_cases c63 : x9_1 ≤ t252
                  · rw [if_pos c63] at H
                    have c63b0 := eq_true c63
                    have c63b1 : decide (x9_1 ≤ t252) = true := decide_eq_true c63
                    clear c63
                    by_cases c64 : t252 ≤ (l1.length : Int)
                    · rw [if_pos c64] at H
                      have c64b0 := eq_true c64
                      have c64b1 : decide (t252 ≤ (l1.length : Int)) = true := decide_eq_true c64
                      clear c64
                      replace H := Option.bind_eq_some_iff.mp H
                      obtain ⟨t288, A650, H⟩ := H
                      replace H : (if t288 = true then ((lay_fault.f 4).bind fun t289 => (some (([] : List (List Int)), t289))) else (some (x8_1, ([] : List (S67))))) = some (r1, r2) := H
                      have A65 := Aside0.mk A650
                      clear A650
                      by_cases c66 : t288 = true
                      · subst c66
                        have H1 : ((lay_fault.f 4).bind fun t289 => (some (([] : List (List Int)), t289))) = some (r1, r2) := by rw [if_pos rfl] at H; exact H
                        clear H
                        have H := H1
                        clear H1
                        replace H := Option.bind_eq_some_iff.mp H
                        obtain ⟨t289, A670, H⟩ := H
                        replace H : (some (([] : List (List Int)), t289)) = some (r1, r2) := H
                        have A67 := Aside0.mk A670
                        clear A670
                        simp only [Option.some.injEq, Prod.mk.injEq] at H
                        obtain ⟨rfl, rfl⟩ := H
                        have hcz68_0 : wr.cell? ⟨gb257, 0, none⟩ = some (.int .i64 t247) := (blk_cell BK257.out 0).trans rfl
                        have hcz68_1 : wr.cell? ⟨gb257, 1, none⟩ = some (.int .i64 t248) := (blk_cell BK257.out 1).trans rfl
                        have hcz68_2 : wr.cell? ⟨gb257, 2, none⟩ = some (.int .i64 t249) := (blk_cell BK257.out 2).trans rfl
                        have hcz68_3 : wr.cell? ⟨gb257, 3, none⟩ = some (.int .i64 t250) := (blk_cell BK257.out 3).trans rfl
                        have hcz68_4 : wr.cell? ⟨gb257, 4, none⟩ = some (.int .i64 t251) := (blk_cell BK257.out 4).trans rfl
                        have hcz68_5 : wr.cell? ⟨gb257, 5, none⟩ = some (.int .i64 t252) := (blk_cell BK257.out 5).trans rfl
                        have hcz68_6 : wr.cell? ⟨gb257, 6, none⟩ = some (.int .i64 t253) := (blk_cell BK257.out 6).trans rfl
                        have hcz68_7 : wr.cell? ⟨gb257, 7, none⟩ = some (.int .i64 t254) := (blk_cell BK257.out 7).trans rfl
                        have hcz68_8 : wr.cell? ⟨gb257, 8, none⟩ = some (.int .i64 t255) := (blk_cell BK257.out 8).trans rfl
                        have hfz68_0 := blk_frozen BK257.out 0
                        have hfz68_1 := blk_frozen BK257.out 1
                        have hfz68_2 := blk_frozen BK257.out 2
                        have hfz68_3 := blk_frozen BK257.out 3
                        have hfz68_4 := blk_frozen BK257.out 4
                        have hfz68_5 := blk_frozen BK257.out 5
                        have hfz68_6 := blk_frozen BK257.out 6
                        have hfz68_7 := blk_frozen BK257.out 7
                        have hfz68_8 := blk_frozen BK257.out 8
                        obtain ⟨i069, hi069, _, hsz69, _⟩ := info_parts info5
                        obtain ⟨A69, hcut69, hA69, hC69⟩ := print_mid_of (P := Tryd.prog) (Value.int .u8) 0 30 5 .i64 .i64 Tryd.underlying30 hi069 hsz69 A1 c1 l1 x9_1 t252 (of_decide_eq_true (by first | (with_reducible assumption) | assumption)) (by first | omega | exact of_decide_eq_true (by first | (with_reducible assumption) | assumption)) (of_decide_eq_true (by first | (with_reducible assumption) | assumption)) HC1.out
                        have HR287 := Aside0.mk (Kd.C_of_reads (h1 := fun _ => rfl) (hA69 _ (Kd.reads_of_C HR1.out)))
                        have HC287 := Aside0.mk hC69
                        clear hA69 hC69 hi069 hsz69
                        go_wp2_with (first | ((with_reducible refine gate_callee (f := 34) rfl ?_); refine goesL_ (some 92) rfl rfl Tryd.func34 (by kernel_rfl) rfl #[.slice A69 ((l1.take (t252 : Int).toNat).drop (x9_1 : Int).toNat).length (c1 - x9_1.toNat), .func (.func 35) #[] #[]] rfl (by (try simp only [List.map_toArray, List.map_cons, List.map_nil]); first | done | (rw [show ((l1.take (t252 : Int).toNat).drop (x9_1 : Int).toNat).length = (t252.toNat - x9_1.toNat) from (by rw [List.length_drop, List.length_take]; have h_ : (t252 : Int) ≤ (l1.length : Int) := of_decide_eq_true (by first | (with_reducible assumption) | assumption); omega)] <;> rfl) | rfl | (simp only [List.length_drop, List.length_take]; rfl)) ?_; (with_reducible refine (slices_ContainsFunc_byte_byte_at_lay_Unhint_1.calls k1 _ _ ((l1.take (t252 : Int).toNat).drop (x9_1 : Int).toNat)  true _ ?side1 ?side2 A65.out).mono ?_); (case side1 => repeat (first | exact (Kd.C_below HR287.out HB.out) | (with_reducible refine Kd.C_alloc ?_ _) | (with_reducible refine Kd.C_drewN ?_ _) | (with_reducible refine Kd.C_drew ?_))); (case side2 => exact HC287.out); rintro e w' ⟨rfl, ⟨nd, rfl⟩⟩; refine ⟨_, rfl, ?_⟩) | ((with_reducible refine gate_callee (f := 27) rfl ?_); refine goesL_ (some 93) rfl rfl Tryd.func27 (by kernel_rfl) rfl #[.int .i64 4] rfl (by (try simp only [List.map_toArray, List.map_cons, List.map_nil]); first | done | rfl | (simp only [List.length_drop, List.length_take]; rfl)) ?_; (with_reducible refine (lay_fault.calls 4 t289 _ A67.out).mono ?_); rintro e w70 ⟨v290, rfl, ho0, hb⟩; refine ⟨_, rfl, ?_⟩; have n0_ := Aside0.mk (Kd.S_below (by (with_reducible repeat (first | apply Kd.S_alloc | apply Kd.S_drewN | apply Kd.S_drew)); exact HO_8.out) hb); have n1_ := Aside0.mk (Kd.R_lower ho0 (below_size (by repeat (first | (with_reducible first | exact HB.out | apply below_alloc | apply pw_below_drewN | apply below_drew1 | refine below_set ?_ GE257.out) | exact HB.out)))); have n2_ := Aside0.mk (blk_below (g := gb257) (o := .cells #[.int .i64 t247, .int .i64 t248, .int .i64 t249, .int .i64 t250, .int .i64 t251, .int .i64 t252, .int .i64 t253, .int .i64 t254, .int .i64 t255] 26 (0, 0)) (by (with_reducible repeat (first | refine blk_drewN ?_ _ | refine blk_drew ?_ | refine blk_alloc ?_ _)); exact BK257.out) hb); have n3_ := Aside0.mk (below_step (by repeat (first | (with_reducible first | exact HB.out | apply below_alloc | apply pw_below_drewN | apply below_drew1 | refine below_set ?_ GE257.out) | exact HB.out)) hb); clear HO_8; clear BK257; clear HB; have HO_8 := n0_; have HO291 := n1_; have BK257 := n2_; have HB := n3_; clear n0_ n1_ n2_ n3_; (try clear hb); (try clear hb2); (try clear hk); (try clear hi); (try clear ho0); (try clear A67)))
                        go_ret2
                        exact ⟨_, _, by first | rfl | (simp [errW_none, errW_some] <;> rfl) | (simp [*, errW_none, errW_some] <;> rfl), by first | exact Kd.S_nil _ _ _ _ _ | exact Kd.N_nil _ _ _ _ _ | exact Kd.V_nil _ _ _ _ _ | exact Kd.Q_nil _ _ _ _ _ | exact Kd.R_nil _ _ _ _ _, by (with_reducible repeat (first | apply Kd.R_alloc | apply Kd.R_drewN | apply Kd.R_drew)); exact HO291.out, by repeat (first | (with_reducible first | exact HB.out | apply below_alloc | apply pw_below_drewN | apply below_drew1 | refine below_set ?_ GE257.out) | exact HB.out)⟩
                      · replace c66 := Bool.eq_false_iff.mpr c66
                        subst c66
                        have H1 : (some (x8_1, ([] : List (S67)))) = some (r1, r2) := by rw [if_neg (show ¬ (false = true) by decide)] at H; exact H
                        clear H
                        have H := H1
                        clear H1
                        simp only [Option.some.injEq, Prod.mk.injEq] at H
                        obtain ⟨rfl, rfl⟩ := H
                        have hcz71_0 : wr.cell? ⟨gb257, 0, none⟩ = some (.int .i64 t247) := (blk_cell BK257.out 0).trans rfl
                        have hcz71_1 : wr.cell? ⟨gb257, 1, none⟩ = some (.int .i64 t248) := (blk_cell BK257.out 1).trans rfl
                        have hcz71_2 : wr.cell? ⟨gb257, 2, none⟩ = some (.int .i64 t249) := (blk_cell BK257.out 2).trans rfl
                        have hcz71_3 : wr.cell? ⟨gb257, 3, none⟩ = some (.int .i64 t250) := (blk_cell BK257.out 3).trans rfl
                        have hcz71_4 : wr.cell? ⟨gb257, 4, none⟩ = some (.int .i64 t251) := (blk_cell BK257.out 4).trans rfl
                        have hcz71_5 : wr.cell? ⟨gb257, 5, none⟩ = some (.int .i64 t252) := (blk_cell BK257.out 5).trans rfl
                        have hcz71_6 : wr.cell? ⟨gb257, 6, none⟩ = some (.int .i64 t253) := (blk_cell BK257.out 6).trans rfl
                        have hcz71_7 : wr.cell? ⟨gb257, 7, none⟩ = some (.int .i64 t254) := (blk_cell BK257.out 7).trans rfl
                        have hcz71_8 : wr.cell? ⟨gb257, 8, none⟩ = some (.int .i64 t255) := (blk_cell BK257.out 8).trans rfl
                        have hfz71_0 := blk_frozen BK257.out 0
                        have hfz71_1 := blk_frozen BK257.out 1
                        have hfz71_2 := blk_frozen BK257.out 2
                        have hfz71_3 := blk_frozen BK257.out 3
                        have hfz71_4 := blk_frozen BK257.out 4
                        have hfz71_5 := blk_frozen BK257.out 5
                        have hfz71_6 := blk_frozen BK257.out 6
                        have hfz71_7 := blk_frozen BK257.out 7
                        have hfz71_8 := blk_frozen BK257.out 8
                        obtain ⟨i072, hi072, _, hsz72, _⟩ := info_parts info5
                        obtain ⟨A72, hcut72, hA72, hC72⟩ := print_mid_of (P := Tryd.prog) (Value.int .u8) 0 30 5 .i64 .i64 Tryd.underlying30 hi072 hsz72 A1 c1 l1 x9_1 t252 (of_decide_eq_true (by first | (with_reducible assumption) | assumption)) (by first | omega | exact of_decide_eq_true (by first | (with_reducible assumption) | assumption)) (of_decide_eq_true (by first | (with_reducible assumption) | assumption)) HC1.out
                        have HR287 := Aside0.mk (Kd.C_of_reads (h1 := fun _ => rfl) (hA72 _ (Kd.reads_of_C HR1.out)))
                        have HC287 := Aside0.mk hC72
                        clear hA72 hC72 hi072 hsz72
                        go_wp2_with (first | ((with_reducible refine gate_callee (f := 34) rfl ?_); refine goesL_ (some 92) rfl rfl Tryd.func34 (by kernel_rfl) rfl #[.slice A72 ((l1.take (t252 : Int).toNat).drop (x9_1 : Int).toNat).length (c1 - x9_1.toNat), .func (.func 35) #[] #[]] rfl (by (try simp only [List.map_toArray, List.map_cons, List.map_nil]); first | done | (rw [show ((l1.take (t252 : Int).toNat).drop (x9_1 : Int).toNat).length = (t252.toNat - x9_1.toNat) from (by rw [List.length_drop, List.length_take]; have h_ : (t252 : Int) ≤ (l1.length : Int) := of_decide_eq_true (by first | (with_reducible assumption) | assumption); omega)] <;> rfl) | rfl | (simp only [List.length_drop, List.length_take]; rfl)) ?_; (with_reducible refine (slices_ContainsFunc_byte_byte_at_lay_Unhint_1.calls k1 _ _ ((l1.take (t252 : Int).toNat).drop (x9_1 : Int).toNat)  false _ ?side1 ?side2 A65.out).mono ?_); (case side1 => repeat (first | exact (Kd.C_below HR287.out HB.out) | (with_reducible refine Kd.C_alloc ?_ _) | (with_reducible refine Kd.C_drewN ?_ _) | (with_reducible refine Kd.C_drew ?_))); (case side2 => exact HC287.out); rintro e w' ⟨rfl, ⟨nd, rfl⟩⟩; refine ⟨_, rfl, ?_⟩))
                        go_ret2
                        exact ⟨_, _, by first | rfl | (simp [errW_none, errW_some] <;> rfl) | (simp [*, errW_none, errW_some] <;> rfl), by (with_reducible repeat (first | apply Kd.S_alloc | apply Kd.S_drewN | apply Kd.S_drew)); exact HO_8.out, by first | exact Kd.R_nil _ _ _ _ _ | exact Kd.N_nil _ _ _ _ _ | exact Kd.V_nil _ _ _ _ _ | exact Kd.Q_nil _ _ _ _ _ | exact Kd.S_nil _ _ _ _ _, by repeat (first | (with_reducible first | exact HB.out | apply below_alloc | apply pw_below_drewN | apply below_drew1 | refine below_set ?_ GE257.out) | exact HB.out)⟩
                    · rw [if_neg c64] at H
                      exact absurd H (by simp)
                  · rw [if_neg c63] at H
                    exact absurd H (by simp)
                · rw [if_neg c62] at H
                  exact absurd H (by simp)
        · rw [if_neg c7] at H
          exact absurd H (by simp)
      · rw [if_neg c6] at H
        exact absurd H (by simp)
    · rw [if_neg c5] at H
      have c5b0 : ((l1.length : Int) == (wrap64 (t252 + t247))) = false := beq_eq_false_iff_ne.mpr c5
      have c5b1 : ((l1.length : Int) != (wrap64 (t252 + t247))) = true := bne_iff_ne.mpr c5
      replace H := Option.bind_eq_some_iff.mp H
      obtain ⟨t261, A730, H⟩ := H
      replace H : (some (([] : List (List Int)), t261)) = some (r1, r2) := H
      have A73 := Aside0.mk A730
      clear A730
      simp only [Option.some.injEq, Prod.mk.injEq] at H
      obtain ⟨rfl, rfl⟩ := H
      go_enter Tryd.func16, Tryd.ntmps16
      go_wp2_with (first | ((with_reducible refine gate_callee (f := 8) rfl ?_); refine goesL_ (some 17) rfl rfl Tryd.func8 (by kernel_rfl) rfl #[.int .i64 a0] rfl (by (try simp only [List.map_toArray, List.map_cons, List.map_nil]); first | done | rfl | (simp only [List.length_drop, List.length_take]; rfl)) ?_; (with_reducible refine (lay_Of.calls a0 t247 t248 t249 t250 t251 t252 t253 t254 t255 true _ A3.out).mono ?_); rintro e w74 ⟨rfl, hb⟩; refine ⟨_, rfl, ?_⟩; have n0_ := Aside0.mk (below_step (by repeat (first | (with_reducible first | exact HB.out | apply below_alloc | apply pw_below_drewN | apply below_drew1) | exact HB.out)) hb); clear HB; have HB := n0_; clear n0_; (try clear hb); (try clear hb2); (try clear hk); (try clear hi); (try clear A3)) | ((with_reducible refine gate_dst (N := 6) rfl ?_); refine box_event ?hg (N := 6) ?hd (cs := #[.int .i64 0, .int .i64 0, .int .i64 0, .int .i64 0, .int .i64 0, .int .i64 0, .int .i64 0, .int .i64 0, .int .i64 0]) (t := 26) ?hr ?_; (case hd => rfl); (case hg => rfl); (case hr => first | (go_simp; done) | (go_simp; rfl)); intro gb257 hg w75 hbox hb; have n0_ := Aside0.mk (below_step (by repeat (first | (with_reducible first | exact HB.out | apply below_alloc | apply pw_below_drewN | apply below_drew1) | exact HB.out)) hb); have n1_ := Aside0.mk (hbox); have n2_ := Aside0.mk ((by rw [hg]; exact (below_size (by repeat (first | (with_reducible first | exact HB.out | apply below_alloc | apply pw_below_drewN | apply below_drew1) | exact HB.out))) : w.heap.size ≤ gb257)); have n3_ := Aside0.mk ((by rw [hg]; exact (below_size (by repeat (first | (with_reducible first | exact HB.out | apply below_alloc | apply pw_below_drewN | apply below_drew1) | exact HB.out))) : w.heap.size ≤ gb257)); clear HB; have HB := n0_; have BK257 := n1_; have GW257 := n2_; have GE257 := n3_; clear n0_ n1_ n2_ n3_; clear hb hbox hg; have hcz76_0 : w75.cell? ⟨gb257, 0, none⟩ = some (.int .i64 0) := (blk_cell BK257.out 0).trans rfl; have hcz76_1 : w75.cell? ⟨gb257, 1, none⟩ = some (.int .i64 0) := (blk_cell BK257.out 1).trans rfl; have hcz76_2 : w75.cell? ⟨gb257, 2, none⟩ = some (.int .i64 0) := (blk_cell BK257.out 2).trans rfl; have hcz76_3 : w75.cell? ⟨gb257, 3, none⟩ = some (.int .i64 0) := (blk_cell BK257.out 3).trans rfl; have hcz76_4 : w75.cell? ⟨gb257, 4, none⟩ = some (.int .i64 0) := (blk_cell BK257.out 4).trans rfl; have hcz76_5 : w75.cell? ⟨gb257, 5, none⟩ = some (.int .i64 0) := (blk_cell BK257.out 5).trans rfl; have hcz76_6 : w75.cell? ⟨gb257, 6, none⟩ = some (.int .i64 0) := (blk_cell BK257.out 6).trans rfl; have hcz76_7 : w75.cell? ⟨gb257, 7, none⟩ = some (.int .i64 0) := (blk_cell BK257.out 7).trans rfl; have hcz76_8 : w75.cell? ⟨gb257, 8, none⟩ = some (.int .i64 0) := (blk_cell BK257.out 8).trans rfl; have hfz76_0 := blk_frozen BK257.out 0; have hfz76_1 := blk_frozen BK257.out 1; have hfz76_2 := blk_frozen BK257.out 2; have hfz76_3 := blk_frozen BK257.out 3; have hfz76_4 := blk_frozen BK257.out 4; have hfz76_5 := blk_frozen BK257.out 5; have hfz76_6 := blk_frozen BK257.out 6; have hfz76_7 := blk_frozen BK257.out 7; have hfz76_8 := blk_frozen BK257.out 8) | ((with_reducible refine gate_callee (f := 27) rfl ?_); refine goesL_ (some 31) rfl rfl Tryd.func27 (by kernel_rfl) rfl #[.int .i64 3] rfl (by (try simp only [List.map_toArray, List.map_cons, List.map_nil]); first | done | rfl | (simp only [List.length_drop, List.length_take]; rfl)) ?_; (with_reducible refine (lay_fault.calls 3 t261 _ A73.out).mono ?_); rintro e w77 ⟨v262, rfl, ho0, hb⟩; refine ⟨_, rfl, ?_⟩; have n0_ := Aside0.mk (Kd.R_lower ho0 (below_size (by repeat (first | (with_reducible first | exact HB.out | apply below_alloc | apply pw_below_drewN | apply below_drew1 | refine below_set ?_ GE257.out) | exact HB.out)))); have n1_ := Aside0.mk (blk_below (g := gb257) (o := .cells #[.int .i64 t247, .int .i64 t248, .int .i64 t249, .int .i64 t250, .int .i64 t251, .int .i64 t252, .int .i64 t253, .int .i64 t254, .int .i64 t255] 26 (0, 0)) (by (with_reducible repeat (first | refine blk_drewN ?_ _ | refine blk_drew ?_ | refine blk_alloc ?_ _)); refine blk_put (cs := #[.int .i64 t247, .int .i64 t248, .int .i64 t249, .int .i64 t250, .int .i64 t251, .int .i64 t252, .int .i64 t253, .int .i64 t254, .int .i64 0]) ?_ 8 _ rfl; (with_reducible repeat (first | refine blk_drewN ?_ _ | refine blk_drew ?_ | refine blk_alloc ?_ _)); refine blk_put (cs := #[.int .i64 t247, .int .i64 t248, .int .i64 t249, .int .i64 t250, .int .i64 t251, .int .i64 t252, .int .i64 t253, .int .i64 0, .int .i64 0]) ?_ 7 _ rfl; (with_reducible repeat (first | refine blk_drewN ?_ _ | refine blk_drew ?_ | refine blk_alloc ?_ _)); refine blk_put (cs := #[.int .i64 t247, .int .i64 t248, .int .i64 t249, .int .i64 t250, .int .i64 t251, .int .i64 t252, .int .i64 0, .int .i64 0, .int .i64 0]) ?_ 6 _ rfl; (with_reducible repeat (first | refine blk_drewN ?_ _ | refine blk_drew ?_ | refine blk_alloc ?_ _)); refine blk_put (cs := #[.int .i64 t247, .int .i64 t248, .int .i64 t249, .int .i64 t250, .int .i64 t251, .int .i64 0, .int .i64 0, .int .i64 0, .int .i64 0]) ?_ 5 _ rfl; (with_reducible repeat (first | refine blk_drewN ?_ _ | refine blk_drew ?_ | refine blk_alloc ?_ _)); refine blk_put (cs := #[.int .i64 t247, .int .i64 t248, .int .i64 t249, .int .i64 t250, .int .i64 0, .int .i64 0, .int .i64 0, .int .i64 0, .int .i64 0]) ?_ 4 _ rfl; (with_reducible repeat (first | refine blk_drewN ?_ _ | refine blk_drew ?_ | refine blk_alloc ?_ _)); refine blk_put (cs := #[.int .i64 t247, .int .i64 t248, .int .i64 t249, .int .i64 0, .int .i64 0, .int .i64 0, .int .i64 0, .int .i64 0, .int .i64 0]) ?_ 3 _ rfl; (with_reducible repeat (first | refine blk_drewN ?_ _ | refine blk_drew ?_ | refine blk_alloc ?_ _)); refine blk_put (cs := #[.int .i64 t247, .int .i64 t248, .int .i64 0, .int .i64 0, .int .i64 0, .int .i64 0, .int .i64 0, .int .i64 0, .int .i64 0]) ?_ 2 _ rfl; (with_reducible repeat (first | refine blk_drewN ?_ _ | refine blk_drew ?_ | refine blk_alloc ?_ _)); refine blk_put (cs := #[.int .i64 t247, .int .i64 0, .int .i64 0, .int .i64 0, .int .i64 0, .int .i64 0, .int .i64 0, .int .i64 0, .int .i64 0]) ?_ 1 _ rfl; (with_reducible repeat (first | refine blk_drewN ?_ _ | refine blk_drew ?_ | refine blk_alloc ?_ _)); refine blk_put (cs := #[.int .i64 0, .int .i64 0, .int .i64 0, .int .i64 0, .int .i64 0, .int .i64 0, .int .i64 0, .int .i64 0, .int .i64 0]) ?_ 0 _ rfl; (with_reducible repeat (first | refine blk_drewN ?_ _ | refine blk_drew ?_ | refine blk_alloc ?_ _)); exact BK257.out) hb); have n2_ := Aside0.mk (below_step (by repeat (first | (with_reducible first | exact HB.out | apply below_alloc | apply pw_below_drewN | apply below_drew1 | refine below_set ?_ GE257.out) | exact HB.out)) hb); clear BK257; clear HB; have HO263 := n0_; have BK257 := n1_; have HB := n2_; clear n0_ n1_ n2_; (try clear hb); (try clear hb2); (try clear hk); (try clear hi); (try clear ho0); (try clear A73)))
      go_ret2
      exact ⟨_, _, by first | rfl | (simp [errW_none, errW_some] <;> rfl) | (simp [*, errW_none, errW_some] <;> rfl), by first | exact Kd.S_nil _ _ _ _ _ | exact Kd.N_nil _ _ _ _ _ | exact Kd.V_nil _ _ _ _ _ | exact Kd.Q_nil _ _ _ _ _ | exact Kd.R_nil _ _ _ _ _, by (with_reducible repeat (first | apply Kd.R_alloc | apply Kd.R_drewN | apply Kd.R_drew)); exact HO263.out, by repeat (first | (with_reducible first | exact HB.out | apply below_alloc | apply pw_below_drewN | apply below_drew1 | refine below_set ?_ GE257.out) | exact HB.out)⟩
  · replace c4 := Bool.eq_false_iff.mpr c4
    subst c4
    have H1 : ((lay_fault.f 2).bind fun t258 => (some (([] : List (List Int)), t258))) = some (r1, r2) := by rw [if_neg (show ¬ (false = true) by decide)] at H; exact H
    clear H
    have H := H1
    clear H1
    replace H := Option.bind_eq_some_iff.mp H
    obtain ⟨t258, A780, H⟩ := H
    replace H : (some (([] : List (List Int)), t258)) = some (r1, r2) := H
    have A78 := Aside0.mk A780
    clear A780
    simp only [Option.some.injEq, Prod.mk.injEq] at H
    obtain ⟨rfl, rfl⟩ := H
    go_enter Tryd.func16, Tryd.ntmps16
    go_wp2_with (first | ((with_reducible refine gate_callee (f := 8) rfl ?_); refine goesL_ (some 17) rfl rfl Tryd.func8 (by kernel_rfl) rfl #[.int .i64 a0] rfl (by (try simp only [List.map_toArray, List.map_cons, List.map_nil]); first | done | rfl | (simp only [List.length_drop, List.length_take]; rfl)) ?_; (with_reducible refine (lay_Of.calls a0 t247 t248 t249 t250 t251 t252 t253 t254 t255 false _ A3.out).mono ?_); rintro e w79 ⟨rfl, hb⟩; refine ⟨_, rfl, ?_⟩; have n0_ := Aside0.mk (below_step (by repeat (first | (with_reducible first | exact HB.out | apply below_alloc | apply pw_below_drewN | apply below_drew1) | exact HB.out)) hb); clear HB; have HB := n0_; clear n0_; (try clear hb); (try clear hb2); (try clear hk); (try clear hi); (try clear A3)) | ((with_reducible refine gate_dst (N := 6) rfl ?_); refine box_event ?hg (N := 6) ?hd (cs := #[.int .i64 0, .int .i64 0, .int .i64 0, .int .i64 0, .int .i64 0, .int .i64 0, .int .i64 0, .int .i64 0, .int .i64 0]) (t := 26) ?hr ?_; (case hd => rfl); (case hg => rfl); (case hr => first | (go_simp; done) | (go_simp; rfl)); intro gb257 hg w80 hbox hb; have n0_ := Aside0.mk (below_step (by repeat (first | (with_reducible first | exact HB.out | apply below_alloc | apply pw_below_drewN | apply below_drew1) | exact HB.out)) hb); have n1_ := Aside0.mk (hbox); have n2_ := Aside0.mk ((by rw [hg]; exact (below_size (by repeat (first | (with_reducible first | exact HB.out | apply below_alloc | apply pw_below_drewN | apply below_drew1) | exact HB.out))) : w.heap.size ≤ gb257)); have n3_ := Aside0.mk ((by rw [hg]; exact (below_size (by repeat (first | (with_reducible first | exact HB.out | apply below_alloc | apply pw_below_drewN | apply below_drew1) | exact HB.out))) : w.heap.size ≤ gb257)); clear HB; have HB := n0_; have BK257 := n1_; have GW257 := n2_; have GE257 := n3_; clear n0_ n1_ n2_ n3_; clear hb hbox hg; have hcz81_0 : w80.cell? ⟨gb257, 0, none⟩ = some (.int .i64 0) := (blk_cell BK257.out 0).trans rfl; have hcz81_1 : w80.cell? ⟨gb257, 1, none⟩ = some (.int .i64 0) := (blk_cell BK257.out 1).trans rfl; have hcz81_2 : w80.cell? ⟨gb257, 2, none⟩ = some (.int .i64 0) := (blk_cell BK257.out 2).trans rfl; have hcz81_3 : w80.cell? ⟨gb257, 3, none⟩ = some (.int .i64 0) := (blk_cell BK257.out 3).trans rfl; have hcz81_4 : w80.cell? ⟨gb257, 4, none⟩ = some (.int .i64 0) := (blk_cell BK257.out 4).trans rfl; have hcz81_5 : w80.cell? ⟨gb257, 5, none⟩ = some (.int .i64 0) := (blk_cell BK257.out 5).trans rfl; have hcz81_6 : w80.cell? ⟨gb257, 6, none⟩ = some (.int .i64 0) := (blk_cell BK257.out 6).trans rfl; have hcz81_7 : w80.cell? ⟨gb257, 7, none⟩ = some (.int .i64 0) := (blk_cell BK257.out 7).trans rfl; have hcz81_8 : w80.cell? ⟨gb257, 8, none⟩ = some (.int .i64 0) := (blk_cell BK257.out 8).trans rfl; have hfz81_0 := blk_frozen BK257.out 0; have hfz81_1 := blk_frozen BK257.out 1; have hfz81_2 := blk_frozen BK257.out 2; have hfz81_3 := blk_frozen BK257.out 3; have hfz81_4 := blk_frozen BK257.out 4; have hfz81_5 := blk_frozen BK257.out 5; have hfz81_6 := blk_frozen BK257.out 6; have hfz81_7 := blk_frozen BK257.out 7; have hfz81_8 := blk_frozen BK257.out 8) | ((with_reducible refine gate_callee (f := 27) rfl ?_); refine goesL_ (some 22) rfl rfl Tryd.func27 (by kernel_rfl) rfl #[.int .i64 2] rfl (by (try simp only [List.map_toArray, List.map_cons, List.map_nil]); first | done | rfl | (simp only [List.length_drop, List.length_take]; rfl)) ?_; (with_reducible refine (lay_fault.calls 2 t258 _ A78.out).mono ?_); rintro e w82 ⟨v259, rfl, ho0, hb⟩; refine ⟨_, rfl, ?_⟩; have n0_ := Aside0.mk (Kd.R_lower ho0 (below_size (by repeat (first | (with_reducible first | exact HB.out | apply below_alloc | apply pw_below_drewN | apply below_drew1 | refine below_set ?_ GE257.out) | exact HB.out)))); have n1_ := Aside0.mk (blk_below (g := gb257) (o := .cells #[.int .i64 t247, .int .i64 t248, .int .i64 t249, .int .i64 t250, .int .i64 t251, .int .i64 t252, .int .i64 t253, .int .i64 t254, .int .i64 t255] 26 (0, 0)) (by (with_reducible repeat (first | refine blk_drewN ?_ _ | refine blk_drew ?_ | refine blk_alloc ?_ _)); refine blk_put (cs := #[.int .i64 t247, .int .i64 t248, .int .i64 t249, .int .i64 t250, .int .i64 t251, .int .i64 t252, .int .i64 t253, .int .i64 t254, .int .i64 0]) ?_ 8 _ rfl; (with_reducible repeat (first | refine blk_drewN ?_ _ | refine blk_drew ?_ | refine blk_alloc ?_ _)); refine blk_put (cs := #[.int .i64 t247, .int .i64 t248, .int .i64 t249, .int .i64 t250, .int .i64 t251, .int .i64 t252, .int .i64 t253, .int .i64 0, .int .i64 0]) ?_ 7 _ rfl; (with_reducible repeat (first | refine blk_drewN ?_ _ | refine blk_drew ?_ | refine blk_alloc ?_ _)); refine blk_put (cs := #[.int .i64 t247, .int .i64 t248, .int .i64 t249, .int .i64 t250, .int .i64 t251, .int .i64 t252, .int .i64 0, .int .i64 0, .int .i64 0]) ?_ 6 _ rfl; (with_reducible repeat (first | refine blk_drewN ?_ _ | refine blk_drew ?_ | refine blk_alloc ?_ _)); refine blk_put (cs := #[.int .i64 t247, .int .i64 t248, .int .i64 t249, .int .i64 t250, .int .i64 t251, .int .i64 0, .int .i64 0, .int .i64 0, .int .i64 0]) ?_ 5 _ rfl; (with_reducible repeat (first | refine blk_drewN ?_ _ | refine blk_drew ?_ | refine blk_alloc ?_ _)); refine blk_put (cs := #[.int .i64 t247, .int .i64 t248, .int .i64 t249, .int .i64 t250, .int .i64 0, .int .i64 0, .int .i64 0, .int .i64 0, .int .i64 0]) ?_ 4 _ rfl; (with_reducible repeat (first | refine blk_drewN ?_ _ | refine blk_drew ?_ | refine blk_alloc ?_ _)); refine blk_put (cs := #[.int .i64 t247, .int .i64 t248, .int .i64 t249, .int .i64 0, .int .i64 0, .int .i64 0, .int .i64 0, .int .i64 0, .int .i64 0]) ?_ 3 _ rfl; (with_reducible repeat (first | refine blk_drewN ?_ _ | refine blk_drew ?_ | refine blk_alloc ?_ _)); refine blk_put (cs := #[.int .i64 t247, .int .i64 t248, .int .i64 0, .int .i64 0, .int .i64 0, .int .i64 0, .int .i64 0, .int .i64 0, .int .i64 0]) ?_ 2 _ rfl; (with_reducible repeat (first | refine blk_drewN ?_ _ | refine blk_drew ?_ | refine blk_alloc ?_ _)); refine blk_put (cs := #[.int .i64 t247, .int .i64 0, .int .i64 0, .int .i64 0, .int .i64 0, .int .i64 0, .int .i64 0, .int .i64 0, .int .i64 0]) ?_ 1 _ rfl; (with_reducible repeat (first | refine blk_drewN ?_ _ | refine blk_drew ?_ | refine blk_alloc ?_ _)); refine blk_put (cs := #[.int .i64 0, .int .i64 0, .int .i64 0, .int .i64 0, .int .i64 0, .int .i64 0, .int .i64 0, .int .i64 0, .int .i64 0]) ?_ 0 _ rfl; (with_reducible repeat (first | refine blk_drewN ?_ _ | refine blk_drew ?_ | refine blk_alloc ?_ _)); exact BK257.out) hb); have n2_ := Aside0.mk (below_step (by repeat (first | (with_reducible first | exact HB.out | apply below_alloc | apply pw_below_drewN | apply below_drew1 | refine below_set ?_ GE257.out) | exact HB.out)) hb); clear BK257; clear HB; have HO260 := n0_; have BK257 := n1_; have HB := n2_; clear n0_ n1_ n2_; (try clear hb); (try clear hb2); (try clear hk); (try clear hi); (try clear ho0); (try clear A78)))
    go_ret2
    exact ⟨_, _, by first | rfl | (simp [errW_none, errW_some] <;> rfl) | (simp [*, errW_none, errW_some] <;> rfl), by first | exact Kd.S_nil _ _ _ _ _ | exact Kd.N_nil _ _ _ _ _ | exact Kd.V_nil _ _ _ _ _ | exact Kd.Q_nil _ _ _ _ _ | exact Kd.R_nil _ _ _ _ _, by (with_reducible repeat (first | apply Kd.R_alloc | apply Kd.R_drewN | apply Kd.R_drew)); exact HO260.out, by repeat (first | (with_reducible first | exact HB.out | apply below_alloc | apply pw_below_drewN | apply below_drew1 | refine below_set ?_ GE257.out) | exact HB.out)⟩

end Go.Proofs.YtggiddekbocokaaDoor.PLR
end
section
namespace Go.Proofs.YtggiddekbocokaaDoor.PLR
open Go.RowKit Go.Proofs.YtggiddekbocokaaDoorW.PrintWords Go.Proofs.YtggiddekbocokaaDoorW.PrintLast Go.Proofs.YtggiddekbocokaaDoorW.PrintMore
attribute [local go_sem] max2_int min2_int max_two min_two max_three min_three max_four min_four   -- for this text's walks alone
set_option linter.unusedVariables false
set_option linter.unusedSimpArgs false

/-! ### chatelainelaw0_SameInts: function 36 -/
def chatelainelaw0_SameInts.l0 : Nat → List Int → List Int → Int → Option (Bool)
  | 0, _, _, _ => none
  | k + 1, x0, x1, x5 => if x5 < (x0.length : Int) then (if 0 ≤ x5 then (if x5 < (x1.length : Int) then (if (rd x0 x5) = (rd x1 x5) then (chatelainelaw0_SameInts.l0 k x0 x1 (wrap64 (x5 + 1))) else (some false)) else (none)) else (none)) else (some true)
def chatelainelaw0_SameInts.f (k : Nat) (l0 : List Int) (l1 : List Int) : Option (Bool) := if (l0.length : Int) = (l1.length : Int) then (chatelainelaw0_SameInts.l0 k l0 l1 0) else (some false)
set_option maxHeartbeats 8000000 in
set_option maxRecDepth 100000 in
theorem chatelainelaw0_SameInts.calls (k : Nat) (A0 : Option Addr) (c0 : Nat) (l0 : List Int) (A1 : Option Addr) (c1 : Nat) (l1 : List Int) (r : Bool) (w : World) (hr0 : Kd.C (Kd.int .i64) w A0 l0.length l0) (hc0 : l0.length ≤ c0) (hr1 : Kd.C (Kd.int .i64) w A1 l1.length l1) (hc1 : l1.length ≤ c1) (h : chatelainelaw0_SameInts.f k l0 l1 = some r) :
    Calls Tryd.prog 36 #[.slice A0 l0.length c0, .slice A1 l1.length c1] w fun e w' => e = .returned (.bool r) ∧ Drawn0 w w' := by
  have HR0 := Aside0.mk hr0
  have HC0 := Aside0.mk hc0
  clear hr0 hc0
  have HR1 := Aside0.mk hr1
  have HC1 := Aside0.mk hc1
  clear hr1 hc1
  have H : (if (l0.length : Int) = (l1.length : Int) then (chatelainelaw0_SameInts.l0 k l0 l1 0) else (some false)) = some r := h
  clear h
  by_cases c3 : (l0.length : Int) = (l1.length : Int)
  · rw [if_pos c3] at H
    have c3b0 : ((l0.length : Int) == (l1.length : Int)) = true := beq_iff_eq.mpr c3
    have c3b1 : ((l0.length : Int) != (l1.length : Int)) = false := bne_eq_false_iff_eq.mpr c3
    have c3b2 : (l0.length == l1.length) = true := by first | simpa using c3 | (simp at c3 ⊢; omega)
    clear c3
    have H' := Aside0.mk H
    clear H
    go_enter Tryd.func36, Tryd.ntmps36
    go_wp2
    repeat (go_quiet (fail); try go_wp2)
    go_loopg [5] k (fun kq v5 w' => ∃ (x5_1 : Int), v5 = .int .i64 x5_1 ∧ Aside0 (chatelainelaw0_SameInts.l0 kq l0 l1 x5_1 = some r) ∧ Aside0 (kq ≤ k) ∧ Drawn0 w w')
    case atStart => exact ⟨(0), (by first | rfl | (simp; done) | (simp [*]; done)), H', ⟨Nat.le_refl _⟩, by repeat (first | exact Drawn0.refl _ | apply Drawn0.step)⟩
    case round =>
      clear H'
      try clear c1
      try clear p2
      try clear c3
      try clear c3b0
      try clear c3b1
      try clear c3b2
      obtain ⟨x5_1, rfl, HA, HK1, ⟨m1, rfl⟩⟩ := hrel
      cases gk with
      | zero => exact absurd HA.out (by simp [chatelainelaw0_SameInts.l0])
      | succ k1 =>
        have H := HA.out
        clear HA
        simp only [chatelainelaw0_SameInts.l0] at H
        by_cases c4 : x5_1 < (l0.length : Int)
        · rw [if_pos c4] at H
          have c4b0 : decide (x5_1 < (l0.length : Int)) = true := decide_eq_true c4
          clear c4
          by_cases c5 : 0 ≤ x5_1
          · rw [if_pos c5] at H
            have c5b0 : decide (0 ≤ x5_1) = true := decide_eq_true c5
            clear c5
            by_cases c6 : x5_1 < (l1.length : Int)
            · rw [if_pos c6] at H
              have c6b0 : decide (x5_1 < (l1.length : Int)) = true := decide_eq_true c6
              clear c6
              by_cases c7 : (rd l0 x5_1) = (rd l1 x5_1)
              · rw [if_pos c7] at H
                have c7b0 : ((rd l0 x5_1) == (rd l1 x5_1)) = true := beq_iff_eq.mpr c7
                have c7b1 : ((rd l0 x5_1) != (rd l1 x5_1)) = false := bne_eq_false_iff_eq.mpr c7
                clear c7
                have H' := Aside0.mk H
                clear H
                have p292 : 0 ≤ (x5_1 : Int) := of_decide_eq_true (by first | (with_reducible assumption) | assumption)
                have q292 : x5_1 < (l0.length : Int) := of_decide_eq_true (by first | (with_reducible assumption) | assumption)
                obtain ⟨ad292, e292, hx292_0⟩ := Kd.at_int HR0.out x5_1 p292 q292
                cases e292
                replace p292 := eq_true p292
                replace q292 := eq_true q292
                have p293 : 0 ≤ (x5_1 : Int) := of_decide_eq_true (by first | (with_reducible assumption) | assumption)
                have q293 : x5_1 < (l1.length : Int) := of_decide_eq_true (by first | (with_reducible assumption) | assumption)
                obtain ⟨ad293, e293, hx293_0⟩ := Kd.at_int HR1.out x5_1 p293 q293
                cases e293
                replace p293 := eq_true p293
                replace q293 := eq_true q293
                go_wp2
                repeat (go_quiet (fail); try go_wp2)
                go_roundg k1
                case measure => have := HK1.out; omega
                case rel => exact ⟨(wrap64 (x5_1 + 1)), (by first | rfl | (simp; done) | (simp [*]; done)), H', ⟨by have := HK1.out; omega⟩, by repeat (first | exact Drawn0.refl _ | apply Drawn0.step)⟩
              · rw [if_neg c7] at H
                have c7b0 : ((rd l0 x5_1) == (rd l1 x5_1)) = false := beq_eq_false_iff_ne.mpr c7
                have c7b1 : ((rd l0 x5_1) != (rd l1 x5_1)) = true := bne_iff_ne.mpr c7
                obtain rfl := Option.some.inj H
                have p292 : 0 ≤ (x5_1 : Int) := of_decide_eq_true (by first | (with_reducible assumption) | assumption)
                have q292 : x5_1 < (l0.length : Int) := of_decide_eq_true (by first | (with_reducible assumption) | assumption)
                obtain ⟨ad292, e292, hx292_0⟩ := Kd.at_int HR0.out x5_1 p292 q292
                cases e292
                replace p292 := eq_true p292
                replace q292 := eq_true q292
                have p293 : 0 ≤ (x5_1 : Int) := of_decide_eq_true (by first | (with_reducible assumption) | assumption)
                have q293 : x5_1 < (l1.length : Int) := of_decide_eq_true (by first | (with_reducible assumption) | assumption)
                obtain ⟨ad293, e293, hx293_0⟩ := Kd.at_int HR1.out x5_1 p293 q293
                cases e293
                replace p293 := eq_true p293
                replace q293 := eq_true q293
                go_wp2
                repeat (go_quiet (fail); try go_wp2)
                go_ret
                exact ⟨by first | rfl | (simp; done) | (simp [*]; done), by repeat (first | exact Drawn0.refl _ | apply Drawn0.step)⟩
            · rw [if_neg c6] at H
              exact absurd H (by simp)
          · rw [if_neg c5] at H
            exact absurd H (by simp)
        · rw [if_neg c4] at H
          have c4b0 : decide (x5_1 < (l0.length : Int)) = false := decide_eq_false c4
          clear c4
          obtain rfl := Option.some.inj H
          go_wp2
          repeat (go_quiet (fail); try go_wp2)
          go_ret
          exact ⟨by first | rfl | (simp; done) | (simp [*]; done), by repeat (first | exact Drawn0.refl _ | apply Drawn0.step)⟩
  · rw [if_neg c3] at H
    have c3b0 : ((l0.length : Int) == (l1.length : Int)) = false := beq_eq_false_iff_ne.mpr c3
    have c3b1 : ((l0.length : Int) != (l1.length : Int)) = true := bne_iff_ne.mpr c3
    have c3b2 : (l0.length == l1.length) = false := by first | simpa using c3 | (simp at c3 ⊢; omega)
    obtain rfl := Option.some.inj H
    go_enter Tryd.func36, Tryd.ntmps36
    go_wp2
    repeat (go_quiet (fail); try go_wp2)
    go_ret
    exact ⟨by first | rfl | (simp; done) | (simp [*]; done), by repeat (first | exact Drawn0.refl _ | apply Drawn0.step)⟩

end Go.Proofs.YtggiddekbocokaaDoor.PLR
end
section
namespace Go.Proofs.YtggiddekbocokaaDoor.PLR
open Go.RowKit Go.Proofs.YtggiddekbocokaaDoorW.PrintWords Go.Proofs.YtggiddekbocokaaDoorW.PrintLast Go.Proofs.YtggiddekbocokaaDoorW.PrintMore
attribute [local go_sem] max2_int min2_int max_two min_two max_three min_three max_four min_four   -- for this text's walks alone
set_option linter.unusedVariables false
set_option linter.unusedSimpArgs false

/-! ### chatelainelaw0_SamePolys: function 17 -/
def chatelainelaw0_SamePolys.l0 : Nat → List (List Int) → List (List Int) → Int → Option (Bool)
  | 0, _, _, _ => none
  | k + 1, x0, x1, x5 => if x5 < (x0.length : Int) then (if 0 ≤ x5 then (if x5 < (x1.length : Int) then ((chatelainelaw0_SameInts.f k (rd_L3 x0 x5) (rd_L3 x1 x5)).bind fun t296 => (if t296 = true then (chatelainelaw0_SamePolys.l0 k x0 x1 (wrap64 (x5 + 1))) else (some false))) else (none)) else (none)) else (some true)
def chatelainelaw0_SamePolys.f (k : Nat) (l0 : List (List Int)) (l1 : List (List Int)) : Option (Bool) := if (l0.length : Int) = (l1.length : Int) then (chatelainelaw0_SamePolys.l0 k l0 l1 0) else (some false)
set_option maxHeartbeats 8000000 in
set_option maxRecDepth 100000 in
theorem chatelainelaw0_SamePolys.calls (k : Nat) (A0 : Option Addr) (c0 : Nat) (l0 : List (List Int)) (A1 : Option Addr) (c1 : Nat) (l1 : List (List Int)) (r : Bool) (w : World) (hr0 : Kd.C (Kd.slice 3 (Kd.int .i64)) w A0 l0.length l0) (hc0 : l0.length ≤ c0) (hr1 : Kd.C (Kd.slice 3 (Kd.int .i64)) w A1 l1.length l1) (hc1 : l1.length ≤ c1) (h : chatelainelaw0_SamePolys.f k l0 l1 = some r) :
    Calls Tryd.prog 17 #[.slice A0 l0.length c0, .slice A1 l1.length c1] w fun e w' => e = .returned (.bool r) ∧ Drawn0 w w' := by
  have HR0 := Aside0.mk hr0
  have HC0 := Aside0.mk hc0
  clear hr0 hc0
  have HR1 := Aside0.mk hr1
  have HC1 := Aside0.mk hc1
  clear hr1 hc1
  have H : (if (l0.length : Int) = (l1.length : Int) then (chatelainelaw0_SamePolys.l0 k l0 l1 0) else (some false)) = some r := h
  clear h
  by_cases c3 : (l0.length : Int) = (l1.length : Int)
  · rw [if_pos c3] at H
    have c3b0 : ((l0.length : Int) == (l1.length : Int)) = true := beq_iff_eq.mpr c3
    have c3b1 : ((l0.length : Int) != (l1.length : Int)) = false := bne_eq_false_iff_eq.mpr c3
    have c3b2 : (l0.length == l1.length) = true := by first | simpa using c3 | (simp at c3 ⊢; omega)
    clear c3
    have H' := Aside0.mk H
    clear H
    go_enter Tryd.func17, Tryd.ntmps17
    go_wp2
    repeat (go_quiet (fail); try go_wp2)
    go_loopg [5] k (fun kq v5 w' => ∃ (x5_1 : Int), v5 = .int .i64 x5_1 ∧ Aside0 (chatelainelaw0_SamePolys.l0 kq l0 l1 x5_1 = some r) ∧ Aside0 (kq ≤ k) ∧ Drawn0 w w')
    case atStart => exact ⟨(0), (by first | rfl | (simp; done) | (simp [*]; done)), H', ⟨Nat.le_refl _⟩, by repeat (first | exact Drawn0.refl _ | apply Drawn0.step)⟩
    case round =>
      clear H'
      try clear c1
      try clear p2
      try clear c3
      try clear c3b0
      try clear c3b1
      try clear c3b2
      obtain ⟨x5_1, rfl, HA, HK1, ⟨m1, rfl⟩⟩ := hrel
      cases gk with
      | zero => exact absurd HA.out (by simp [chatelainelaw0_SamePolys.l0])
      | succ k1 =>
        have H := HA.out
        clear HA
        simp only [chatelainelaw0_SamePolys.l0] at H
        by_cases c4 : x5_1 < (l0.length : Int)
        · rw [if_pos c4] at H
          have c4b0 : decide (x5_1 < (l0.length : Int)) = true := decide_eq_true c4
          clear c4
          by_cases c5 : 0 ≤ x5_1
          · rw [if_pos c5] at H
            have c5b0 : decide (0 ≤ x5_1) = true := decide_eq_true c5
            clear c5
            by_cases c6 : x5_1 < (l1.length : Int)
            · rw [if_pos c6] at H
              have c6b0 : decide (x5_1 < (l1.length : Int)) = true := decide_eq_true c6
              clear c6
              replace H := Option.bind_eq_some_iff.mp H
              obtain ⟨t296, A70, H⟩ := H
              replace H : (if t296 = true then (chatelainelaw0_SamePolys.l0 k1 l0 l1 (wrap64 (x5_1 + 1))) else (some false)) = some r := H
              have A7 := Aside0.mk A70
              clear A70
              by_cases c8 : t296 = true
              · subst c8
                have H1 : (chatelainelaw0_SamePolys.l0 k1 l0 l1 (wrap64 (x5_1 + 1))) = some r := by rw [if_pos rfl] at H; exact H
                clear H
                have H := H1
                clear H1
                have H' := Aside0.mk H
                clear H
                have p294 : 0 ≤ (x5_1 : Int) := of_decide_eq_true (by first | (with_reducible assumption) | assumption)
                have q294 : x5_1 < (l0.length : Int) := of_decide_eq_true (by first | (with_reducible assumption) | assumption)
                obtain ⟨ad294, A294_0, c294_0, e294, hx294_0, hl294_0, hi294_0⟩ := at_L3 HR0.out x5_1 p294 q294
                cases e294
                have HR294_0 := Aside0.mk hi294_0
                have HC294_0 := Aside0.mk hl294_0
                clear hi294_0 hl294_0
                replace p294 := eq_true p294
                replace q294 := eq_true q294
                have p295 : 0 ≤ (x5_1 : Int) := of_decide_eq_true (by first | (with_reducible assumption) | assumption)
                have q295 : x5_1 < (l1.length : Int) := of_decide_eq_true (by first | (with_reducible assumption) | assumption)
                obtain ⟨ad295, A295_0, c295_0, e295, hx295_0, hl295_0, hi295_0⟩ := at_L3 HR1.out x5_1 p295 q295
                cases e295
                have HR295_0 := Aside0.mk hi295_0
                have HC295_0 := Aside0.mk hl295_0
                clear hi295_0 hl295_0
                replace p295 := eq_true p295
                replace q295 := eq_true q295
                go_wp2_with (first | (go_at_call 36; (with_reducible refine (chatelainelaw0_SameInts.calls k1 _ _ (rd_L3 l0 x5_1) _ _ (rd_L3 l1 x5_1) true _ ?side1 ?side2 ?side3 ?side4 A7.out).mono ?_); (case side1 => repeat (first | exact HR294_0.out | (with_reducible refine Kd.C_alloc ?_ _) | (with_reducible refine Kd.C_drewN ?_ _) | (with_reducible refine Kd.C_drew ?_))); (case side2 => exact HC294_0.out); (case side3 => repeat (first | exact HR295_0.out | (with_reducible refine Kd.C_alloc ?_ _) | (with_reducible refine Kd.C_drewN ?_ _) | (with_reducible refine Kd.C_drew ?_))); (case side4 => exact HC295_0.out); rintro e w' ⟨rfl, ⟨nd, rfl⟩⟩; (try first | exact ⟨rfl, _, World.drewN_drewN _ _ _⟩ | exact ⟨rfl, _, Eq.trans (World.drewN_drewN _ _ _) (congrArg (World.drewN _) (Nat.add_assoc _ _ _))⟩)))
                repeat (go_quiet (first | (go_at_call 36; (with_reducible refine (chatelainelaw0_SameInts.calls k1 _ _ (rd_L3 l0 x5_1) _ _ (rd_L3 l1 x5_1) true _ ?side1 ?side2 ?side3 ?side4 A7.out).mono ?_); (case side1 => repeat (first | exact HR294_0.out | (with_reducible refine Kd.C_alloc ?_ _) | (with_reducible refine Kd.C_drewN ?_ _) | (with_reducible refine Kd.C_drew ?_))); (case side2 => exact HC294_0.out); (case side3 => repeat (first | exact HR295_0.out | (with_reducible refine Kd.C_alloc ?_ _) | (with_reducible refine Kd.C_drewN ?_ _) | (with_reducible refine Kd.C_drew ?_))); (case side4 => exact HC295_0.out); rintro e w' ⟨rfl, ⟨nd, rfl⟩⟩; (try first | exact ⟨rfl, _, World.drewN_drewN _ _ _⟩ | exact ⟨rfl, _, Eq.trans (World.drewN_drewN _ _ _) (congrArg (World.drewN _) (Nat.add_assoc _ _ _))⟩))); try go_wp2_with (first | (go_at_call 36; (with_reducible refine (chatelainelaw0_SameInts.calls k1 _ _ (rd_L3 l0 x5_1) _ _ (rd_L3 l1 x5_1) true _ ?side1 ?side2 ?side3 ?side4 A7.out).mono ?_); (case side1 => repeat (first | exact HR294_0.out | (with_reducible refine Kd.C_alloc ?_ _) | (with_reducible refine Kd.C_drewN ?_ _) | (with_reducible refine Kd.C_drew ?_))); (case side2 => exact HC294_0.out); (case side3 => repeat (first | exact HR295_0.out | (with_reducible refine Kd.C_alloc ?_ _) | (with_reducible refine Kd.C_drewN ?_ _) | (with_reducible refine Kd.C_drew ?_))); (case side4 => exact HC295_0.out); rintro e w' ⟨rfl, ⟨nd, rfl⟩⟩; (try first | exact ⟨rfl, _, World.drewN_drewN _ _ _⟩ | exact ⟨rfl, _, Eq.trans (World.drewN_drewN _ _ _) (congrArg (World.drewN _) (Nat.add_assoc _ _ _))⟩))))
                go_roundg k1
                case measure => have := HK1.out; omega
                case rel => exact ⟨(wrap64 (x5_1 + 1)), (by first | rfl | (simp; done) | (simp [*]; done)), H', ⟨by have := HK1.out; omega⟩, by repeat (first | exact Drawn0.refl _ | apply Drawn0.step)⟩
              · replace c8 := Bool.eq_false_iff.mpr c8
                subst c8
                have H1 : (some false) = some r := by rw [if_neg (show ¬ (false = true) by decide)] at H; exact H
                clear H
                have H := H1
                clear H1
                obtain rfl := Option.some.inj H
                have p294 : 0 ≤ (x5_1 : Int) := of_decide_eq_true (by first | (with_reducible assumption) | assumption)
                have q294 : x5_1 < (l0.length : Int) := of_decide_eq_true (by first | (with_reducible assumption) | assumption)
                obtain ⟨ad294, A294_0, c294_0, e294, hx294_0, hl294_0, hi294_0⟩ := at_L3 HR0.out x5_1 p294 q294
                cases e294
                have HR294_0 := Aside0.mk hi294_0
                have HC294_0 := Aside0.mk hl294_0
                clear hi294_0 hl294_0
                replace p294 := eq_true p294
                replace q294 := eq_true q294
                have p295 : 0 ≤ (x5_1 : Int) := of_decide_eq_true (by first | (with_reducible assumption) | assumption)
                have q295 : x5_1 < (l1.length : Int) := of_decide_eq_true (by first | (with_reducible assumption) | assumption)
                obtain ⟨ad295, A295_0, c295_0, e295, hx295_0, hl295_0, hi295_0⟩ := at_L3 HR1.out x5_1 p295 q295
                cases e295
                have HR295_0 := Aside0.mk hi295_0
                have HC295_0 := Aside0.mk hl295_0
                clear hi295_0 hl295_0
                replace p295 := eq_true p295
                replace q295 := eq_true q295
                go_wp2_with (first | (go_at_call 36; (with_reducible refine (chatelainelaw0_SameInts.calls k1 _ _ (rd_L3 l0 x5_1) _ _ (rd_L3 l1 x5_1) false _ ?side1 ?side2 ?side3 ?side4 A7.out).mono ?_); (case side1 => repeat (first | exact HR294_0.out | (with_reducible refine Kd.C_alloc ?_ _) | (with_reducible refine Kd.C_drewN ?_ _) | (with_reducible refine Kd.C_drew ?_))); (case side2 => exact HC294_0.out); (case side3 => repeat (first | exact HR295_0.out | (with_reducible refine Kd.C_alloc ?_ _) | (with_reducible refine Kd.C_drewN ?_ _) | (with_reducible refine Kd.C_drew ?_))); (case side4 => exact HC295_0.out); rintro e w' ⟨rfl, ⟨nd, rfl⟩⟩; (try first | exact ⟨rfl, _, World.drewN_drewN _ _ _⟩ | exact ⟨rfl, _, Eq.trans (World.drewN_drewN _ _ _) (congrArg (World.drewN _) (Nat.add_assoc _ _ _))⟩)))
                repeat (go_quiet (first | (go_at_call 36; (with_reducible refine (chatelainelaw0_SameInts.calls k1 _ _ (rd_L3 l0 x5_1) _ _ (rd_L3 l1 x5_1) false _ ?side1 ?side2 ?side3 ?side4 A7.out).mono ?_); (case side1 => repeat (first | exact HR294_0.out | (with_reducible refine Kd.C_alloc ?_ _) | (with_reducible refine Kd.C_drewN ?_ _) | (with_reducible refine Kd.C_drew ?_))); (case side2 => exact HC294_0.out); (case side3 => repeat (first | exact HR295_0.out | (with_reducible refine Kd.C_alloc ?_ _) | (with_reducible refine Kd.C_drewN ?_ _) | (with_reducible refine Kd.C_drew ?_))); (case side4 => exact HC295_0.out); rintro e w' ⟨rfl, ⟨nd, rfl⟩⟩; (try first | exact ⟨rfl, _, World.drewN_drewN _ _ _⟩ | exact ⟨rfl, _, Eq.trans (World.drewN_drewN _ _ _) (congrArg (World.drewN _) (Nat.add_assoc _ _ _))⟩))); try go_wp2_with (first | (go_at_call 36; (with_reducible refine (chatelainelaw0_SameInts.calls k1 _ _ (rd_L3 l0 x5_1) _ _ (rd_L3 l1 x5_1) false _ ?side1 ?side2 ?side3 ?side4 A7.out).mono ?_); (case side1 => repeat (first | exact HR294_0.out | (with_reducible refine Kd.C_alloc ?_ _) | (with_reducible refine Kd.C_drewN ?_ _) | (with_reducible refine Kd.C_drew ?_))); (case side2 => exact HC294_0.out); (case side3 => repeat (first | exact HR295_0.out | (with_reducible refine Kd.C_alloc ?_ _) | (with_reducible refine Kd.C_drewN ?_ _) | (with_reducible refine Kd.C_drew ?_))); (case side4 => exact HC295_0.out); rintro e w' ⟨rfl, ⟨nd, rfl⟩⟩; (try first | exact ⟨rfl, _, World.drewN_drewN _ _ _⟩ | exact ⟨rfl, _, Eq.trans (World.drewN_drewN _ _ _) (congrArg (World.drewN _) (Nat.add_assoc _ _ _))⟩))))
                go_ret
                exact ⟨by first | rfl | (simp; done) | (simp [*]; done), by repeat (first | exact Drawn0.refl _ | apply Drawn0.step)⟩
            · rw [if_neg c6] at H
              exact absurd H (by simp)
          · rw [if_neg c5] at H
            exact absurd H (by simp)
        · rw [if_neg c4] at H
          have c4b0 : decide (x5_1 < (l0.length : Int)) = false := decide_eq_false c4
          clear c4
          obtain rfl := Option.some.inj H
          go_wp2
          repeat (go_quiet (fail); try go_wp2)
          go_ret
          exact ⟨by first | rfl | (simp; done) | (simp [*]; done), by repeat (first | exact Drawn0.refl _ | apply Drawn0.step)⟩
  · rw [if_neg c3] at H
    have c3b0 : ((l0.length : Int) == (l1.length : Int)) = false := beq_eq_false_iff_ne.mpr c3
    have c3b1 : ((l0.length : Int) != (l1.length : Int)) = true := bne_iff_ne.mpr c3
    have c3b2 : (l0.length == l1.length) = false := by first | simpa using c3 | (simp at c3 ⊢; omega)
    obtain rfl := Option.some.inj H
    go_enter Tryd.func17, Tryd.ntmps17
    go_wp2
    repeat (go_quiet (fail); try go_wp2)
    go_ret
    exact ⟨by first | rfl | (simp; done) | (simp [*]; done), by repeat (first | exact Drawn0.refl _ | apply Drawn0.step)⟩

end Go.Proofs.YtggiddekbocokaaDoor.PLR
end
section
namespace Go.Proofs.YtggiddekbocokaaDoor.PLR
open Go.RowKit Go.Proofs.YtggiddekbocokaaDoorW.PrintWords Go.Proofs.YtggiddekbocokaaDoorW.PrintLast Go.Proofs.YtggiddekbocokaaDoorW.PrintMore
attribute [local go_sem] max2_int min2_int max_two min_two max_three min_three max_four min_four
set_option linter.unusedVariables false
set_option linter.unusedSimpArgs false
-- U1: hints, plainly (no program): places, ends, their bytes; what reads them
/-- The places of a poly's ones; i: the first number's. -/
def plc : List Int → Nat → List Int
  | [], _ => []
  | x :: r, i => if x = 1 then (i : Int) :: plc r (i + 1) else plc r (i + 1)
def setB (f : List Int) (x : Int) : List Int := f.set x.toNat 1
def zer : List Int := List.replicate 256 0
/-- A poly of zeros and ones. -/
def P01 (f : List Int) : Prop := f.length = 256 ∧ ∀ x ∈ f, x = 0 ∨ x = 1
/-- Bytes that rise. -/
def Ris (l : List Int) : Prop := l.Pairwise (· < ·) ∧ ∀ x ∈ l, 0 ≤ x ∧ x < 256
theorem plc_mem : ∀ (f : List Int) (i : Nat) (x : Int), x ∈ plc f i ↔ ∃ j : Nat, x = ((i + j : Nat) : Int) ∧ f[j]? = some 1
  | [], i, x => by simp [plc]
  | y :: r, i, x => by
    have ih := plc_mem r (i + 1) x
    have step : (∃ j : Nat, x = ((i + j : Nat) : Int) ∧ (y :: r)[j]? = some 1) ↔ (x = (i : Int) ∧ y = 1) ∨ ∃ j : Nat, x = ((i + 1 + j : Nat) : Int) ∧ r[j]? = some 1 := by
      constructor
      · rintro ⟨j, h1, h2⟩
        cases j with
        | zero => exact .inl ⟨by simpa using h1, by simpa using h2⟩
        | succ j => exact .inr ⟨j, by rw [h1]; congr 1; omega, by simpa using h2⟩
      · rintro (⟨h1, h2⟩ | ⟨j, h1, h2⟩)
        · exact ⟨0, by simpa using h1, by simp [h2]⟩
        · exact ⟨j + 1, by rw [h1]; congr 1; omega, by simpa using h2⟩
    rw [step, ← ih, plc]
    by_cases c : y = 1
    · rw [if_pos c, List.mem_cons]
      simp [c]
    · rw [if_neg c]
      simp [c]
theorem plc_rng : ∀ (f : List Int) (i : Nat), (plc f i).Pairwise (· < ·) ∧ ∀ x ∈ plc f i, (i : Int) ≤ x ∧ x < ((i + f.length : Nat) : Int)
  | [], i => ⟨by simp [plc], fun x hx => by simp [plc] at hx⟩
  | y :: r, i => by
    obtain ⟨h1, h2⟩ := plc_rng r (i + 1)
    have h2' : ∀ x ∈ plc r (i + 1), (i : Int) < x ∧ x < ((i + (y :: r).length : Nat) : Int) := fun x hx => by
      have := h2 x hx
      rw [List.length_cons]
      omega
    rw [plc]
    by_cases c : y = 1
    · rw [if_pos c]
      refine ⟨List.pairwise_cons.mpr ⟨fun x hx => (h2' x hx).1, h1⟩, fun x hx => ?_⟩
      rcases List.mem_cons.mp hx with e | e
      · subst e
        rw [List.length_cons]
        omega
      · have := h2' x e
        omega
    · rw [if_neg c]
      exact ⟨h1, fun x hx => by have := h2' x hx; omega⟩
theorem plc_ris (f : List Int) (h : f.length ≤ 256) : Ris (plc f 0) := by
  obtain ⟨h1, h2⟩ := plc_rng f 0
  exact ⟨h1, fun x hx => by have := h2 x hx; omega⟩
theorem plc_len : ∀ (f : List Int) (i : Nat), (plc f i).length ≤ f.length
  | [], i => by simp [plc]
  | y :: r, i => by
    have := plc_len r (i + 1)
    rw [plc]
    by_cases c : y = 1
    · rw [if_pos c, List.length_cons, List.length_cons]; omega
    · rw [if_neg c, List.length_cons]; omega
theorem ris_ext : ∀ (a b : List Int), a.Pairwise (· < ·) → b.Pairwise (· < ·) → (∀ x, x ∈ a ↔ x ∈ b) → a = b
  | [], [], _, _, _ => rfl
  | [], y :: s, _, _, h => absurd ((h y).mpr (by simp)) (by simp)
  | x :: r, [], _, _, h => absurd ((h x).mp (by simp)) (by simp)
  | x :: r, y :: s, ha, hb, h => by
    obtain ⟨a1, a2⟩ := List.pairwise_cons.mp ha
    obtain ⟨b1, b2⟩ := List.pairwise_cons.mp hb
    have e : x = y := by
      rcases List.mem_cons.mp ((h x).mp (by simp)) with e | e
      · exact e
      · rcases List.mem_cons.mp ((h y).mpr (by simp)) with e2 | e2
        · exact e2.symm
        · have := b1 x e
          have := a1 y e2
          omega
    subst e
    rw [ris_ext r s a2 b2 (fun z => ?_)]
    have := h z
    rw [List.mem_cons, List.mem_cons] at this
    constructor
    · intro hz
      rcases this.mp (.inr hz) with e | e
      · have := a1 z hz; omega
      · exact e
    · intro hz
      rcases this.mpr (.inr hz) with e | e
      · have := b1 z hz; omega
      · exact e
theorem fold_len : ∀ (bs f : List Int), (bs.foldl setB f).length = f.length
  | [], f => rfl
  | x :: r, f => by rw [List.foldl_cons, fold_len r]; exact List.length_set
theorem fold_get : ∀ (bs f : List Int), (∀ x ∈ bs, 0 ≤ x) → ∀ j : Nat, (bs.foldl setB f)[j]? = some 1 ↔ ((j : Int) ∈ bs ∧ j < f.length) ∨ f[j]? = some 1
  | [], f, _, j => by simp
  | x :: r, f, h, j => by
    rw [List.foldl_cons, fold_get r _ (fun y hy => h y (by simp [hy])) j]
    have hx := h x (by simp)
    unfold setB
    rw [List.length_set, List.getElem?_set, List.mem_cons]
    by_cases e : x.toNat = j
    · have e' : (j : Int) = x := by omega
      rw [if_pos e]
      by_cases c : x.toNat < f.length
      · rw [if_pos c]
        constructor
        · intro _; exact .inl ⟨.inl e', by omega⟩
        · intro _; exact .inr rfl
      · rw [if_neg c]
        have : f[j]? = none := List.getElem?_eq_none (by omega)
        rw [this]
        constructor
        · rintro (⟨_, h2⟩ | h2)
          · omega
          · simp at h2
        · rintro (⟨_, h2⟩ | h2)
          · omega
          · simp at h2
    · rw [if_neg e]
      have e' : ¬ (j : Int) = x := by omega
      constructor
      · rintro (⟨h1, h2⟩ | h2)
        · exact .inl ⟨.inr h1, h2⟩
        · exact .inr h2
      · rintro (⟨h1, h2⟩ | h2)
        · rcases h1 with h1 | h1
          · exact absurd h1 e'
          · exact .inl ⟨h1, h2⟩
        · exact .inr h2
theorem fold_01 : ∀ (bs f : List Int), (∀ x ∈ f, x = 0 ∨ x = 1) → ∀ x ∈ bs.foldl setB f, x = 0 ∨ x = 1
  | [], f, h => h
  | y :: r, f, h => by
    rw [List.foldl_cons]
    refine fold_01 r _ (fun x hx => ?_)
    rcases List.mem_or_eq_of_mem_set hx with e | e
    · exact h x e
    · exact .inr e
theorem zer_01 : P01 zer := ⟨List.length_replicate, fun x hx => .inl (List.eq_of_mem_replicate hx)⟩
theorem zer_get (j : Nat) : ¬ zer[j]? = some 1 := by
  unfold zer
  intro h
  rw [List.getElem?_replicate] at h
  split at h <;> simp at h
theorem row_01 (bs : List Int) : P01 (bs.foldl setB zer) := ⟨(fold_len bs zer).trans zer_01.1, fold_01 bs zer zer_01.2⟩
theorem plc_row (bs : List Int) (h : Ris bs) : plc (bs.foldl setB zer) 0 = bs := by
  refine ris_ext _ _ (plc_rng _ 0).1 h.1 (fun x => ?_)
  rw [plc_mem]
  constructor
  · rintro ⟨j, rfl, h2⟩
    rcases (fold_get bs zer (fun y hy => (h.2 y hy).1) j).mp h2 with h3 | h3
    · rw [Nat.zero_add]; exact h3.1
    · exact absurd h3 (zer_get j)
  · intro hx
    have := h.2 x hx
    obtain ⟨j, rfl⟩ := Int.eq_ofNat_of_zero_le this.1
    refine ⟨j, by rw [Nat.zero_add], (fold_get bs zer (fun y hy => (h.2 y hy).1) j).mpr (.inl ⟨hx, ?_⟩)⟩
    rw [zer_01.1]
    omega
theorem row_plc (f : List Int) (h : P01 f) : (plc f 0).foldl setB zer = f := by
  have hr := row_01 (plc f 0)
  refine List.ext_getElem (hr.1.trans h.1.symm) (fun j h1 h2 => ?_)
  have g1 := fold_get (plc f 0) zer (fun y hy => ((plc_ris f (by rw [h.1]; omega)).2 y hy).1) j
  rw [List.getElem?_eq_getElem h1] at g1
  have g2 : (((j : Int) ∈ plc f 0 ∧ j < zer.length) ∨ zer[j]? = some 1) ↔ f[j]? = some 1 := by
    rw [plc_mem]
    constructor
    · rintro (⟨⟨i, h3, h4⟩, _⟩ | h3)
      · have : i = j := by omega
        rw [← this]; exact h4
      · exact absurd h3 (zer_get j)
    · intro h3
      exact .inl ⟨⟨j, by rw [Nat.zero_add], h3⟩, by rw [zer_01.1, ← h.1]; exact h2⟩
  rw [g2, List.getElem?_eq_getElem h2] at g1
  rcases hr.2 _ (List.getElem_mem h1) with e1 | e1 <;> rcases h.2 _ (List.getElem_mem h2) with e2 | e2
  · rw [e1, e2]
  · rw [e1, e2] at g1; simp at g1
  · rw [e1, e2] at g1; simp at g1
  · rw [e1, e2]
/-- One poly's bytes are read: each one is above the one before. -/
def uhl : Option Int → List Int → List Int → Option (List Int)
  | _, [], f => some f
  | pv, x :: r, f => if ∃ p, pv = some p ∧ x ≤ p then none else uhl (some x) r (setB f x)
theorem uhl_iff : ∀ (seg : List Int) (pv : Option Int) (f f' : List Int), uhl pv seg f = some f' ↔ (pv.toList ++ seg).Pairwise (· < ·) ∧ f' = seg.foldl setB f
  | [], pv, f, f' => by
    cases pv <;> simp [uhl, eq_comm]
  | x :: r, pv, f, f' => by
    have ih := uhl_iff r (some x) (setB f x) f'
    rw [uhl, List.foldl_cons]
    cases pv with
    | none =>
      rw [if_neg (by rintro ⟨p, h, _⟩; cases h), ih]
      rfl
    | some p =>
      by_cases c : x ≤ p
      · rw [if_pos ⟨p, rfl, c⟩]
        constructor
        · intro h; cases h
        · rintro ⟨h, _⟩
          have h : (p :: x :: r).Pairwise (· < ·) := h
          have := (List.pairwise_cons.mp h).1 x (by simp)
          omega
      · rw [if_neg (by rintro ⟨q, h, h2⟩; cases h; exact c h2), ih]
        show (x :: r).Pairwise (· < ·) ∧ _ ↔ (p :: x :: r).Pairwise (· < ·) ∧ _
        rw [List.pairwise_cons (a := p)]
        constructor
        · rintro ⟨h1, h2⟩
          refine ⟨⟨fun y hy => ?_, h1⟩, h2⟩
          rcases List.mem_cons.mp hy with e | e
          · omega
          · have := (List.pairwise_cons.mp h1).1 y e
            omega
        · rintro ⟨h1, h2⟩
          exact ⟨h1.2, h2⟩
/-- All polys; xs: the ends; a: where the next one's bytes begin. -/
def uhs (om : Nat) (b : List Int) : List Int → Nat → Option (Nat × List (List Int))
  | [], a => some (a, [])
  | x :: r, a => if (om : Int) < x ∨ x < (a : Int) then none else (uhl none ((b.drop a).take (x.toNat - a)) zer).bind fun f => (uhs om b r x.toNat).map fun t => (t.1, f :: t.2)
/-- What bytes are read as. -/
def uh (om : Nat) (b : List Int) : Option (List (List Int)) := (uhs om b (b.drop om) 0).bind fun t => if ((b.take om).drop t.1).any (fun x => x != 0) then none else some t.2
/-- How many places there are up to each poly's end. -/
def ends : List (List Int) → Nat → List Int
  | [], _ => []
  | f :: r, n => ((n + (plc f 0).length : Nat) : Int) :: ends r (n + (plc f 0).length)
def plcs (h : List (List Int)) : List Int := h.flatMap fun f => plc f 0
/-- Hints' bytes. -/
def hb (om : Nat) (h : List (List Int)) : List Int := plcs h ++ List.replicate (om - (plcs h).length) 0 ++ ends h 0
theorem ends_len : ∀ (h : List (List Int)) (n : Nat), (ends h n).length = h.length
  | [], _ => rfl
  | f :: r, n => by rw [ends, List.length_cons, ends_len r, List.length_cons]
theorem ends_le : ∀ (h : List (List Int)) (n : Nat), ∀ x ∈ ends h n, 0 ≤ x ∧ x ≤ ((n + (plcs h).length : Nat) : Int)
  | [], _, x, hx => by simp [ends] at hx
  | f :: r, n, x, hx => by
    have e : plcs (f :: r) = plc f 0 ++ plcs r := rfl
    rw [e, List.length_append]
    rw [ends] at hx
    rcases List.mem_cons.mp hx with h | h
    · omega
    · have := ends_le r _ x h
      omega
theorem hb_len (om : Nat) (h : List (List Int)) (hn : (plcs h).length ≤ om) : (hb om h).length = om + h.length := by
  unfold hb
  rw [List.length_append, List.length_append, List.length_replicate, ends_len]
  omega
theorem plcs_B (h : List (List Int)) (hp : ∀ f ∈ h, f.length ≤ 256) : ∀ x ∈ plcs h, 0 ≤ x ∧ x < 256 := by
  intro x hx
  obtain ⟨f, hf, hx⟩ := List.mem_flatMap.mp hx
  exact (plc_ris f (hp f hf)).2 x hx
theorem hb_B (om : Nat) (h : List (List Int)) (hp : ∀ f ∈ h, f.length ≤ 256) (hn : (plcs h).length < 256) : ∀ x ∈ hb om h, 0 ≤ x ∧ x < 256 := by
  intro x hx
  unfold hb at hx
  rcases List.mem_append.mp hx with h1 | h1
  · rcases List.mem_append.mp h1 with h2 | h2
    · exact plcs_B h hp x h2
    · rw [List.eq_of_mem_replicate h2]; decide
  · have := ends_le h 0 x h1
    omega
theorem uhs_of (om : Nat) (b : List Int) : ∀ (h : List (List Int)) (a : Nat), (∀ f ∈ h, P01 f) → (b.drop a).take (plcs h).length = plcs h → a + (plcs h).length ≤ om → uhs om b (ends h a) a = some (a + (plcs h).length, h)
  | [], a, _, _, _ => rfl
  | f :: r, a, hp, hs, hm => by
    have e : plcs (f :: r) = plc f 0 ++ plcs r := rfl
    rw [e, List.length_append] at hs hm
    have s1 : (b.drop a).take (plc f 0).length = plc f 0 := by
      have := congrArg (List.take (plc f 0).length) hs
      rw [List.take_take, Nat.min_eq_left (by omega), List.take_append_of_le_length (by omega), List.take_length] at this
      exact this
    have s2 : (b.drop (a + (plc f 0).length)).take (plcs r).length = plcs r := by
      have := congrArg (List.drop (plc f 0).length) hs
      rw [List.drop_take, List.drop_drop, List.drop_append_of_le_length (by omega), List.drop_length, List.nil_append, show (plc f 0).length + (plcs r).length - (plc f 0).length = (plcs r).length by omega] at this
      exact this
    have hf := hp f (by simp)
    have hu : uhl none (plc f 0) zer = some f := (uhl_iff _ _ _ _).mpr ⟨(plc_rng f 0).1, (row_plc f hf).symm⟩
    rw [ends, uhs, if_neg (by omega), Int.toNat_natCast, show a + (plc f 0).length - a = (plc f 0).length by omega, s1, hu, Option.bind_some, uhs_of om b r _ (fun g hg => hp g (by simp [hg])) s2 (by omega), e, List.length_append]
    simp only [Option.map_some, Option.some.injEq, Prod.mk.injEq, and_true]
    omega
/-- What was laid is read again. -/
theorem uh_hb (om : Nat) (h : List (List Int)) (hp : ∀ f ∈ h, P01 f) (hn : (plcs h).length ≤ om) : uh om (hb om h) = some h := by
  have hl : (plcs h ++ List.replicate (om - (plcs h).length) 0).length = om := by rw [List.length_append, List.length_replicate]; omega
  have h1 : (hb om h).drop om = ends h 0 := by
    unfold hb
    rw [List.drop_append_of_le_length (by omega), List.drop_of_length_le (by omega), List.nil_append]
  have h2 : (hb om h).take om = plcs h ++ List.replicate (om - (plcs h).length) 0 := by
    unfold hb
    rw [List.take_append_of_le_length (by omega), List.take_of_length_le (by omega)]
  have h3 : ((hb om h).drop 0).take (plcs h).length = plcs h := by
    unfold hb
    rw [List.drop_zero, List.append_assoc, List.take_append_of_le_length (by omega), List.take_length]
  unfold uh
  rw [h1, uhs_of om (hb om h) h 0 hp h3 (by omega), Option.bind_some, h2, Nat.zero_add, List.drop_append_of_le_length (by omega), List.drop_length, List.nil_append]
  have : (List.replicate (om - (plcs h).length) (0 : Int)).any (fun x => x != 0) = false := by
    rw [List.any_eq_false]
    intro x hx
    rw [List.eq_of_mem_replicate hx]
    decide
  rw [this]
  rfl
theorem uhs_inv (om : Nat) (b : List Int) (hB : ∀ x ∈ b, 0 ≤ x ∧ x < 256) (hl : om ≤ b.length) : ∀ (xs : List Int) (a e : Nat) (g : List (List Int)), a ≤ om → uhs om b xs a = some (e, g) →
    (∀ f ∈ g, P01 f) ∧ g.length = xs.length ∧ e = a + (plcs g).length ∧ e ≤ om ∧ plcs g = (b.drop a).take (plcs g).length ∧ ends g a = xs
  | [], a, e, g, ha, h => by
    cases h
    exact ⟨fun f hf => by simp at hf, rfl, rfl, ha, rfl, rfl⟩
  | x :: r, a, e, g, ha, h => by
    rw [uhs] at h
    by_cases c : (om : Int) < x ∨ x < (a : Int)
    · rw [if_pos c] at h; cases h
    · rw [if_neg c] at h
      obtain ⟨f, hf, h⟩ := Option.bind_eq_some_iff.mp h
      obtain ⟨⟨e2, g2⟩, h2, h⟩ := Option.map_eq_some_iff.mp h
      cases h
      obtain ⟨n, rfl⟩ := Int.eq_ofNat_of_zero_le (show 0 ≤ x by omega)
      rw [Int.toNat_natCast] at hf h2
      obtain ⟨i1, i2, i3, i4, i5, i6⟩ := uhs_inv om b hB hl r n e2 g2 (by omega) h2
      obtain ⟨f1, f2⟩ := (uhl_iff _ _ _ _).mp hf
      have hsl : ((b.drop a).take (n - a)).length = n - a := by rw [List.length_take, List.length_drop]; omega
      have hR : Ris ((b.drop a).take (n - a)) := ⟨f1, fun x hx => hB x (List.mem_of_mem_drop (List.mem_of_mem_take hx))⟩
      have hpf : plc f 0 = (b.drop a).take (n - a) := by rw [f2]; exact plc_row _ hR
      have hpl : (plc f 0).length = n - a := by rw [hpf]; exact hsl
      have hcons : plcs (f :: g2) = plc f 0 ++ plcs g2 := rfl
      refine ⟨fun z hz => ?_, by rw [List.length_cons, List.length_cons, i2], ?_, i4, ?_, ?_⟩
      · rcases List.mem_cons.mp hz with q | q
        · rw [q, f2]; exact row_01 _
        · exact i1 z q
      · rw [hcons, List.length_append]; omega
      · rw [hcons, List.length_append, hpl, List.take_add, ← hpf, List.drop_drop, show a + (n - a) = n by omega]
        congr 1
      · rw [ends, hpl, show a + (n - a) = n by omega, i6]
/-- What is read has just these bytes. -/
theorem hb_uh (om K : Nat) (b : List Int) (hB : ∀ x ∈ b, 0 ≤ x ∧ x < 256) (hl : b.length = om + K) (g : List (List Int)) (h : uh om b = some g) : (∀ f ∈ g, P01 f) ∧ g.length = K ∧ (plcs g).length ≤ om ∧ hb om g = b := by
  unfold uh at h
  obtain ⟨⟨e, g2⟩, h1, h⟩ := Option.bind_eq_some_iff.mp h
  by_cases c : ((b.take om).drop e).any (fun x => x != 0) = true
  · rw [if_pos c] at h; cases h
  · rw [if_neg c] at h
    cases h
    obtain ⟨i1, i2, i3, i4, i5, i6⟩ := uhs_inv om b hB (by omega) _ 0 e g2 (by omega) h1
    rw [Nat.zero_add] at i3
    show (∀ f ∈ g2, P01 f) ∧ g2.length = K ∧ (plcs g2).length ≤ om ∧ hb om g2 = b
    refine ⟨i1, by rw [i2, List.length_drop]; omega, by omega, ?_⟩
    have hz : (b.take om).drop e = List.replicate (om - e) 0 := by
      refine List.eq_replicate_iff.mpr ⟨by rw [List.length_drop, List.length_take]; omega, fun x hx => ?_⟩
      have := List.any_eq_false.mp (Bool.eq_false_iff.mpr c) x hx
      simpa using this
    unfold hb
    rw [i6, ← i3, ← hz, i5, ← i3, List.drop_zero]
    have h4 : b.take e = (b.take om).take e := by rw [List.take_take, Nat.min_eq_left i4]
    rw [h4, List.take_append_drop, List.take_append_drop]

end Go.Proofs.YtggiddekbocokaaDoor.PLR
end
section
namespace Go.Proofs.YtggiddekbocokaaDoor.PLR
open Go.RowKit Go.Proofs.YtggiddekbocokaaDoorW.PrintWords Go.Proofs.YtggiddekbocokaaDoorW.PrintLast Go.Proofs.YtggiddekbocokaaDoorW.PrintMore
attribute [local go_sem] max2_int min2_int max_two min_two max_three min_three max_four min_four
set_option linter.unusedVariables false
set_option linter.unusedSimpArgs false
-- U2: what lay.Hints, lay.Unhint, SamePolys compute (printed forms), by U1's words
theorem u_bnd {α β : Type} {o : Option α} {x : α} {f : α → Option β} {r : Option β} (h : o = some x) (k : f x = r) : o.bind f = r := by rw [h]; exact k
theorem u_ifp {α : Type} {c : Prop} [Decidable c] {a b r : α} (h : c) (k : a = r) : (if c then a else b) = r := by rw [if_pos h]; exact k
theorem u_ifn {α : Type} {c : Prop} [Decidable c] {a b r : α} (h : ¬ c) (k : b = r) : (if c then a else b) = r := by rw [if_neg h]; exact k
theorem u_w64 {n : Int} (h0 : -9223372036854775808 ≤ n) (h1 : n ≤ 9223372036854775807) : wrap64 n = n := by unfold wrap64; omega
theorem u_rd (l : List Int) (i : Nat) (h : i < l.length) : rd l (i : Int) = l[i] := by
  unfold rd
  rw [Int.toNat_natCast, List.getD_eq_getElem?_getD, List.getElem?_eq_getElem h]
  rfl
theorem u_rdL (l : List (List Int)) (i : Nat) (h : i < l.length) : rd_L3 l (i : Int) = l[i] := by
  unfold rd_L3
  rw [Int.toNat_natCast, List.getD_eq_getElem?_getD, List.getElem?_eq_getElem h]
  rfl
abbrev FL (n : Int) : List S67 := [⟨n, ⟨#[108, 97, 121]⟩⟩]
theorem cont_l0 (l : List Int) (hl : l.length < 1000) : ∀ (m i k : Nat), i + m = l.length → m < k → ∃ r, slices_IndexFunc_byte_byte_at_lay_Unhint_1.l0 k l (l.length : Int) (i : Int) = some r ∧ decide (r ≥ 0) = (l.drop i).any (fun x => x != 0)
  | 0, i, k + 1, hi, hk => ⟨-1, by rw [slices_IndexFunc_byte_byte_at_lay_Unhint_1.l0, if_neg (by omega)], by rw [List.drop_of_length_le (by omega)]; rfl⟩
  | m + 1, i, k + 1, hi, hk => by
    have hil : i < l.length := by omega
    have e : l.drop i = l[i] :: l.drop (i + 1) := (List.getElem_cons_drop hil).symm
    rw [slices_IndexFunc_byte_byte_at_lay_Unhint_1.l0, if_pos (by omega), if_pos (by omega), if_pos (by omega), u_rd l i hil, lay_Unhint_1.f, Option.bind_some, e, List.any_cons]
    by_cases c : (l[i] != 0) = true
    · rw [if_pos c]
      exact ⟨_, rfl, by rw [c, Bool.true_or, decide_eq_true (by omega)]⟩
    · rw [if_neg c, u_w64 (by omega) (by omega), show (i : Int) + 1 = ((i + 1 : Nat) : Int) by omega, Bool.eq_false_iff.mpr c, Bool.false_or]
      exact cont_l0 l hl m (i + 1) k (by omega) (by omega)
theorem cont_is (l : List Int) (k : Nat) (hl : l.length < 1000) (hk : 1000 < k) : slices_ContainsFunc_byte_byte_at_lay_Unhint_1.f k l = some (l.any (fun x => x != 0)) := by
  obtain ⟨r, h1, h2⟩ := cont_l0 l hl l.length 0 k (by omega) (by omega)
  rw [Int.natCast_zero] at h1
  rw [List.drop_zero] at h2
  unfold slices_ContainsFunc_byte_byte_at_lay_Unhint_1.f slices_IndexFunc_byte_byte_at_lay_Unhint_1.f
  rw [h1, ← h2]
  rfl
theorem un_l1 (b : List Int) (hB : ∀ x ∈ b, 0 ≤ x ∧ x < 256) (hl : b.length < 1000) (x8 : List (List Int)) (h8 : x8.length < 100) (xs : List Int) (L j c0 c1 c2 c3 c4 c5 c6 c7 c8 : Int) (R : List (List Int) × List S67) (C first e : Nat) (he : e ≤ b.length) :
    ∀ (m a k : Nat) (f : List Int) (pv : Option Int), a + m = e → first ≤ a → f.length = 256 → C + m < k → pv = (if first < a then some (b.getD (a - 1) 0) else none) →
    (∀ f' k', C ≤ k' → uhl pv ((b.drop a).take m) f = some f' → lay_Unhint.l0 k' b (x8 ++ [f']) (e : Int) xs L (wrap64 (j + 1)) c0 c1 c2 c3 c4 c5 c6 c7 c8 = some R) →
    (uhl pv ((b.drop a).take m) f = none → R = ([], FL 4)) →
    lay_Unhint.l1 k b x8 (a : Int) (e : Int) f (first : Int) xs L j c0 c1 c2 c3 c4 c5 c6 c7 c8 = some R
  | 0, a, k + 1, f, pv, hae, hfa, hf, hk, hpv, h1, h2 => by
    rw [lay_Unhint.l1, if_neg (by omega), if_pos (by omega), show (a : Int) = (e : Int) by omega]
    exact h1 f k (by omega) (by rw [List.take_zero]; rfl)
  | m + 1, a, k + 1, f, pv, hae, hfa, hf, hk, hpv, h1, h2 => by
    have hab : a < b.length := by omega
    have e1 : (b.drop a).take (m + 1) = b[a] :: (b.drop (a + 1)).take m := by rw [← List.getElem_cons_drop hab, List.take_succ_cons]
    have hx := hB b[a] (List.getElem_mem hab)
    have hrec := un_l1 b hB hl x8 h8 xs L j c0 c1 c2 c3 c4 c5 c6 c7 c8 R C first e he m (a + 1) k (setB f b[a]) (some b[a]) (by omega) (by omega) (List.length_set.trans hf) (by omega) (by rw [if_pos (by omega), Nat.add_sub_cancel, List.getD_eq_getElem?_getD, List.getElem?_eq_getElem hab]; rfl)
    rw [e1] at h1 h2
    simp only [uhl] at h1 h2
    by_cases c : first < a
    · rw [if_pos c] at hpv
      have ha1 : a - 1 < b.length := by omega
      have hg : b.getD (a - 1) 0 = b[a - 1] := by rw [List.getD_eq_getElem?_getD, List.getElem?_eq_getElem ha1]; rfl
      rw [hg] at hpv
      subst hpv
      rw [lay_Unhint.l1, if_pos (by omega), if_pos (by omega), if_pos (by omega), if_pos (by omega), u_w64 (by omega) (by omega), show (a : Int) - 1 = ((a - 1 : Nat) : Int) by omega, if_pos (by omega), if_pos (by omega), u_rd b a hab, u_rd b (a - 1) ha1]
      by_cases c2 : b[a] ≤ b[a - 1]
      · rw [if_pos c2, lay_fault.f, Option.bind_some]
        have := h2 (if_pos ⟨_, rfl, c2⟩)
        rw [this]
      · rw [if_neg (by rintro ⟨p, hp, hq⟩; cases hp; exact c2 hq)] at h1 h2
        rw [if_neg c2, if_pos hx.1, if_pos (by omega), u_w64 (by omega) (by omega), show (a : Int) + 1 = ((a + 1 : Nat) : Int) by omega]
        exact hrec h1 h2
    · rw [if_neg c] at hpv
      subst hpv
      rw [if_neg (by rintro ⟨p, hp, hq⟩; cases hp)] at h1 h2
      rw [lay_Unhint.l1, if_pos (by omega), if_neg (by omega), if_pos (by omega), if_pos (by omega), u_rd b a hab, if_pos hx.1, if_pos (by omega), u_w64 (by omega) (by omega), show (a : Int) + 1 = ((a + 1 : Nat) : Int) by omega]
      exact hrec h1 h2
/-- What is answered, of what was read. -/
def unf (om : Nat) (b : List Int) (x8 : List (List Int)) : Option (Nat × List (List Int)) → List (List Int) × List S67
  | none => ([], FL 4)
  | some t => if ((b.take om).drop t.1).any (fun x => x != 0) then ([], FL 4) else (x8 ++ t.2, [])
theorem unf_some (om : Nat) (b : List Int) (x8 : List (List Int)) (t : Nat × List (List Int)) : unf om b x8 (some t) = if ((b.take om).drop t.1).any (fun x => x != 0) then ([], FL 4) else (x8 ++ t.2, []) := rfl
theorem un_l0 (om : Nat) (b : List Int) (hB : ∀ x ∈ b, 0 ≤ x ∧ x < 256) (hl : b.length < 1000) (ho : om ≤ b.length) (xs : List Int) (hxs : xs.length ≤ 50) (hX : ∀ x ∈ xs, 0 ≤ x ∧ x < 256) (c0 c1 c2 c3 c4 c6 c7 c8 : Int) :
    ∀ (r : List Int) (j a k : Nat) (x8 : List (List Int)), xs.drop j = r → j ≤ xs.length → a ≤ om → x8.length ≤ j → 2000 * (r.length + 1) < k → lay_Unhint.l0 k b x8 (a : Int) xs (xs.length : Int) (j : Int) c0 c1 c2 c3 c4 (om : Int) c6 c7 c8 = some (unf om b x8 (uhs om b r a))
  | [], j, a, k + 1, x8, hr, hj, ha, h8, hk => by
    have : xs.length ≤ j := List.drop_eq_nil_iff.mp hr
    have hc := cont_is ((b.take om).drop a) k (by rw [List.length_drop, List.length_take]; omega) (by omega)
    rw [lay_Unhint.l0, if_neg (by omega), if_pos (by omega), if_pos (by omega), if_pos (by omega), Int.toNat_natCast, Int.toNat_natCast, hc, Option.bind_some]
    show _ = some (if ((b.take om).drop a).any (fun x => x != 0) = true then ([], FL 4) else (x8 ++ [], []))
    by_cases c : ((b.take om).drop a).any (fun x => x != 0) = true
    · rw [if_pos c, if_pos c]; rfl
    · rw [if_neg c, if_neg c, List.append_nil]
  | x :: r, j, a, k + 1, x8, hr, hj, ha, h8, hk => by
    have hjl : j < xs.length := by
      rcases Nat.lt_or_ge j xs.length with h | h
      · exact h
      · rw [List.drop_of_length_le h] at hr; cases hr
    have e1 : xs.drop j = xs[j] :: xs.drop (j + 1) := (List.getElem_cons_drop hjl).symm
    rw [e1] at hr
    injection hr with hx hr
    have hxB := hX xs[j] (List.getElem_mem hjl)
    rw [List.length_cons] at hk
    rw [lay_Unhint.l0, if_pos (by omega), if_pos (by omega), if_pos (by omega), if_pos (by omega), u_rd xs j hjl, hx]
    rw [hx] at hxB
    obtain ⟨n, rfl⟩ := Int.eq_ofNat_of_zero_le hxB.1
    rw [u_w64 (by omega) (by omega)]
    have eu : uhs om b (((n : Nat) : Int) :: r) a = if (om : Int) < (n : Int) ∨ (n : Int) < (a : Int) then none else (uhl none ((b.drop a).take (n - a)) zer).bind fun f => (uhs om b r n).map fun t => (t.1, f :: t.2) := by
      rw [uhs, Int.toNat_natCast]
    by_cases d1 : (n : Int) > (om : Int)
    · rw [if_pos d1, lay_fault.f, Option.bind_some, eu, if_pos (by omega)]; rfl
    · rw [if_neg d1]
      by_cases d2 : (n : Int) < (a : Int)
      · rw [if_pos d2, lay_fault.f, Option.bind_some, eu, if_pos (by omega)]; rfl
      · rw [if_neg d2, eu, if_neg (by omega)]
        refine un_l1 b hB hl x8 (by omega) xs _ _ c0 c1 c2 c3 c4 (om : Int) c6 c7 c8 _ (2000 * (r.length + 1) + 1) a n (by omega) (n - a) a k _ none (by omega) (by omega) List.length_replicate (by omega) (by rw [if_neg (by omega)]) (fun f' k' hk' hu => ?_) (fun hu => ?_)
        · have hz : uhl none ((b.drop a).take (n - a)) zer = some f' := hu
          rw [u_w64 (by omega) (by omega), show (j : Int) + 1 = ((j + 1 : Nat) : Int) by omega, un_l0 om b hB hl ho xs hxs hX c0 c1 c2 c3 c4 c6 c7 c8 r (j + 1) n k' (x8 ++ [f']) hr (by omega) (by omega) (by rw [List.length_append]; simp; omega) (by omega), hz, Option.bind_some]
          congr 1
          cases uhs om b r n with
          | none => rfl
          | some t =>
            rw [Option.map_some, unf_some, unf_some]
            simp only [List.append_assoc, List.cons_append, List.nil_append]
        · have hz : uhl none ((b.drop a).take (n - a)) zer = none := hu
          rw [hz]; rfl
/-- lay.Unhint. -/
theorem un_is (k : Nat) (s : Int) (K om : Nat) (c1 c2 c3 c4 c6 c7 c8 : Int) (hof : lay_Of.f s = some ((K : Int), c1, c2, c3, c4, (om : Int), c6, c7, c8, true)) (hK : K ≤ 50) (hom : om ≤ 200) (b : List Int) (hB : ∀ x ∈ b, 0 ≤ x ∧ x < 256) (hl : b.length = om + K) (hk : 110000 < k) :
    lay_Unhint.f k s b = some (match uh om b with | none => ([], FL 4) | some g => (g, [])) := by
  unfold lay_Unhint.f
  refine u_bnd hof (u_ifp rfl (u_ifp ?_ (u_ifp (Int.natCast_nonneg _) (u_ifp (Int.ofNat_le.mpr (by omega)) ?_))))
  · show (b.length : Int) = wrap64 ((om : Int) + (K : Int))
    rw [u_w64 (by omega) (by omega)]; omega
  · have hd : (b.drop om).length = K := by rw [List.length_drop]; omega
    have := un_l0 om b hB (by omega) (by omega) (b.drop om) (by omega) (fun x hx => hB x (List.mem_of_mem_drop hx)) (K : Int) c1 c2 c3 c4 c6 c7 c8 (b.drop om) 0 0 k [] List.drop_zero (by omega) (by omega) (by simp) (by rw [hd]; omega)
    rw [Int.natCast_zero] at this
    show lay_Unhint.l0 k b [] 0 (b.drop (om : Int).toNat) _ 0 _ _ _ _ _ (om : Int) _ _ _ = _
    rw [Int.toNat_natCast, this]
    congr 1
    unfold uh
    cases uhs om b (b.drop om) 0 with
    | none => rfl
    | some t =>
      rw [Option.bind_some, unf_some]
      by_cases c : ((b.take om).drop t.1).any (fun x => x != 0) = true
      · rw [if_pos c, if_pos c]
      · rw [if_neg c, if_neg c, List.nil_append]
/-! ### lay.Hints -/
theorem hi_l1 (f : List Int) (hf : f.length = 256) (x9 : List Int) (h9 : x9.length < 1000) (hs : List (List Int)) (L j c0 c1 c2 c3 c4 c5 c6 c7 c8 : Int) (R : List Int × List S67) (C : Nat) :
    ∀ (m i k : Nat) (x8 : List Int), i + m = 256 → C + m < k → x8.length + m < 100000 →
    (∀ k', C ≤ k' → lay_Hints.l0 k' (x8 ++ plc (f.drop i) i) (x9 ++ [mn ((x8 ++ plc (f.drop i) i).length : Int) 255]) hs L (wrap64 (j + 1)) c0 c1 c2 c3 c4 c5 c6 c7 c8 = some R) →
    lay_Hints.l1 k x8 x9 hs L j f 256 (i : Int) c0 c1 c2 c3 c4 c5 c6 c7 c8 = some R
  | 0, i, k + 1, x8, hi, hk, h8, hn => by
    have := hn k (by omega)
    rw [List.drop_of_length_le (by omega), plc, List.append_nil] at this
    rw [lay_Hints.l1, if_neg (by omega), if_pos (by omega)]
    exact this
  | m + 1, i, k + 1, x8, hi, hk, h8, hn => by
    have hil : i < f.length := by omega
    have e1 : f.drop i = f[i] :: f.drop (i + 1) := (List.getElem_cons_drop hil).symm
    rw [e1, plc] at hn
    rw [lay_Hints.l1, if_pos (by omega), if_pos (by omega), if_pos (by omega), u_rd f i hil, u_w64 (by omega) (by omega), show (i : Int) + 1 = ((i + 1 : Nat) : Int) by omega]
    by_cases c : f[i] = 1
    · rw [if_pos c] at hn
      rw [if_pos c, if_pos (by omega), show ((i : Int)) % 256 = (i : Int) by omega]
      refine hi_l1 f hf x9 h9 hs L j c0 c1 c2 c3 c4 c5 c6 c7 c8 R C m (i + 1) k (x8 ++ [(i : Int)]) (by omega) (by omega) (by rw [List.length_append]; simp; omega) (fun k' hk' => ?_)
      rw [List.append_assoc, List.singleton_append]
      exact hn k' hk'
    · rw [if_neg c] at hn
      rw [if_neg c]
      exact hi_l1 f hf x9 h9 hs L j c0 c1 c2 c3 c4 c5 c6 c7 c8 R C m (i + 1) k x8 (by omega) (by omega) (by omega) hn
/-- The ends, as they are laid. -/
def endm : List (List Int) → Nat → List Int
  | [], _ => []
  | f :: r, n => mn ((n + (plc f 0).length : Nat) : Int) 255 :: endm r (n + (plc f 0).length)
theorem endm_is : ∀ (h : List (List Int)) (n : Nat), n + (plcs h).length ≤ 255 → endm h n = ends h n
  | [], _, _ => rfl
  | f :: r, n, hn => by
    have e : plcs (f :: r) = plc f 0 ++ plcs r := rfl
    rw [e, List.length_append] at hn
    rw [endm, ends, endm_is r _ (by omega)]
    congr 1
    unfold mn
    rw [if_neg (by omega)]
def hfin (om : Nat) (p e : List Int) : List Int × List S67 := if p.length > om then ([], FL 5) else (p ++ List.replicate (om - p.length) 0 ++ e, [])
set_option maxRecDepth 100000 in
theorem hi_l0 (om : Nat) (hom : om ≤ 1000) (hs : List (List Int)) (hL : hs.length ≤ 50) (c0 c1 c2 c3 c4 c6 c7 c8 : Int) :
    ∀ (r : List (List Int)) (j k : Nat) (x8 x9 : List Int), hs.drop j = r → j ≤ hs.length → (∀ f ∈ r, f.length = 256) → 2000 * (r.length + 1) < k → x8.length + 256 * r.length < 20000 → x9.length = j →
    lay_Hints.l0 k x8 x9 hs (hs.length : Int) (j : Int) c0 c1 c2 c3 c4 (om : Int) c6 c7 c8 = some (hfin om (x8 ++ plcs r) (x9 ++ endm r x8.length))
  | [], j, k + 1, x8, x9, hr, hj, hp, hk, h8, h9 => by
    have : hs.length ≤ j := List.drop_eq_nil_iff.mp hr
    rw [List.length_nil] at h8
    unfold hfin
    rw [lay_Hints.l0, if_neg (by omega), show x8 ++ plcs [] = x8 from List.append_nil _, show x9 ++ endm [] x8.length = x9 from List.append_nil _]
    by_cases c : x8.length > om
    · rw [if_pos (by omega), if_pos c, lay_fault.f, Option.bind_some]
    · rw [if_neg (by omega), if_neg c, u_w64 (by omega) (by omega), if_pos (by omega), if_pos (by omega), show ((om : Int) - (x8.length : Int)).toNat = om - x8.length by omega]
      have hfl : [x8, List.replicate (om - x8.length) 0, x9].flatten = x8 ++ List.replicate (om - x8.length) 0 ++ x9 := by simp
      have hc : slices_Concat_byte_byte.f [x8, List.replicate (om - x8.length) 0, x9] = some (x8 ++ List.replicate (om - x8.length) 0 ++ x9) := by
        unfold slices_Concat_byte_byte.f
        rw [hfl, if_pos (by simp), if_pos (by rw [List.length_append, List.length_append, List.length_replicate]; omega)]
      rw [hc, Option.bind_some]
  | f :: r, j, k + 1, x8, x9, hr, hj, hp, hk, h8, h9 => by
    have hjl : j < hs.length := by
      rcases Nat.lt_or_ge j hs.length with h | h
      · exact h
      · rw [List.drop_of_length_le h] at hr; cases hr
    have e1 : hs.drop j = hs[j] :: hs.drop (j + 1) := (List.getElem_cons_drop hjl).symm
    rw [e1] at hr
    injection hr with hx hr
    have hf := hp f (by simp)
    have hpl := plc_len f 0
    rw [List.length_cons] at hk h8
    rw [lay_Hints.l0, if_pos (by omega), if_pos (by omega), if_pos (by omega), u_rdL hs j hjl, hx, show (f.length : Int) = 256 by omega]
    have := hi_l1 f hf x9 (by omega) hs (hs.length : Int) (j : Int) c0 c1 c2 c3 c4 (om : Int) c6 c7 c8 (hfin om (x8 ++ plcs (f :: r)) (x9 ++ endm (f :: r) x8.length)) (2000 * (r.length + 1) + 1) 256 0 k x8 (by omega) (by omega) (by omega) (fun k' hk' => ?_)
    · rw [Int.natCast_zero] at this
      exact this
    · rw [List.drop_zero, u_w64 (by omega) (by omega), show (j : Int) + 1 = ((j + 1 : Nat) : Int) by omega, hi_l0 om hom hs hL c0 c1 c2 c3 c4 c6 c7 c8 r (j + 1) k' _ _ hr (by omega) (fun g hg => hp g (by simp [hg])) (by omega) (by rw [List.length_append]; omega) (by rw [List.length_append]; simp; omega)]
      have e : plcs (f :: r) = plc f 0 ++ plcs r := rfl
      rw [e, List.append_assoc, List.append_assoc, endm, List.length_append, List.singleton_append]
theorem bad01 (f : List Int) : lay_bad 2 f = false ↔ P01 f := by
  unfold lay_bad P01
  rw [Bool.or_eq_false_iff, List.any_eq_false]
  constructor
  · rintro ⟨h1, h2⟩
    refine ⟨by simpa using h1, fun x hx => ?_⟩
    have := h2 x hx
    simp only [lay_odd, Bool.or_eq_true, decide_eq_true_eq] at this
    omega
  · rintro ⟨h1, h2⟩
    refine ⟨by simp [h1], fun x hx => ?_⟩
    have := h2 x hx
    simp only [lay_odd, Bool.or_eq_true, decide_eq_true_eq]
    omega
/-- lay.Hints. -/
theorem hi_is (k : Nat) (s : Int) (K om : Nat) (c1 c2 c3 c4 c6 c7 c8 : Int) (hof : lay_Of.f s = some ((K : Int), c1, c2, c3, c4, (om : Int), c6, c7, c8, true)) (hK : K ≤ 50) (hom : om ≤ 200) (h : List (List Int)) (hl : h.length = K) (hp : ∀ f ∈ h, P01 f) (hk : 110000 < k) :
    lay_Hints.f k s h = some (if (plcs h).length > om then ([], FL 5) else (hb om h, [])) := by
  have hany : h.any (lay_bad 2) = false := by
    rw [List.any_eq_false]
    intro f hf
    rw [(bad01 f).mpr (hp f hf)]
    decide
  have hw : lay_whole.f h (K : Int) 2 = some true := by
    unfold lay_whole.f
    rw [if_pos (by omega), hany, decide_eq_true (by omega)]
    rfl
  unfold lay_Hints.f
  refine u_bnd hof (u_ifp rfl (u_bnd hw (u_ifp rfl ?_)))
  have := hi_l0 om (by omega) h (by omega) (K : Int) c1 c2 c3 c4 c6 c7 c8 h 0 k [] [] List.drop_zero (by omega) (fun f hf => (hp f hf).1) (by omega) (by simp; omega) rfl
  rw [Int.natCast_zero, List.nil_append, List.nil_append] at this
  refine this.trans ?_
  unfold hfin
  by_cases c : (plcs h).length > om
  · rw [if_pos c, if_pos c]
  · rw [if_neg c, if_neg c, show endm h ([] : List Int).length = endm h 0 from rfl, endm_is h 0 (by omega)]
    rfl
/-! ### Two lists of polys -/
theorem si_l0 (a b : List Int) (hl : a.length = b.length) (hb : a.length < 1000000) : ∀ (m i k : Nat), i + m = a.length → m < k → chatelainelaw0_SameInts.l0 k a b (i : Int) = some (decide (a.drop i = b.drop i))
  | 0, i, k + 1, hi, hk => by
    rw [chatelainelaw0_SameInts.l0, if_neg (by omega), List.drop_of_length_le (by omega), List.drop_of_length_le (by omega)]
    simp
  | m + 1, i, k + 1, hi, hk => by
    have e1 : a.drop i = a[i] :: a.drop (i + 1) := (List.getElem_cons_drop (by omega)).symm
    have e2 : b.drop i = b[i] :: b.drop (i + 1) := (List.getElem_cons_drop (by omega)).symm
    rw [chatelainelaw0_SameInts.l0, if_pos (by omega), if_pos (by omega), if_pos (by omega), u_rd a i (by omega), u_rd b i (by omega), e1, e2]
    by_cases h : a[i] = b[i]
    · rw [if_pos h, u_w64 (by omega) (by omega), show (i : Int) + 1 = ((i + 1 : Nat) : Int) by omega, si_l0 a b hl hb m (i + 1) k (by omega) (by omega)]
      simp only [List.cons.injEq, h, true_and]
    · rw [if_neg h]
      simp only [List.cons.injEq, h, false_and, decide_false]
theorem si_is (k : Nat) (a b : List Int) (hb : a.length < 1000000) (hk : a.length < k) : chatelainelaw0_SameInts.f k a b = some (decide (a = b)) := by
  unfold chatelainelaw0_SameInts.f
  by_cases h : (a.length : Int) = (b.length : Int)
  · rw [if_pos h]
    have := si_l0 a b (by omega) (by omega) a.length 0 k (by omega) (by omega)
    rw [List.drop_zero, List.drop_zero] at this
    exact this
  · rw [if_neg h]
    have : a ≠ b := fun e => h (by rw [e])
    simp [this]
theorem sp_l0 (a b : List (List Int)) (hl : a.length = b.length) (hb : a.length < 1000000) (hA : ∀ f ∈ a, f.length < 1000) : ∀ (m i k : Nat), i + m = a.length → m + 1000 < k → chatelainelaw0_SamePolys.l0 k a b (i : Int) = some (decide (a.drop i = b.drop i))
  | 0, i, k + 1, hi, hk => by
    rw [chatelainelaw0_SamePolys.l0, if_neg (by omega), List.drop_of_length_le (by omega), List.drop_of_length_le (by omega)]
    simp
  | m + 1, i, k + 1, hi, hk => by
    have e1 : a.drop i = a[i] :: a.drop (i + 1) := (List.getElem_cons_drop (by omega)).symm
    have e2 : b.drop i = b[i] :: b.drop (i + 1) := (List.getElem_cons_drop (by omega)).symm
    have hai := hA a[i] (List.getElem_mem (by omega))
    rw [chatelainelaw0_SamePolys.l0, if_pos (by omega), if_pos (by omega), if_pos (by omega), u_rdL a i (by omega), u_rdL b i (by omega), si_is k _ _ (by omega) (by omega), Option.bind_some, e1, e2]
    by_cases h : a[i] = b[i]
    · rw [if_pos (by simp [h]), u_w64 (by omega) (by omega), show (i : Int) + 1 = ((i + 1 : Nat) : Int) by omega, sp_l0 a b hl hb hA m (i + 1) k (by omega) (by omega)]
      simp only [List.cons.injEq, h, true_and]
    · rw [if_neg (by simp [h])]
      simp only [List.cons.injEq, h, false_and, decide_false]
/-- SamePolys. -/
theorem sp_is (k : Nat) (a b : List (List Int)) (hb : a.length < 1000) (hA : ∀ f ∈ a, f.length < 1000) (hk : 3000 < k) : chatelainelaw0_SamePolys.f k a b = some (decide (a = b)) := by
  unfold chatelainelaw0_SamePolys.f
  by_cases h : (a.length : Int) = (b.length : Int)
  · rw [if_pos h]
    have := sp_l0 a b (by omega) (by omega) hA a.length 0 k (by omega) (by omega)
    rw [List.drop_zero, List.drop_zero] at this
    exact this
  · rw [if_neg h]
    have : a ≠ b := fun e => h (by rw [e])
    simp [this]

end Go.Proofs.YtggiddekbocokaaDoor.PLR
end
section
namespace Go.Proofs.YtggiddekbocokaaDoor.PLR
open Go.RowKit Go.Proofs.YtggiddekbocokaaDoorW.PrintWords Go.Proofs.YtggiddekbocokaaDoorW.PrintLast Go.Proofs.YtggiddekbocokaaDoorW.PrintMore
attribute [local go_sem] max2_int min2_int max_two min_two max_three min_three max_four min_four   -- for this text's walks alone
set_option linter.unusedVariables false
set_option linter.unusedSimpArgs false

/-! ### chatelainelaw11_great: function 18 -/
mutual
def chatelainelaw11_great.l0 : Nat → List (List Int) → Int → Option (Bool)
  | 0, _, _ => none
  | k + 1, x0, x3 => if x3 < (x0.length : Int) then (chatelainelaw11_great.j1 k x0 x3 (decide ((x0.length : Int) ≤ 10))) else (chatelainelaw11_great.j1 k x0 x3 false)
def chatelainelaw11_great.j1 : Nat → List (List Int) → Int → Bool → Option (Bool)
  | 0, _, _, _ => none
  | k + 1, x0, x3, x12 => if x12 = true then (if 0 ≤ x3 then (if x3 < (x0.length : Int) then (if ((rd_L3 x0 x3).length : Int) > 300 then (some true) else (chatelainelaw11_great.l0 k x0 (wrap64 (x3 + 1)))) else (none)) else (none)) else (some (decide ((x0.length : Int) > 10)))
end
def chatelainelaw11_great.f (k : Nat) (l0 : List (List Int)) : Option (Bool) := chatelainelaw11_great.l0 k l0 0
set_option maxHeartbeats 8000000 in
set_option maxRecDepth 100000 in
theorem chatelainelaw11_great.calls (k : Nat) (A0 : Option Addr) (c0 : Nat) (l0 : List (List Int)) (r : Bool) (w : World) (hr0 : Kd.C (Kd.slice 3 (Kd.int .i64)) w A0 l0.length l0) (hc0 : l0.length ≤ c0) (h : chatelainelaw11_great.f k l0 = some r) :
    Calls Tryd.prog 18 #[.slice A0 l0.length c0] w fun e w' => e = .returned (.bool r) ∧ Drawn0 w w' := by
  have HR0 := Aside0.mk hr0
  have HC0 := Aside0.mk hc0
  clear hr0 hc0
  have H : (chatelainelaw11_great.l0 k l0 0) = some r := h
  clear h
  have H' := Aside0.mk H
  clear H
  go_enter Tryd.func18, Tryd.ntmps18
  go_wp2
  go_loopg [3] k (fun kq v3 w' => ∃ (x3_1 : Int), v3 = .int .i64 x3_1 ∧ Aside0 (chatelainelaw11_great.l0 kq l0 x3_1 = some r) ∧ Aside0 (kq ≤ k) ∧ Drawn0 w w')
  case atStart => exact ⟨(0), (by first | rfl | (simp; done) | (simp [*]; done)), H', ⟨Nat.le_refl _⟩, by repeat (first | exact Drawn0.refl _ | apply Drawn0.step)⟩
  case round =>
    clear H'
    try clear c1
    obtain ⟨x3_1, rfl, HA, HK1, ⟨m1, rfl⟩⟩ := hrel
    cases gk with
    | zero => exact absurd HA.out (by simp [chatelainelaw11_great.l0])
    | succ k1 =>
      have H := HA.out
      clear HA
      simp only [chatelainelaw11_great.l0] at H
      have HC2 := Aside0.mk H
      clear H
      go_upto_region 2 with (fail)
      go_cut [12] (fun v12 wc => ∃ (kq : Nat) (x12_1 : Bool), v12 = .bool x12_1 ∧ Aside0 (chatelainelaw11_great.j1 kq l0 x3_1 x12_1 = some r) ∧ Aside0 (kq ≤ k1) ∧ Drawn0 w wc)
      case first =>
        have H := HC2.out
        clear HC2
        by_cases c3 : x3_1 < (l0.length : Int)
        · rw [if_pos c3] at H
          have c3b0 : decide (x3_1 < (l0.length : Int)) = true := decide_eq_true c3
          clear c3
          (first | rw [c3b0] | (simp only [i64_w, i32_w]; rw [c3b0]) | skip)
          have H' := Aside0.mk H
          clear H
          go_wp2
          go_meet
          case rel => exact ⟨_, (decide ((l0.length : Int) ≤ 10)), (by first | rfl | (simp; done) | (simp [*]; done)), H', ⟨by have := HK1.out; first | omega | exact Nat.le_refl _⟩, by repeat (first | exact Drawn0.refl _ | apply Drawn0.step)⟩
        · rw [if_neg c3] at H
          have c3b0 : decide (x3_1 < (l0.length : Int)) = false := decide_eq_false c3
          clear c3
          (first | rw [c3b0] | (simp only [i64_w, i32_w]; rw [c3b0]) | skip)
          have H' := Aside0.mk H
          clear H
          go_wp2
          go_meet
          case rel => exact ⟨_, (false), (by first | rfl | (simp; done) | (simp [*]; done)), H', ⟨by have := HK1.out; first | omega | exact Nat.le_refl _⟩, by repeat (first | exact Drawn0.refl _ | apply Drawn0.step)⟩
      case rest =>
        clear HC2
        try clear c1
        try clear p2
        try clear c3
        try clear c3b0
        obtain ⟨kq, x12_1, rfl, HA, HJ1, ⟨mc1, rfl⟩⟩ := hcut
        cases kq with
        | zero => exact absurd HA.out (by simp [chatelainelaw11_great.j1])
        | succ kj1 =>
          have H := HA.out
          clear HA
          simp only [chatelainelaw11_great.j1] at H
          by_cases c4 : x12_1 = true
          · subst c4
            have H1 : (if 0 ≤ x3_1 then (if x3_1 < (l0.length : Int) then (if ((rd_L3 l0 x3_1).length : Int) > 300 then (some true) else (chatelainelaw11_great.l0 kj1 l0 (wrap64 (x3_1 + 1)))) else (none)) else (none)) = some r := by rw [if_pos rfl] at H; exact H
            clear H
            have H := H1
            clear H1
            by_cases c5 : 0 ≤ x3_1
            · rw [if_pos c5] at H
              have c5b0 : decide (0 ≤ x3_1) = true := decide_eq_true c5
              clear c5
              by_cases c6 : x3_1 < (l0.length : Int)
              · rw [if_pos c6] at H
                have c6b0 : decide (x3_1 < (l0.length : Int)) = true := decide_eq_true c6
                clear c6
                by_cases c7 : ((rd_L3 l0 x3_1).length : Int) > 300
                · rw [if_pos c7] at H
                  have c7b0 : decide (300 < ((rd_L3 l0 x3_1).length : Int)) = true := decide_eq_true c7
                  have c7b1 : decide (300 < (rd_L3 l0 x3_1).length) = true := decide_eq_true (by omega)
                  clear c7
                  obtain rfl := Option.some.inj H
                  have p297 : 0 ≤ (x3_1 : Int) := of_decide_eq_true (by first | (with_reducible assumption) | assumption)
                  have q297 : x3_1 < (l0.length : Int) := of_decide_eq_true (by first | (with_reducible assumption) | assumption)
                  obtain ⟨ad297, A297_0, c297_0, e297, hx297_0, hl297_0, hi297_0⟩ := at_L3 HR0.out x3_1 p297 q297
                  cases e297
                  have HR297_0 := Aside0.mk hi297_0
                  have HC297_0 := Aside0.mk hl297_0
                  clear hi297_0 hl297_0
                  replace p297 := eq_true p297
                  replace q297 := eq_true q297
                  go_wp2
                  go_ret
                  exact ⟨by first | rfl | (simp; done) | (simp [*]; done), by repeat (first | exact Drawn0.refl _ | apply Drawn0.step)⟩
                · rw [if_neg c7] at H
                  have c7b0 : decide (300 < ((rd_L3 l0 x3_1).length : Int)) = false := decide_eq_false c7
                  have c7b1 : decide (300 < (rd_L3 l0 x3_1).length) = false := decide_eq_false (by omega)
                  clear c7
                  have H' := Aside0.mk H
                  clear H
                  have p297 : 0 ≤ (x3_1 : Int) := of_decide_eq_true (by first | (with_reducible assumption) | assumption)
                  have q297 : x3_1 < (l0.length : Int) := of_decide_eq_true (by first | (with_reducible assumption) | assumption)
                  obtain ⟨ad297, A297_0, c297_0, e297, hx297_0, hl297_0, hi297_0⟩ := at_L3 HR0.out x3_1 p297 q297
                  cases e297
                  have HR297_0 := Aside0.mk hi297_0
                  have HC297_0 := Aside0.mk hl297_0
                  clear hi297_0 hl297_0
                  replace p297 := eq_true p297
                  replace q297 := eq_true q297
                  go_wp2
                  go_roundg kj1
                  case measure => have := HK1.out; have := HJ1.out; omega
                  case rel => exact ⟨(wrap64 (x3_1 + 1)), (by first | rfl | (simp; done) | (simp [*]; done)), H', ⟨by have := HK1.out; have := HJ1.out; omega⟩, by repeat (first | exact Drawn0.refl _ | apply Drawn0.step)⟩
              · rw [if_neg c6] at H
                exact absurd H (by simp)
            · rw [if_neg c5] at H
              exact absurd H (by simp)
          · replace c4 := Bool.eq_false_iff.mpr c4
            subst c4
            have H1 : (some (decide ((l0.length : Int) > 10))) = some r := by rw [if_neg (show ¬ (false = true) by decide)] at H; exact H
            clear H
            have H := H1
            clear H1
            obtain rfl := Option.some.inj H
            go_wp2
            go_ret
            exact ⟨by first | rfl | (simp; done) | (simp [*]; done), by repeat (first | exact Drawn0.refl _ | apply Drawn0.step)⟩

/-! ### chatelaineref11_Of: function 13 -/
def chatelaineref11_Of.f (a0 : Int) : Option (Int × Int × Int × Int × Int × Int × Int × Int × Int × Bool) := if a0 = 1 then (some (4, 4, 2, 39, 78, 80, 131072, 95232, 32, true)) else (if a0 = 2 then (some (6, 5, 4, 49, 196, 55, 524288, 261888, 48, true)) else (if a0 = 3 then (some (8, 7, 2, 60, 120, 75, 524288, 261888, 64, true)) else (some (0, 0, 0, 0, 0, 0, 0, 0, 0, false))))
set_option maxHeartbeats 8000000 in
set_option maxRecDepth 100000 in
theorem chatelaineref11_Of.calls (a0 : Int) (r1 : Int) (r2 : Int) (r3 : Int) (r4 : Int) (r5 : Int) (r6 : Int) (r7 : Int) (r8 : Int) (r9 : Int) (r10 : Bool) (w : World) (h : chatelaineref11_Of.f a0 = some (r1, r2, r3, r4, r5, r6, r7, r8, r9, r10)) :
    Calls Tryd.prog 13 #[.int .i64 a0] w fun e w' => e = .returned (.tuple #[.agg #[.int .i64 r1, .int .i64 r2, .int .i64 r3, .int .i64 r4, .int .i64 r5, .int .i64 r6, .int .i64 r7, .int .i64 r8, .int .i64 r9], .bool r10]) ∧ Below w.heap.size w w' := by
  have hu39 := Tryd.underlying39
  have HB := Aside0.mk (Below.refl w.heap.size w)
  have H : (if a0 = 1 then (some (4, 4, 2, 39, 78, 80, 131072, 95232, 32, true)) else (if a0 = 2 then (some (6, 5, 4, 49, 196, 55, 524288, 261888, 48, true)) else (if a0 = 3 then (some (8, 7, 2, 60, 120, 75, 524288, 261888, 64, true)) else (some (0, 0, 0, 0, 0, 0, 0, 0, 0, false))))) = some (r1, r2, r3, r4, r5, r6, r7, r8, r9, r10) := h
  clear h
  by_cases c2 : a0 = 1
  · rw [if_pos c2] at H
    have c2b0 : (a0 == 1) = true := beq_iff_eq.mpr c2
    have c2b1 : (a0 != 1) = false := bne_eq_false_iff_eq.mpr c2
    clear c2
    simp only [Option.some.injEq, Prod.mk.injEq] at H
    obtain ⟨rfl, rfl, rfl, rfl, rfl, rfl, rfl, rfl, rfl, rfl⟩ := H
    go_enter Tryd.func13, Tryd.ntmps13
    go_wp2_with (first | ((with_reducible refine gate_dst (N := 2) rfl ?_); refine box_event ?hg (N := 2) ?hd (cs := #[.int .i64 0, .int .i64 0, .int .i64 0, .int .i64 0, .int .i64 0, .int .i64 0, .int .i64 0, .int .i64 0, .int .i64 0]) (t := 39) ?hr ?_; (case hd => rfl); (case hg => rfl); (case hr => first | (go_simp; done) | (go_simp; rfl)); intro gb298 hg w3 hbox hb; have n0_ := Aside0.mk (below_step (by repeat (first | (with_reducible first | exact HB.out | apply below_alloc | apply pw_below_drewN | apply below_drew1) | exact HB.out)) hb); have n1_ := Aside0.mk (hbox); have n2_ := Aside0.mk ((by rw [hg]; exact (below_size (by repeat (first | (with_reducible first | exact HB.out | apply below_alloc | apply pw_below_drewN | apply below_drew1) | exact HB.out))) : w.heap.size ≤ gb298)); have n3_ := Aside0.mk ((by rw [hg]; exact (below_size (by repeat (first | (with_reducible first | exact HB.out | apply below_alloc | apply pw_below_drewN | apply below_drew1) | exact HB.out))) : w.heap.size ≤ gb298)); clear HB; have HB := n0_; have BK298 := n1_; have GW298 := n2_; have GE298 := n3_; clear n0_ n1_ n2_ n3_; clear hb hbox hg; have hcz4_0 : w3.cell? ⟨gb298, 0, none⟩ = some (.int .i64 0) := (blk_cell BK298.out 0).trans rfl; have hcz4_1 : w3.cell? ⟨gb298, 1, none⟩ = some (.int .i64 0) := (blk_cell BK298.out 1).trans rfl; have hcz4_2 : w3.cell? ⟨gb298, 2, none⟩ = some (.int .i64 0) := (blk_cell BK298.out 2).trans rfl; have hcz4_3 : w3.cell? ⟨gb298, 3, none⟩ = some (.int .i64 0) := (blk_cell BK298.out 3).trans rfl; have hcz4_4 : w3.cell? ⟨gb298, 4, none⟩ = some (.int .i64 0) := (blk_cell BK298.out 4).trans rfl; have hcz4_5 : w3.cell? ⟨gb298, 5, none⟩ = some (.int .i64 0) := (blk_cell BK298.out 5).trans rfl; have hcz4_6 : w3.cell? ⟨gb298, 6, none⟩ = some (.int .i64 0) := (blk_cell BK298.out 6).trans rfl; have hcz4_7 : w3.cell? ⟨gb298, 7, none⟩ = some (.int .i64 0) := (blk_cell BK298.out 7).trans rfl; have hcz4_8 : w3.cell? ⟨gb298, 8, none⟩ = some (.int .i64 0) := (blk_cell BK298.out 8).trans rfl; have hfz4_0 := blk_frozen BK298.out 0; have hfz4_1 := blk_frozen BK298.out 1; have hfz4_2 := blk_frozen BK298.out 2; have hfz4_3 := blk_frozen BK298.out 3; have hfz4_4 := blk_frozen BK298.out 4; have hfz4_5 := blk_frozen BK298.out 5; have hfz4_6 := blk_frozen BK298.out 6; have hfz4_7 := blk_frozen BK298.out 7; have hfz4_8 := blk_frozen BK298.out 8))
    refine bodyPost_ret (results_ct rfl _ _ gb298 39 #[.int .i64 4, .int .i64 4, .int .i64 2, .int .i64 39, .int .i64 78, .int .i64 80, .int .i64 131072, .int .i64 95232, .int .i64 32] (0, 0) _ rfl (by (with_reducible repeat (first | refine blk_drewN ?_ _ | refine blk_drew ?_ | refine blk_alloc ?_ _)); refine blk_put (cs := #[.int .i64 4, .int .i64 4, .int .i64 2, .int .i64 39, .int .i64 78, .int .i64 80, .int .i64 131072, .int .i64 95232, .int .i64 0]) ?_ 8 _ rfl; (with_reducible repeat (first | refine blk_drewN ?_ _ | refine blk_drew ?_ | refine blk_alloc ?_ _)); refine blk_put (cs := #[.int .i64 4, .int .i64 4, .int .i64 2, .int .i64 39, .int .i64 78, .int .i64 80, .int .i64 131072, .int .i64 0, .int .i64 0]) ?_ 7 _ rfl; (with_reducible repeat (first | refine blk_drewN ?_ _ | refine blk_drew ?_ | refine blk_alloc ?_ _)); refine blk_put (cs := #[.int .i64 4, .int .i64 4, .int .i64 2, .int .i64 39, .int .i64 78, .int .i64 80, .int .i64 0, .int .i64 0, .int .i64 0]) ?_ 6 _ rfl; (with_reducible repeat (first | refine blk_drewN ?_ _ | refine blk_drew ?_ | refine blk_alloc ?_ _)); refine blk_put (cs := #[.int .i64 4, .int .i64 4, .int .i64 2, .int .i64 39, .int .i64 78, .int .i64 0, .int .i64 0, .int .i64 0, .int .i64 0]) ?_ 5 _ rfl; (with_reducible repeat (first | refine blk_drewN ?_ _ | refine blk_drew ?_ | refine blk_alloc ?_ _)); refine blk_put (cs := #[.int .i64 4, .int .i64 4, .int .i64 2, .int .i64 39, .int .i64 0, .int .i64 0, .int .i64 0, .int .i64 0, .int .i64 0]) ?_ 4 _ rfl; (with_reducible repeat (first | refine blk_drewN ?_ _ | refine blk_drew ?_ | refine blk_alloc ?_ _)); refine blk_put (cs := #[.int .i64 4, .int .i64 4, .int .i64 2, .int .i64 0, .int .i64 0, .int .i64 0, .int .i64 0, .int .i64 0, .int .i64 0]) ?_ 3 _ rfl; (with_reducible repeat (first | refine blk_drewN ?_ _ | refine blk_drew ?_ | refine blk_alloc ?_ _)); refine blk_put (cs := #[.int .i64 4, .int .i64 4, .int .i64 0, .int .i64 0, .int .i64 0, .int .i64 0, .int .i64 0, .int .i64 0, .int .i64 0]) ?_ 2 _ rfl; (with_reducible repeat (first | refine blk_drewN ?_ _ | refine blk_drew ?_ | refine blk_alloc ?_ _)); refine blk_put (cs := #[.int .i64 4, .int .i64 0, .int .i64 0, .int .i64 0, .int .i64 0, .int .i64 0, .int .i64 0, .int .i64 0, .int .i64 0]) ?_ 1 _ rfl; (with_reducible repeat (first | refine blk_drewN ?_ _ | refine blk_drew ?_ | refine blk_alloc ?_ _)); refine blk_put (cs := #[.int .i64 0, .int .i64 0, .int .i64 0, .int .i64 0, .int .i64 0, .int .i64 0, .int .i64 0, .int .i64 0, .int .i64 0]) ?_ 0 _ rfl; (with_reducible repeat (first | refine blk_drewN ?_ _ | refine blk_drew ?_ | refine blk_alloc ?_ _)); exact BK298.out) Tryd.underlying39 rfl (by kernel_rfl)) rfl ?_
    exact ⟨by first | rfl | (simp [errW_none, errW_some] <;> rfl) | (simp [*, errW_none, errW_some] <;> rfl), by repeat (first | (with_reducible first | exact HB.out | apply below_alloc | apply pw_below_drewN | apply below_drew1 | refine below_set ?_ GE298.out) | exact HB.out)⟩
  · rw [if_neg c2] at H
    have c2b0 : (a0 == 1) = false := beq_eq_false_iff_ne.mpr c2
    have c2b1 : (a0 != 1) = true := bne_iff_ne.mpr c2
    by_cases c5 : a0 = 2
    · rw [if_pos c5] at H
      have c5b0 : (a0 == 2) = true := beq_iff_eq.mpr c5
      have c5b1 : (a0 != 2) = false := bne_eq_false_iff_eq.mpr c5
      clear c5
      simp only [Option.some.injEq, Prod.mk.injEq] at H
      obtain ⟨rfl, rfl, rfl, rfl, rfl, rfl, rfl, rfl, rfl, rfl⟩ := H
      go_enter Tryd.func13, Tryd.ntmps13
      go_wp2_with (first | ((with_reducible refine gate_dst (N := 2) rfl ?_); refine box_event ?hg (N := 2) ?hd (cs := #[.int .i64 0, .int .i64 0, .int .i64 0, .int .i64 0, .int .i64 0, .int .i64 0, .int .i64 0, .int .i64 0, .int .i64 0]) (t := 39) ?hr ?_; (case hd => rfl); (case hg => rfl); (case hr => first | (go_simp; done) | (go_simp; rfl)); intro gb298 hg w6 hbox hb; have n0_ := Aside0.mk (below_step (by repeat (first | (with_reducible first | exact HB.out | apply below_alloc | apply pw_below_drewN | apply below_drew1) | exact HB.out)) hb); have n1_ := Aside0.mk (hbox); have n2_ := Aside0.mk ((by rw [hg]; exact (below_size (by repeat (first | (with_reducible first | exact HB.out | apply below_alloc | apply pw_below_drewN | apply below_drew1) | exact HB.out))) : w.heap.size ≤ gb298)); have n3_ := Aside0.mk ((by rw [hg]; exact (below_size (by repeat (first | (with_reducible first | exact HB.out | apply below_alloc | apply pw_below_drewN | apply below_drew1) | exact HB.out))) : w.heap.size ≤ gb298)); clear HB; have HB := n0_; have BK298 := n1_; have GW298 := n2_; have GE298 := n3_; clear n0_ n1_ n2_ n3_; clear hb hbox hg; have hcz7_0 : w6.cell? ⟨gb298, 0, none⟩ = some (.int .i64 0) := (blk_cell BK298.out 0).trans rfl; have hcz7_1 : w6.cell? ⟨gb298, 1, none⟩ = some (.int .i64 0) := (blk_cell BK298.out 1).trans rfl; have hcz7_2 : w6.cell? ⟨gb298, 2, none⟩ = some (.int .i64 0) := (blk_cell BK298.out 2).trans rfl; have hcz7_3 : w6.cell? ⟨gb298, 3, none⟩ = some (.int .i64 0) := (blk_cell BK298.out 3).trans rfl; have hcz7_4 : w6.cell? ⟨gb298, 4, none⟩ = some (.int .i64 0) := (blk_cell BK298.out 4).trans rfl; have hcz7_5 : w6.cell? ⟨gb298, 5, none⟩ = some (.int .i64 0) := (blk_cell BK298.out 5).trans rfl; have hcz7_6 : w6.cell? ⟨gb298, 6, none⟩ = some (.int .i64 0) := (blk_cell BK298.out 6).trans rfl; have hcz7_7 : w6.cell? ⟨gb298, 7, none⟩ = some (.int .i64 0) := (blk_cell BK298.out 7).trans rfl; have hcz7_8 : w6.cell? ⟨gb298, 8, none⟩ = some (.int .i64 0) := (blk_cell BK298.out 8).trans rfl; have hfz7_0 := blk_frozen BK298.out 0; have hfz7_1 := blk_frozen BK298.out 1; have hfz7_2 := blk_frozen BK298.out 2; have hfz7_3 := blk_frozen BK298.out 3; have hfz7_4 := blk_frozen BK298.out 4; have hfz7_5 := blk_frozen BK298.out 5; have hfz7_6 := blk_frozen BK298.out 6; have hfz7_7 := blk_frozen BK298.out 7; have hfz7_8 := blk_frozen BK298.out 8))
      refine bodyPost_ret (results_ct rfl _ _ gb298 39 #[.int .i64 6, .int .i64 5, .int .i64 4, .int .i64 49, .int .i64 196, .int .i64 55, .int .i64 524288, .int .i64 261888, .int .i64 48] (0, 0) _ rfl (by (with_reducible repeat (first | refine blk_drewN ?_ _ | refine blk_drew ?_ | refine blk_alloc ?_ _)); refine blk_put (cs := #[.int .i64 6, .int .i64 5, .int .i64 4, .int .i64 49, .int .i64 196, .int .i64 55, .int .i64 524288, .int .i64 261888, .int .i64 0]) ?_ 8 _ rfl; (with_reducible repeat (first | refine blk_drewN ?_ _ | refine blk_drew ?_ | refine blk_alloc ?_ _)); refine blk_put (cs := #[.int .i64 6, .int .i64 5, .int .i64 4, .int .i64 49, .int .i64 196, .int .i64 55, .int .i64 524288, .int .i64 0, .int .i64 0]) ?_ 7 _ rfl; (with_reducible repeat (first | refine blk_drewN ?_ _ | refine blk_drew ?_ | refine blk_alloc ?_ _)); refine blk_put (cs := #[.int .i64 6, .int .i64 5, .int .i64 4, .int .i64 49, .int .i64 196, .int .i64 55, .int .i64 0, .int .i64 0, .int .i64 0]) ?_ 6 _ rfl; (with_reducible repeat (first | refine blk_drewN ?_ _ | refine blk_drew ?_ | refine blk_alloc ?_ _)); refine blk_put (cs := #[.int .i64 6, .int .i64 5, .int .i64 4, .int .i64 49, .int .i64 196, .int .i64 0, .int .i64 0, .int .i64 0, .int .i64 0]) ?_ 5 _ rfl; (with_reducible repeat (first | refine blk_drewN ?_ _ | refine blk_drew ?_ | refine blk_alloc ?_ _)); refine blk_put (cs := #[.int .i64 6, .int .i64 5, .int .i64 4, .int .i64 49, .int .i64 0, .int .i64 0, .int .i64 0, .int .i64 0, .int .i64 0]) ?_ 4 _ rfl; (with_reducible repeat (first | refine blk_drewN ?_ _ | refine blk_drew ?_ | refine blk_alloc ?_ _)); refine blk_put (cs := #[.int .i64 6, .int .i64 5, .int .i64 4, .int .i64 0, .int .i64 0, .int .i64 0, .int .i64 0, .int .i64 0, .int .i64 0]) ?_ 3 _ rfl; (with_reducible repeat (first | refine blk_drewN ?_ _ | refine blk_drew ?_ | refine blk_alloc ?_ _)); refine blk_put (cs := #[.int .i64 6, .int .i64 5, .int .i64 0, .int .i64 0, .int .i64 0, .int .i64 0, .int .i64 0, .int .i64 0, .int .i64 0]) ?_ 2 _ rfl; (with_reducible repeat (first | refine blk_drewN ?_ _ | refine blk_drew ?_ | refine blk_alloc ?_ _)); refine blk_put (cs := #[.int .i64 6, .int .i64 0, .int .i64 0, .int .i64 0, .int .i64 0, .int .i64 0, .int .i64 0, .int .i64 0, .int .i64 0]) ?_ 1 _ rfl; (with_reducible repeat (first | refine blk_drewN ?_ _ | refine blk_drew ?_ | refine blk_alloc ?_ _)); refine blk_put (cs := #[.int .i64 0, .int .i64 0, .int .i64 0, .int .i64 0, .int .i64 0, .int .i64 0, .int .i64 0, .int .i64 0, .int .i64 0]) ?_ 0 _ rfl; (with_reducible repeat (first | refine blk_drewN ?_ _ | refine blk_drew ?_ | refine blk_alloc ?_ _)); exact BK298.out) Tryd.underlying39 rfl (by kernel_rfl)) rfl ?_
      exact ⟨by first | rfl | (simp [errW_none, errW_some] <;> rfl) | (simp [*, errW_none, errW_some] <;> rfl), by repeat (first | (with_reducible first | exact HB.out | apply below_alloc | apply pw_below_drewN | apply below_drew1 | refine below_set ?_ GE298.out) | exact HB.out)⟩
    · rw [if_neg c5] at H
      have c5b0 : (a0 == 2) = false := beq_eq_false_iff_ne.mpr c5
      have c5b1 : (a0 != 2) = true := bne_iff_ne.mpr c5
      by_cases c8 : a0 = 3
      · rw [if_pos c8] at H
        have c8b0 : (a0 == 3) = true := beq_iff_eq.mpr c8
        have c8b1 : (a0 != 3) = false := bne_eq_false_iff_eq.mpr c8
        clear c8
        simp only [Option.some.injEq, Prod.mk.injEq] at H
        obtain ⟨rfl, rfl, rfl, rfl, rfl, rfl, rfl, rfl, rfl, rfl⟩ := H
        go_enter Tryd.func13, Tryd.ntmps13
        go_wp2_with (first | ((with_reducible refine gate_dst (N := 2) rfl ?_); refine box_event ?hg (N := 2) ?hd (cs := #[.int .i64 0, .int .i64 0, .int .i64 0, .int .i64 0, .int .i64 0, .int .i64 0, .int .i64 0, .int .i64 0, .int .i64 0]) (t := 39) ?hr ?_; (case hd => rfl); (case hg => rfl); (case hr => first | (go_simp; done) | (go_simp; rfl)); intro gb298 hg w9 hbox hb; have n0_ := Aside0.mk (below_step (by repeat (first | (with_reducible first | exact HB.out | apply below_alloc | apply pw_below_drewN | apply below_drew1) | exact HB.out)) hb); have n1_ := Aside0.mk (hbox); have n2_ := Aside0.mk ((by rw [hg]; exact (below_size (by repeat (first | (with_reducible first | exact HB.out | apply below_alloc | apply pw_below_drewN | apply below_drew1) | exact HB.out))) : w.heap.size ≤ gb298)); have n3_ := Aside0.mk ((by rw [hg]; exact (below_size (by repeat (first | (with_reducible first | exact HB.out | apply below_alloc | apply pw_below_drewN | apply below_drew1) | exact HB.out))) : w.heap.size ≤ gb298)); clear HB; have HB := n0_; have BK298 := n1_; have GW298 := n2_; have GE298 := n3_; clear n0_ n1_ n2_ n3_; clear hb hbox hg; have hcz10_0 : w9.cell? ⟨gb298, 0, none⟩ = some (.int .i64 0) := (blk_cell BK298.out 0).trans rfl; have hcz10_1 : w9.cell? ⟨gb298, 1, none⟩ = some (.int .i64 0) := (blk_cell BK298.out 1).trans rfl; have hcz10_2 : w9.cell? ⟨gb298, 2, none⟩ = some (.int .i64 0) := (blk_cell BK298.out 2).trans rfl; have hcz10_3 : w9.cell? ⟨gb298, 3, none⟩ = some (.int .i64 0) := (blk_cell BK298.out 3).trans rfl; have hcz10_4 : w9.cell? ⟨gb298, 4, none⟩ = some (.int .i64 0) := (blk_cell BK298.out 4).trans rfl; have hcz10_5 : w9.cell? ⟨gb298, 5, none⟩ = some (.int .i64 0) := (blk_cell BK298.out 5).trans rfl; have hcz10_6 : w9.cell? ⟨gb298, 6, none⟩ = some (.int .i64 0) := (blk_cell BK298.out 6).trans rfl; have hcz10_7 : w9.cell? ⟨gb298, 7, none⟩ = some (.int .i64 0) := (blk_cell BK298.out 7).trans rfl; have hcz10_8 : w9.cell? ⟨gb298, 8, none⟩ = some (.int .i64 0) := (blk_cell BK298.out 8).trans rfl; have hfz10_0 := blk_frozen BK298.out 0; have hfz10_1 := blk_frozen BK298.out 1; have hfz10_2 := blk_frozen BK298.out 2; have hfz10_3 := blk_frozen BK298.out 3; have hfz10_4 := blk_frozen BK298.out 4; have hfz10_5 := blk_frozen BK298.out 5; have hfz10_6 := blk_frozen BK298.out 6; have hfz10_7 := blk_frozen BK298.out 7; have hfz10_8 := blk_frozen BK298.out 8))
        refine bodyPost_ret (results_ct rfl _ _ gb298 39 #[.int .i64 8, .int .i64 7, .int .i64 2, .int .i64 60, .int .i64 120, .int .i64 75, .int .i64 524288, .int .i64 261888, .int .i64 64] (0, 0) _ rfl (by (with_reducible repeat (first | refine blk_drewN ?_ _ | refine blk_drew ?_ | refine blk_alloc ?_ _)); refine blk_put (cs := #[.int .i64 8, .int .i64 7, .int .i64 2, .int .i64 60, .int .i64 120, .int .i64 75, .int .i64 524288, .int .i64 261888, .int .i64 0]) ?_ 8 _ rfl; (with_reducible repeat (first | refine blk_drewN ?_ _ | refine blk_drew ?_ | refine blk_alloc ?_ _)); refine blk_put (cs := #[.int .i64 8, .int .i64 7, .int .i64 2, .int .i64 60, .int .i64 120, .int .i64 75, .int .i64 524288, .int .i64 0, .int .i64 0]) ?_ 7 _ rfl; (with_reducible repeat (first | refine blk_drewN ?_ _ | refine blk_drew ?_ | refine blk_alloc ?_ _)); refine blk_put (cs := #[.int .i64 8, .int .i64 7, .int .i64 2, .int .i64 60, .int .i64 120, .int .i64 75, .int .i64 0, .int .i64 0, .int .i64 0]) ?_ 6 _ rfl; (with_reducible repeat (first | refine blk_drewN ?_ _ | refine blk_drew ?_ | refine blk_alloc ?_ _)); refine blk_put (cs := #[.int .i64 8, .int .i64 7, .int .i64 2, .int .i64 60, .int .i64 120, .int .i64 0, .int .i64 0, .int .i64 0, .int .i64 0]) ?_ 5 _ rfl; (with_reducible repeat (first | refine blk_drewN ?_ _ | refine blk_drew ?_ | refine blk_alloc ?_ _)); refine blk_put (cs := #[.int .i64 8, .int .i64 7, .int .i64 2, .int .i64 60, .int .i64 0, .int .i64 0, .int .i64 0, .int .i64 0, .int .i64 0]) ?_ 4 _ rfl; (with_reducible repeat (first | refine blk_drewN ?_ _ | refine blk_drew ?_ | refine blk_alloc ?_ _)); refine blk_put (cs := #[.int .i64 8, .int .i64 7, .int .i64 2, .int .i64 0, .int .i64 0, .int .i64 0, .int .i64 0, .int .i64 0, .int .i64 0]) ?_ 3 _ rfl; (with_reducible repeat (first | refine blk_drewN ?_ _ | refine blk_drew ?_ | refine blk_alloc ?_ _)); refine blk_put (cs := #[.int .i64 8, .int .i64 7, .int .i64 0, .int .i64 0, .int .i64 0, .int .i64 0, .int .i64 0, .int .i64 0, .int .i64 0]) ?_ 2 _ rfl; (with_reducible repeat (first | refine blk_drewN ?_ _ | refine blk_drew ?_ | refine blk_alloc ?_ _)); refine blk_put (cs := #[.int .i64 8, .int .i64 0, .int .i64 0, .int .i64 0, .int .i64 0, .int .i64 0, .int .i64 0, .int .i64 0, .int .i64 0]) ?_ 1 _ rfl; (with_reducible repeat (first | refine blk_drewN ?_ _ | refine blk_drew ?_ | refine blk_alloc ?_ _)); refine blk_put (cs := #[.int .i64 0, .int .i64 0, .int .i64 0, .int .i64 0, .int .i64 0, .int .i64 0, .int .i64 0, .int .i64 0, .int .i64 0]) ?_ 0 _ rfl; (with_reducible repeat (first | refine blk_drewN ?_ _ | refine blk_drew ?_ | refine blk_alloc ?_ _)); exact BK298.out) Tryd.underlying39 rfl (by kernel_rfl)) rfl ?_
        exact ⟨by first | rfl | (simp [errW_none, errW_some] <;> rfl) | (simp [*, errW_none, errW_some] <;> rfl), by repeat (first | (with_reducible first | exact HB.out | apply below_alloc | apply pw_below_drewN | apply below_drew1 | refine below_set ?_ GE298.out) | exact HB.out)⟩
      · rw [if_neg c8] at H
        have c8b0 : (a0 == 3) = false := beq_eq_false_iff_ne.mpr c8
        have c8b1 : (a0 != 3) = true := bne_iff_ne.mpr c8
        simp only [Option.some.injEq, Prod.mk.injEq] at H
        obtain ⟨rfl, rfl, rfl, rfl, rfl, rfl, rfl, rfl, rfl, rfl⟩ := H
        go_enter Tryd.func13, Tryd.ntmps13
        go_wp2_with (first | ((with_reducible refine gate_dst (N := 2) rfl ?_); refine box_event ?hg (N := 2) ?hd (cs := #[.int .i64 0, .int .i64 0, .int .i64 0, .int .i64 0, .int .i64 0, .int .i64 0, .int .i64 0, .int .i64 0, .int .i64 0]) (t := 39) ?hr ?_; (case hd => rfl); (case hg => rfl); (case hr => first | (go_simp; done) | (go_simp; rfl)); intro gb298 hg w11 hbox hb; have n0_ := Aside0.mk (below_step (by repeat (first | (with_reducible first | exact HB.out | apply below_alloc | apply pw_below_drewN | apply below_drew1) | exact HB.out)) hb); have n1_ := Aside0.mk (hbox); have n2_ := Aside0.mk ((by rw [hg]; exact (below_size (by repeat (first | (with_reducible first | exact HB.out | apply below_alloc | apply pw_below_drewN | apply below_drew1) | exact HB.out))) : w.heap.size ≤ gb298)); have n3_ := Aside0.mk ((by rw [hg]; exact (below_size (by repeat (first | (with_reducible first | exact HB.out | apply below_alloc | apply pw_below_drewN | apply below_drew1) | exact HB.out))) : w.heap.size ≤ gb298)); clear HB; have HB := n0_; have BK298 := n1_; have GW298 := n2_; have GE298 := n3_; clear n0_ n1_ n2_ n3_; clear hb hbox hg; have hcz12_0 : w11.cell? ⟨gb298, 0, none⟩ = some (.int .i64 0) := (blk_cell BK298.out 0).trans rfl; have hcz12_1 : w11.cell? ⟨gb298, 1, none⟩ = some (.int .i64 0) := (blk_cell BK298.out 1).trans rfl; have hcz12_2 : w11.cell? ⟨gb298, 2, none⟩ = some (.int .i64 0) := (blk_cell BK298.out 2).trans rfl; have hcz12_3 : w11.cell? ⟨gb298, 3, none⟩ = some (.int .i64 0) := (blk_cell BK298.out 3).trans rfl; have hcz12_4 : w11.cell? ⟨gb298, 4, none⟩ = some (.int .i64 0) := (blk_cell BK298.out 4).trans rfl; have hcz12_5 : w11.cell? ⟨gb298, 5, none⟩ = some (.int .i64 0) := (blk_cell BK298.out 5).trans rfl; have hcz12_6 : w11.cell? ⟨gb298, 6, none⟩ = some (.int .i64 0) := (blk_cell BK298.out 6).trans rfl; have hcz12_7 : w11.cell? ⟨gb298, 7, none⟩ = some (.int .i64 0) := (blk_cell BK298.out 7).trans rfl; have hcz12_8 : w11.cell? ⟨gb298, 8, none⟩ = some (.int .i64 0) := (blk_cell BK298.out 8).trans rfl; have hfz12_0 := blk_frozen BK298.out 0; have hfz12_1 := blk_frozen BK298.out 1; have hfz12_2 := blk_frozen BK298.out 2; have hfz12_3 := blk_frozen BK298.out 3; have hfz12_4 := blk_frozen BK298.out 4; have hfz12_5 := blk_frozen BK298.out 5; have hfz12_6 := blk_frozen BK298.out 6; have hfz12_7 := blk_frozen BK298.out 7; have hfz12_8 := blk_frozen BK298.out 8))
        refine bodyPost_ret (results_ct rfl _ _ gb298 39 #[.int .i64 0, .int .i64 0, .int .i64 0, .int .i64 0, .int .i64 0, .int .i64 0, .int .i64 0, .int .i64 0, .int .i64 0] (0, 0) _ rfl (by (with_reducible repeat (first | refine blk_drewN ?_ _ | refine blk_drew ?_ | refine blk_alloc ?_ _)); refine blk_put (cs := #[.int .i64 0, .int .i64 0, .int .i64 0, .int .i64 0, .int .i64 0, .int .i64 0, .int .i64 0, .int .i64 0, .int .i64 0]) ?_ 8 _ rfl; (with_reducible repeat (first | refine blk_drewN ?_ _ | refine blk_drew ?_ | refine blk_alloc ?_ _)); refine blk_put (cs := #[.int .i64 0, .int .i64 0, .int .i64 0, .int .i64 0, .int .i64 0, .int .i64 0, .int .i64 0, .int .i64 0, .int .i64 0]) ?_ 7 _ rfl; (with_reducible repeat (first | refine blk_drewN ?_ _ | refine blk_drew ?_ | refine blk_alloc ?_ _)); refine blk_put (cs := #[.int .i64 0, .int .i64 0, .int .i64 0, .int .i64 0, .int .i64 0, .int .i64 0, .int .i64 0, .int .i64 0, .int .i64 0]) ?_ 6 _ rfl; (with_reducible repeat (first | refine blk_drewN ?_ _ | refine blk_drew ?_ | refine blk_alloc ?_ _)); refine blk_put (cs := #[.int .i64 0, .int .i64 0, .int .i64 0, .int .i64 0, .int .i64 0, .int .i64 0, .int .i64 0, .int .i64 0, .int .i64 0]) ?_ 5 _ rfl; (with_reducible repeat (first | refine blk_drewN ?_ _ | refine blk_drew ?_ | refine blk_alloc ?_ _)); refine blk_put (cs := #[.int .i64 0, .int .i64 0, .int .i64 0, .int .i64 0, .int .i64 0, .int .i64 0, .int .i64 0, .int .i64 0, .int .i64 0]) ?_ 4 _ rfl; (with_reducible repeat (first | refine blk_drewN ?_ _ | refine blk_drew ?_ | refine blk_alloc ?_ _)); refine blk_put (cs := #[.int .i64 0, .int .i64 0, .int .i64 0, .int .i64 0, .int .i64 0, .int .i64 0, .int .i64 0, .int .i64 0, .int .i64 0]) ?_ 3 _ rfl; (with_reducible repeat (first | refine blk_drewN ?_ _ | refine blk_drew ?_ | refine blk_alloc ?_ _)); refine blk_put (cs := #[.int .i64 0, .int .i64 0, .int .i64 0, .int .i64 0, .int .i64 0, .int .i64 0, .int .i64 0, .int .i64 0, .int .i64 0]) ?_ 2 _ rfl; (with_reducible repeat (first | refine blk_drewN ?_ _ | refine blk_drew ?_ | refine blk_alloc ?_ _)); refine blk_put (cs := #[.int .i64 0, .int .i64 0, .int .i64 0, .int .i64 0, .int .i64 0, .int .i64 0, .int .i64 0, .int .i64 0, .int .i64 0]) ?_ 1 _ rfl; (with_reducible repeat (first | refine blk_drewN ?_ _ | refine blk_drew ?_ | refine blk_alloc ?_ _)); refine blk_put (cs := #[.int .i64 0, .int .i64 0, .int .i64 0, .int .i64 0, .int .i64 0, .int .i64 0, .int .i64 0, .int .i64 0, .int .i64 0]) ?_ 0 _ rfl; (with_reducible repeat (first | refine blk_drewN ?_ _ | refine blk_drew ?_ | refine blk_alloc ?_ _)); exact BK298.out) Tryd.underlying39 rfl (by kernel_rfl)) rfl ?_
        exact ⟨by first | rfl | (simp [errW_none, errW_some] <;> rfl) | (simp [*, errW_none, errW_some] <;> rfl), by repeat (first | (with_reducible first | exact HB.out | apply below_alloc | apply pw_below_drewN | apply below_drew1 | refine below_set ?_ GE298.out) | exact HB.out)⟩

end Go.Proofs.YtggiddekbocokaaDoor.PLR
end
