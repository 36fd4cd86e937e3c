-- By a program of this session (wip/myprint.sh) out of the translation; Lean checks it.
import Derived.Test.YtbeceghdhcoohaaDoorPCBx0
import Derived.Test.YtbeceghdhcoohaaDoorPCBx1
import Derived.Test.YtbeceghdhcoohaaDoorPCBx2
import Derived.Test.YtbeceghdhcoohaaDoorPCBx3
namespace Go.Proofs.YtbeceghdhcoohaaDoor.PCB
open Go.RowKit Go.Proofs.YtbeceghdhcoohaaDoorW.PrintWords Go.Proofs.YtbeceghdhcoohaaDoorW.PrintLast Go.Proofs.YtbeceghdhcoohaaDoorW.PrintMore
attribute [local go_sem] max2_int min2_int max_two min_two max_three min_three max_four min_four   -- for this text's walks alone
set_option linter.unusedVariables false
set_option linter.unusedSimpArgs false

/-! ### chatelainelaw14_awake: function 8 -/
/-- A reader: what is left lies apart from the reader itself. -/
def CodeRd_Is (w : World) (base g : Nat) (l : List Int) (bad : Bool) : Prop :=
  base ≤ g ∧ ∃ A c, w.heap[g]? = some (.cells #[.slice A l.length c, .bool bad] 55 (0, 0)) ∧ l.length ≤ c ∧ Kd.F (Kd.int .u8) w (fun k => k ≠ g) A l.length l
set_option maxHeartbeats 8000000 in
set_option maxRecDepth 100000 in
theorem CodeRd_New.calls (A0 : Option Addr) (c0 : Nat) (l0 : List Int) (w : World) (hr0 : Kd.C (Kd.int .u8) w A0 l0.length l0) (hc0 : l0.length ≤ c0) (hf : slices_Clone_byte_byte.f l0 = some l0) :
    Calls Tryd.prog 19 #[.slice A0 l0.length c0] w fun e w' => ∃ g, e = .returned (.pointer (some ⟨g, 0, none⟩)) ∧ CodeRd_Is w' w.heap.size g l0 false ∧ Below w.heap.size w w' := by
  have HR0 := Aside0.mk hr0
  have HC0 := Aside0.mk hc0
  clear hr0 hc0
  go_enter Tryd.func19, Tryd.ntmps19
  go_wp2_with (go_at_call 32; (with_reducible refine (slices_Clone_byte_byte.calls _ _ l0 l0 _ HR0.out HC0.out hf).mono ?_); rintro e w1 ⟨v, rfl, ho, hb⟩; obtain ⟨A1, c1, rfl⟩ := Kd.R_slice ho)
  go_ret
  refine ⟨_, rfl, ⟨hb.size, A1, c1, blk_new _ _, (Kd.R_reads' ho).2.1, fun W' hW => Kd.R_F ho W' (fun k _ hk => ?_)⟩, hb.alloc hb.size _⟩
  rw [hW k (by omega) (by rw [World.size_alloc]; omega)]
  exact Below.heap_alloc _ _ k hk
set_option maxHeartbeats 8000000 in
set_option maxRecDepth 100000 in
theorem CodeRd_Number7.calls (base B g : Nat) (w0 w : World) (hr : CodeRd_Is w base g [0, 0, 0, 0, 0, 0, 0, 7] false) (hB : B ≤ g) (HB : Below B w0 w) :
    Calls Tryd.prog 20 #[.pointer (some ⟨g, 0, none⟩), .int .i64 0, .int .i64 9] w fun e w' => e = .returned (.int .i64 7) ∧ CodeRd_Is w' base g [] false ∧ Below B w0 w' := by
  obtain ⟨hb, A, c, hg, hc, hF⟩ := hr
  have hC : (Kd.int .u8).C w A 8 [0, 0, 0, 0, 0, 0, 0, 7] := hF w (fun _ _ _ => rfl)
  obtain ⟨ad, rfl, hcell⟩ := (Kd.reads_of_C (d := (0 : Int)) hC).2.2 (by decide)
  have hcell2 : ∀ (v : Value) (j : Nat), j < 8 → (w.setCell ⟨g, 0, none⟩ v).cell? (ad.add j) = some (.int .u8 ([0, 0, 0, 0, 0, 0, 0, 7].getD j 0)) := by
    intro v j hj
    have hC2 : (Kd.int .u8).C (w.setCell ⟨g, 0, none⟩ v) (some ad) 8 [0, 0, 0, 0, 0, 0, 0, 7] := hF _ (fun k hk _ => Below.heap_setCell w _ v k hk)
    obtain ⟨ad', e, hc3⟩ := (Kd.reads_of_C (d := (0 : Int)) hC2).2.2 (by decide)
    obtain rfl := Option.some.inj e
    exact hc3 j hj
  have e0 := fun v => hcell2 v 0 (by decide)
  have e1 := fun v => hcell2 v 1 (by decide)
  have e2 := fun v => hcell2 v 2 (by decide)
  have e3 := fun v => hcell2 v 3 (by decide)
  have e4 := fun v => hcell2 v 4 (by decide)
  have e5 := fun v => hcell2 v 5 (by decide)
  have e6 := fun v => hcell2 v 6 (by decide)
  have e7 := fun v => hcell2 v 7 (by decide)
  simp [go_sem] at e0 e1 e2 e3 e4 e5 e6 e7
  clear hcell2
  have b0 : bits .or .u64 0 0 = 0 := by decide
  have b1 : IntKind.u64.wrap 0 = 0 := by decide
  have b7 : bits .or .u64 0 7 = 7 := by decide
  have b8 : wrap64 7 = 7 := by unfold wrap64; omega
  have f0 : w.cell? ⟨g, 0, none⟩ = some (.slice (some ad) 8 c) := (blk_cell hg 0).trans rfl
  have f1 : w.cell? ⟨g, 1, none⟩ = some (.bool false) := (blk_cell hg 1).trans rfl
  have z0 := blk_frozen hg 0
  have z1 := blk_frozen hg 1
  have hc8 : 8 ≤ c := hc
  go_enter Tryd.func20, Tryd.ntmps20
  go_wp2_with (go_in)
  all_goals
    refine wp_loop_rounds 9 ?_
    rw [rounds_succ]
    go_wp2
    rw [rounds_succ]
    go_wp2
    rw [rounds_succ]
    go_wp2
    rw [rounds_succ]
    go_wp2
    rw [rounds_succ]
    go_wp2
    rw [rounds_succ]
    go_wp2
    rw [rounds_succ]
    go_wp2
    rw [rounds_succ]
    go_wp2
    rw [rounds_succ]
    go_wp2
    go_ret
  all_goals
    refine ⟨rfl, ⟨hb, _, _, blk_put hg 0 _ rfl, Nat.zero_le _, fun W' _ => ⟨rfl, by decide, fun h => absurd h (by decide)⟩⟩, HB.setCell hB _⟩
set_option maxHeartbeats 8000000 in
set_option maxRecDepth 100000 in
theorem CodeRd_Number1.calls (base B g : Nat) (x : Int) (w0 w : World) (hr : CodeRd_Is w base g [x] false) (hB : B ≤ g) (HB : Below B w0 w) :
    Calls Tryd.prog 20 #[.pointer (some ⟨g, 0, none⟩), .int .i64 0, .int .i64 9] w fun e w' => e = .returned (.int .i64 0) ∧ (∃ l, CodeRd_Is w' base g l true) ∧ Below B w0 w' := by
  obtain ⟨hb, A, c, hg, hc, hF⟩ := hr
  have f0 : w.cell? ⟨g, 0, none⟩ = some (.slice A 1 c) := (blk_cell hg 0).trans rfl
  have f1 : w.cell? ⟨g, 1, none⟩ = some (.bool false) := (blk_cell hg 1).trans rfl
  have z0 := blk_frozen hg 0
  have z1 := blk_frozen hg 1
  go_enter Tryd.func20, Tryd.ntmps20
  go_wp2_with (go_in)
  go_ret
  refine ⟨rfl, ⟨_, hb, _, _, blk_put hg 1 _ rfl, hc, fun W' hW => hF W' fun k hk hk2 => ?_⟩, HB.setCell hB _⟩
  rw [hW k hk (by simpa using hk2)]
  exact Below.heap_setCell w _ _ k hk
set_option maxHeartbeats 8000000 in
set_option maxRecDepth 100000 in
theorem CodeRd_End0.calls (base g : Nat) (w : World) (hr : CodeRd_Is w base g [] false) :
    Calls Tryd.prog 29 #[.pointer (some ⟨g, 0, none⟩)] w fun e w' => e = .returned .nilIface ∧ w' = w := by
  obtain ⟨hb, A, c, hg, hc, hF⟩ := hr
  have f0 : w.cell? ⟨g, 0, none⟩ = some (.slice A 0 c) := (blk_cell hg 0).trans rfl
  have f1 : w.cell? ⟨g, 1, none⟩ = some (.bool false) := (blk_cell hg 1).trans rfl
  go_enter Tryd.func29, Tryd.ntmps29
  go_wp2_with (go_in)
  go_ret
  exact ⟨rfl, rfl⟩
set_option maxHeartbeats 8000000 in
set_option maxRecDepth 100000 in
theorem CodeRd_End1.calls (base g : Nat) (l : List Int) (w : World) (hr : CodeRd_Is w base g l true) :
    Calls Tryd.prog 29 #[.pointer (some ⟨g, 0, none⟩)] w fun e w' => e = .returned (.iface 57 (.pointer (some ⟨w.heap.size, 0, none⟩))) ∧ w' = w.alloc (.cells #[.int .i64 4, .string ⟨#[99, 111, 100, 101]⟩] 62 (0, 0)) := by
  obtain ⟨hb, A, c, hg, hc, hF⟩ := hr
  have f0 : w.cell? ⟨g, 0, none⟩ = some (.slice A l.length c) := (blk_cell hg 0).trans rfl
  have f1 : w.cell? ⟨g, 1, none⟩ = some (.bool true) := (blk_cell hg 1).trans rfl
  go_enter Tryd.func29, Tryd.ntmps29
  go_wp2_with (go_in)
  go_ret
  exact ⟨rfl, rfl⟩

theorem CodeRd_below_weaken2 {a b : World} {B C : Nat} (h : Below B a b) (hB : C ≤ B) : Below C a b := h.mono hB
def chatelainelaw14_awake.f : Option Bool := some true
set_option maxHeartbeats 8000000 in
set_option maxRecDepth 100000 in
theorem chatelainelaw14_awake.calls (r : Bool) (w : World) (hg_ : w.cell? ⟨0, 0, none⟩ = some (.iface 81 (.agg #[.pointer (some ⟨1, 48, none⟩)]))) (h : chatelainelaw14_awake.f = some r) :
    Calls Tryd.prog 8 #[] w fun e w' => e = .returned (.bool r) ∧ Below w.heap.size w w' := by
  obtain rfl := Option.some.inj h
  have fN : code_Number.f 20 [] [7] = some [0, 0, 0, 0, 0, 0, 0, 7] := by first | rfl | decide +kernel
  have fT : code_Text.f 20 [] ⟨#[97]⟩ = some [0, 0, 0, 0, 0, 0, 0, 1, 97] := by first | rfl | decide +kernel
  have fS : chatelainelaw0_SameBytes.f 20 [0, 0, 0, 0, 0, 0, 0, 1, 97] [0, 0, 0, 0, 0, 0, 0, 1, 97] = some true := by first | rfl | decide +kernel
  have fC8 : slices_Clone_byte_byte.f [0, 0, 0, 0, 0, 0, 0, 7] = some [0, 0, 0, 0, 0, 0, 0, 7] := by first | rfl | decide
  have fC1 : slices_Clone_byte_byte.f [1] = some [1] := by first | rfl | decide
  go_enter Tryd.func8, Tryd.ntmps8
  go_wp2_with (first | (go_at_call 13; refine (chatelainelaw0_SameBytes.calls 20 A13 C13 _ A3 C3 _ true _ (Kd.R_reads' (Kd.R_below ho13 hb3)).2.2 (Kd.R_reads' ho13).2.1 (Kd.R_reads' ho3).2.2 (Kd.R_reads' ho3).2.1 fS).mono ?_; rintro e w14 ⟨rfl, hd14⟩; have X14 := below_step (below_step (below_step (below_step HBB hb12) hb13) hb3) hd14.below) | ((with_reducible refine gate_dst (N := 41) rfl ?_); (try (refine gate_guard (by rfl) ?_; dsimp only)); refine Kd.R_lit (Kd.int .u8) _ 5 ?hg (N := 41) ?hd (xs := ([0, 0, 0, 0, 0, 0, 0, 1, 97] : List Int)) (inner := [.int .u8 0, .int .u8 0, .int .u8 0, .int .u8 0, .int .u8 0, .int .u8 0, .int .u8 0, .int .u8 1, .int .u8 97]) (ok := fun _ => True) (okp := fun _ => True) ?hr ?hp (fun _ hk => hk) trivial (Below.refl _ _) (Nat.le_refl _) (by simp) ?_; (case hd => rfl); (case hg => rfl); (case hr => first | (go_simp; done) | (go_simp; rfl)); (case hp => exact (Reps.one (show Kd.M (Kd.int .u8) _ _ _ 0 [.int .u8 0] from rfl) (Reps.one (show Kd.M (Kd.int .u8) _ _ _ 0 [.int .u8 0] from rfl) (Reps.one (show Kd.M (Kd.int .u8) _ _ _ 0 [.int .u8 0] from rfl) (Reps.one (show Kd.M (Kd.int .u8) _ _ _ 0 [.int .u8 0] from rfl) (Reps.one (show Kd.M (Kd.int .u8) _ _ _ 0 [.int .u8 0] from rfl) (Reps.one (show Kd.M (Kd.int .u8) _ _ _ 0 [.int .u8 0] from rfl) (Reps.one (show Kd.M (Kd.int .u8) _ _ _ 0 [.int .u8 0] from rfl) (Reps.one (show Kd.M (Kd.int .u8) _ _ _ 1 [.int .u8 1] from rfl) (Reps.one (show Kd.M (Kd.int .u8) _ _ _ 97 [.int .u8 97] from rfl) (Reps.none _ _))))))))))); intro v3 w3 ho3 hb3 hg_x hnew_; clear hg_x hnew_; obtain ⟨A3, C3, eq3⟩ := Kd.R_slice ho3; subst eq3) | (go_at_call 12; refine (code_Text.calls 20 none 0 [] ⟨#[97]⟩ _ _ (Kd.C_nil _ _) (Nat.le_refl _) fT).mono ?_; rintro e w13 ⟨v13, rfl, ho13, hb13⟩; obtain ⟨A13, C13, rfl⟩ := Kd.R_slice ho13) | (go_at_call 28; refine (Errs.num_P _ 4 _ (by decide) (pw_cell_below HBB hg_) ((blk_cell (blk_new _ _) 0).trans rfl)).mono ?_; rintro e w12 ⟨rfl, hb12⟩) | (go_at_call 29; refine (CodeRd_End1.calls _ g9 l10 _ hr10).mono ?_; rintro e w11 ⟨rfl, rfl⟩; clear hr10; have X2 := below_step hb1 hb4; have X5 := below_step X2 hb5; have X7 := X5.trans (hb6.mono X2.size); have X8 := below_step X7 hb2; have X9 := below_step X8 hb9; have X10 := X9.trans (hb10.mono X8.size); have HBB := below_alloc X10 (.cells #[.int .i64 4, .string ⟨#[99, 111, 100, 101]⟩] 62 (0, 0))) | (go_at_call 20; refine (CodeRd_Number1.calls _ _ g9 1 w9 _ hr9 hr9.1 (Below.refl _ _)).mono ?_; rintro e w10 ⟨rfl, ⟨l10, hr10⟩, hb10⟩; clear hr9) | (go_at_call 19; refine (CodeRd_New.calls A2 C2 _ _ (Kd.R_reads' ho2).2.2 (Kd.R_reads' ho2).2.1 fC1).mono ?_; rintro e w9 ⟨g9, rfl, hr9, hb9⟩; clear ho2) | ((with_reducible refine gate_dst (N := 16) rfl ?_); (try (refine gate_guard (by rfl) ?_; dsimp only)); refine Kd.R_lit (Kd.int .u8) _ 5 ?hg (N := 16) ?hd (xs := ([1] : List Int)) (inner := [.int .u8 1]) (ok := fun _ => True) (okp := fun _ => True) ?hr ?hp (fun _ hk => hk) trivial (Below.refl _ _) (Nat.le_refl _) (by simp) ?_; (case hd => rfl); (case hg => rfl); (case hr => first | (go_simp; done) | (go_simp; rfl)); (case hp => exact (Reps.one (show Kd.M (Kd.int .u8) _ _ _ 1 [.int .u8 1] from rfl) (Reps.none _ _))); intro v2 w2 ho2 hb2 hg_x hnew_; clear hg_x hnew_; obtain ⟨A2, C2, eq2⟩ := Kd.R_slice ho2; subst eq2) | (go_at_call 29; refine (CodeRd_End0.calls _ g5 _ hr6).mono ?_; rintro e w7 ⟨rfl, rfl⟩; clear hr6) | (go_at_call 20; refine (CodeRd_Number7.calls _ _ g5 w5 _ hr5 hr5.1 (Below.refl _ _)).mono ?_; rintro e w6 ⟨rfl, hr6, hb6⟩; clear hr5) | (go_at_call 19; refine (CodeRd_New.calls A4 C4 _ _ (Kd.R_reads' ho4).2.2 (Kd.R_reads' ho4).2.1 fC8).mono ?_; rintro e w5 ⟨g5, rfl, hr5, hb5⟩; clear ho4) | (go_at_call 10; refine (code_Number.calls 20 none 0 [] A1 C1 [7] _ _ (Kd.C_nil _ _) (Nat.le_refl _) (Kd.R_reads' ho1).2.2 (Kd.R_reads' ho1).2.1 fN).mono ?_; rintro e w2 ⟨v2, rfl, ho4, hb4⟩; obtain ⟨A4, C4, rfl⟩ := Kd.R_slice ho4) | ((with_reducible refine gate_dst (N := 7) rfl ?_); (try (refine gate_guard (by rfl) ?_; dsimp only)); refine Kd.R_lit (Kd.int .i64) _ 3 ?hg (N := 7) ?hd (xs := ([7] : List Int)) (inner := [.int .i64 7]) (ok := fun _ => True) (okp := fun _ => True) ?hr ?hp (fun _ hk => hk) trivial (Below.refl _ _) (Nat.le_refl _) (by simp) ?_; (case hd => rfl); (case hg => rfl); (case hr => first | (go_simp; done) | (go_simp; rfl)); (case hp => exact (Reps.one (show Kd.M (Kd.int .i64) _ _ _ 7 [.int .i64 7] from rfl) (Reps.none _ _))); intro v1 w1 ho1 hb1 hg_x hnew_; clear hg_x hnew_; obtain ⟨A1, C1, eq1⟩ := Kd.R_slice ho1; subst eq1))
  go_ret
  exact ⟨rfl, X14⟩

-- NOT PRINTED: function 22 (code_Reader_Bytes)

-- NOT PRINTED: function 24 (code_Reader_Text)

-- NOT PRINTED: function 26 (code_Reader_Left)

/-! ### chatelainelaw0_Low: function 31 -/
def chatelainelaw0_Low.f (a0 : Int) (a1 : Int) : Option (Int) := if (IntKind.u64.wrap (a1)) = 0 then (none) else (some (wrap64 (Int.tmod (IntKind.u64.wrap (a0)) (IntKind.u64.wrap (a1)))))
set_option maxHeartbeats 8000000 in
set_option maxRecDepth 100000 in
theorem chatelainelaw0_Low.calls (a0 : Int) (a1 : Int) (r : Int) (w : World) (h : chatelainelaw0_Low.f a0 a1 = some r) :
    Calls Tryd.prog 31 #[.int .i64 a0, .int .i64 a1] w fun e w' => e = .returned (.int .i64 r) ∧ Drawn0 w w' := by
  have H : (if (IntKind.u64.wrap (a1)) = 0 then (none) else (some (wrap64 (Int.tmod (IntKind.u64.wrap (a0)) (IntKind.u64.wrap (a1)))))) = some r := h
  clear h
  by_cases c3 : (IntKind.u64.wrap (a1)) = 0
  · rw [if_pos c3] at H
    exact absurd H (by simp)
  · rw [if_neg c3] at H
    have c3b0 : ((IntKind.u64.wrap (a1)) == 0) = false := beq_eq_false_iff_ne.mpr c3
    have c3b1 : ((IntKind.u64.wrap (a1)) != 0) = true := bne_iff_ne.mpr c3
    obtain rfl := Option.some.inj H
    go_enter Tryd.func31, Tryd.ntmps31
    go_wp2
    go_ret
    exact ⟨by first | rfl | (simp; done) | (simp [*]; done), by repeat (first | exact Drawn0.refl _ | apply Drawn0.step)⟩

end Go.Proofs.YtbeceghdhcoohaaDoor.PCB
