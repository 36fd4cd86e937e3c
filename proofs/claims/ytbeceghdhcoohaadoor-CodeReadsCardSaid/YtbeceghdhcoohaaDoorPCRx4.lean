-- By a program of this session (wip/myprint.sh) out of the translation; Lean checks it.
import Derived.Test.YtbeceghdhcoohaaDoorPCRx0
import Derived.Test.YtbeceghdhcoohaaDoorPCRx1
import Derived.Test.YtbeceghdhcoohaaDoorPCRx2
import Derived.Test.YtbeceghdhcoohaaDoorPCRx3
namespace Go.Proofs.YtbeceghdhcoohaaDoor.PCR
open Go.RowKit Go.Proofs.YtbeceghdhcoohaaDoorW.PrintWords Go.Proofs.YtbeceghdhcoohaaDoorW.PrintLast Go.Proofs.YtbeceghdhcoohaaDoorW.PrintMore
attribute [local go_sem] max2_int min2_int max_two min_two max_three min_three max_four min_four   -- for this text's walks alone
set_option linter.unusedVariables false
set_option linter.unusedSimpArgs false

/-! ### chatelainelaw14_awake: function 8 -/
/-- A reader: what is left lies apart from the reader itself. -/
def CodeRd_Is (w : World) (base g : Nat) (l : List Int) (bad : Bool) : Prop :=
  base ≤ g ∧ ∃ A c, w.heap[g]? = some (.cells #[.slice A l.length c, .bool bad] 55 (0, 0)) ∧ l.length ≤ c ∧ Kd.F (Kd.int .u8) w (fun k => k ≠ g) A l.length l
set_option maxHeartbeats 8000000 in
set_option maxRecDepth 100000 in
theorem CodeRd_New.calls (A0 : Option Addr) (c0 : Nat) (l0 : List Int) (w : World) (hr0 : Kd.C (Kd.int .u8) w A0 l0.length l0) (hc0 : l0.length ≤ c0) (hf : slices_Clone_byte_byte.f l0 = some l0) :
    Calls Tryd.prog 19 #[.slice A0 l0.length c0] w fun e w' => ∃ g, e = .returned (.pointer (some ⟨g, 0, none⟩)) ∧ CodeRd_Is w' w.heap.size g l0 false ∧ Below w.heap.size w w' := by
  have HR0 := Aside0.mk hr0
  have HC0 := Aside0.mk hc0
  clear hr0 hc0
  go_enter Tryd.func19, Tryd.ntmps19
  go_wp2_with (go_at_call 32; (with_reducible refine (slices_Clone_byte_byte.calls _ _ l0 l0 _ HR0.out HC0.out hf).mono ?_); rintro e w1 ⟨v, rfl, ho, hb⟩; obtain ⟨A1, c1, rfl⟩ := Kd.R_slice ho)
  go_ret
  refine ⟨_, rfl, ⟨hb.size, A1, c1, blk_new _ _, (Kd.R_reads' ho).2.1, fun W' hW => Kd.R_F ho W' (fun k _ hk => ?_)⟩, hb.alloc hb.size _⟩
  rw [hW k (by omega) (by rw [World.size_alloc]; omega)]
  exact Below.heap_alloc _ _ k hk
set_option maxHeartbeats 8000000 in
set_option maxRecDepth 100000 in
theorem CodeRd_Number7.calls (base B g : Nat) (w0 w : World) (hr : CodeRd_Is w base g [0, 0, 0, 0, 0, 0, 0, 7] false) (hB : B ≤ g) (HB : Below B w0 w) :
    Calls Tryd.prog 20 #[.pointer (some ⟨g, 0, none⟩), .int .i64 0, .int .i64 9] w fun e w' => e = .returned (.int .i64 7) ∧ CodeRd_Is w' base g [] false ∧ Below B w0 w' := by
  obtain ⟨hb, A, c, hg, hc, hF⟩ := hr
  have hC : (Kd.int .u8).C w A 8 [0, 0, 0, 0, 0, 0, 0, 7] := hF w (fun _ _ _ => rfl)
  obtain ⟨ad, rfl, hcell⟩ := (Kd.reads_of_C (d := (0 : Int)) hC).2.2 (by decide)
  have hcell2 : ∀ (v : Value) (j : Nat), j < 8 → (w.setCell ⟨g, 0, none⟩ v).cell? (ad.add j) = some (.int .u8 ([0, 0, 0, 0, 0, 0, 0, 7].getD j 0)) := by
    intro v j hj
    have hC2 : (Kd.int .u8).C (w.setCell ⟨g, 0, none⟩ v) (some ad) 8 [0, 0, 0, 0, 0, 0, 0, 7] := hF _ (fun k hk _ => Below.heap_setCell w _ v k hk)
    obtain ⟨ad', e, hc3⟩ := (Kd.reads_of_C (d := (0 : Int)) hC2).2.2 (by decide)
    obtain rfl := Option.some.inj e
    exact hc3 j hj
  have e0 := fun v => hcell2 v 0 (by decide)
  have e1 := fun v => hcell2 v 1 (by decide)
  have e2 := fun v => hcell2 v 2 (by decide)
  have e3 := fun v => hcell2 v 3 (by decide)
  have e4 := fun v => hcell2 v 4 (by decide)
  have e5 := fun v => hcell2 v 5 (by decide)
  have e6 := fun v => hcell2 v 6 (by decide)
  have e7 := fun v => hcell2 v 7 (by decide)
  simp [go_sem] at e0 e1 e2 e3 e4 e5 e6 e7
  clear hcell2
  have b0 : bits .or .u64 0 0 = 0 := by decide
  have b1 : IntKind.u64.wrap 0 = 0 := by decide
  have b7 : bits .or .u64 0 7 = 7 := by decide
  have b8 : wrap64 7 = 7 := by unfold wrap64; omega
  have f0 : w.cell? ⟨g, 0, none⟩ = some (.slice (some ad) 8 c) := (blk_cell hg 0).trans rfl
  have f1 : w.cell? ⟨g, 1, none⟩ = some (.bool false) := (blk_cell hg 1).trans rfl
  have z0 := blk_frozen hg 0
  have z1 := blk_frozen hg 1
  have hc8 : 8 ≤ c := hc
  go_enter Tryd.func20, Tryd.ntmps20
  go_wp2_with (go_in)
  all_goals
    refine wp_loop_rounds 9 ?_
    rw [rounds_succ]
    go_wp2
    rw [rounds_succ]
    go_wp2
    rw [rounds_succ]
    go_wp2
    rw [rounds_succ]
    go_wp2
    rw [rounds_succ]
    go_wp2
    rw [rounds_succ]
    go_wp2
    rw [rounds_succ]
    go_wp2
    rw [rounds_succ]
    go_wp2
    rw [rounds_succ]
    go_wp2
    go_ret
  all_goals
    refine ⟨rfl, ⟨hb, _, _, blk_put hg 0 _ rfl, Nat.zero_le _, fun W' _ => ⟨rfl, by decide, fun h => absurd h (by decide)⟩⟩, HB.setCell hB _⟩
set_option maxHeartbeats 8000000 in
set_option maxRecDepth 100000 in
theorem CodeRd_Number1.calls (base B g : Nat) (x : Int) (w0 w : World) (hr : CodeRd_Is w base g [x] false) (hB : B ≤ g) (HB : Below B w0 w) :
    Calls Tryd.prog 20 #[.pointer (some ⟨g, 0, none⟩), .int .i64 0, .int .i64 9] w fun e w' => e = .returned (.int .i64 0) ∧ (∃ l, CodeRd_Is w' base g l true) ∧ Below B w0 w' := by
  obtain ⟨hb, A, c, hg, hc, hF⟩ := hr
  have f0 : w.cell? ⟨g, 0, none⟩ = some (.slice A 1 c) := (blk_cell hg 0).trans rfl
  have f1 : w.cell? ⟨g, 1, none⟩ = some (.bool false) := (blk_cell hg 1).trans rfl
  have z0 := blk_frozen hg 0
  have z1 := blk_frozen hg 1
  go_enter Tryd.func20, Tryd.ntmps20
  go_wp2_with (go_in)
  go_ret
  refine ⟨rfl, ⟨_, hb, _, _, blk_put hg 1 _ rfl, hc, fun W' hW => hF W' fun k hk hk2 => ?_⟩, HB.setCell hB _⟩
  rw [hW k hk (by simpa using hk2)]
  exact Below.heap_setCell w _ _ k hk
set_option maxHeartbeats 8000000 in
set_option maxRecDepth 100000 in
theorem CodeRd_End0.calls (base g : Nat) (w : World) (hr : CodeRd_Is w base g [] false) :
    Calls Tryd.prog 29 #[.pointer (some ⟨g, 0, none⟩)] w fun e w' => e = .returned .nilIface ∧ w' = w := by
  obtain ⟨hb, A, c, hg, hc, hF⟩ := hr
  have f0 : w.cell? ⟨g, 0, none⟩ = some (.slice A 0 c) := (blk_cell hg 0).trans rfl
  have f1 : w.cell? ⟨g, 1, none⟩ = some (.bool false) := (blk_cell hg 1).trans rfl
  go_enter Tryd.func29, Tryd.ntmps29
  go_wp2_with (go_in)
  go_ret
  exact ⟨rfl, rfl⟩
set_option maxHeartbeats 8000000 in
set_option maxRecDepth 100000 in
theorem CodeRd_End1.calls (base g : Nat) (l : List Int) (w : World) (hr : CodeRd_Is w base g l true) :
    Calls Tryd.prog 29 #[.pointer (some ⟨g, 0, none⟩)] w fun e w' => e = .returned (.iface 57 (.pointer (some ⟨w.heap.size, 0, none⟩))) ∧ w' = w.alloc (.cells #[.int .i64 4, .string ⟨#[99, 111, 100, 101]⟩] 62 (0, 0)) := by
  obtain ⟨hb, A, c, hg, hc, hF⟩ := hr
  have f0 : w.cell? ⟨g, 0, none⟩ = some (.slice A l.length c) := (blk_cell hg 0).trans rfl
  have f1 : w.cell? ⟨g, 1, none⟩ = some (.bool true) := (blk_cell hg 1).trans rfl
  go_enter Tryd.func29, Tryd.ntmps29
  go_wp2_with (go_in)
  go_ret
  exact ⟨rfl, rfl⟩

theorem CodeRd_below_weaken2 {a b : World} {B C : Nat} (h : Below B a b) (hB : C ≤ B) : Below C a b := h.mono hB
def chatelainelaw14_awake.f : Option Bool := some true
set_option maxHeartbeats 8000000 in
set_option maxRecDepth 100000 in
theorem chatelainelaw14_awake.calls (r : Bool) (w : World) (hg_ : w.cell? ⟨0, 0, none⟩ = some (.iface 81 (.agg #[.pointer (some ⟨1, 48, none⟩)]))) (h : chatelainelaw14_awake.f = some r) :
    Calls Tryd.prog 8 #[] w fun e w' => e = .returned (.bool r) ∧ Below w.heap.size w w' := by
  obtain rfl := Option.some.inj h
  have fN : code_Number.f 20 [] [7] = some [0, 0, 0, 0, 0, 0, 0, 7] := by first | rfl | decide +kernel
  have fT : code_Text.f 20 [] ⟨#[97]⟩ = some [0, 0, 0, 0, 0, 0, 0, 1, 97] := by first | rfl | decide +kernel
  have fS : chatelainelaw0_SameBytes.f 20 [0, 0, 0, 0, 0, 0, 0, 1, 97] [0, 0, 0, 0, 0, 0, 0, 1, 97] = some true := by first | rfl | decide +kernel
  have fC8 : slices_Clone_byte_byte.f [0, 0, 0, 0, 0, 0, 0, 7] = some [0, 0, 0, 0, 0, 0, 0, 7] := by first | rfl | decide
  have fC1 : slices_Clone_byte_byte.f [1] = some [1] := by first | rfl | decide
  go_enter Tryd.func8, Tryd.ntmps8
  go_wp2_with (first | (go_at_call 13; refine (chatelainelaw0_SameBytes.calls 20 A13 C13 _ A3 C3 _ true _ (Kd.R_reads' (Kd.R_below ho13 hb3)).2.2 (Kd.R_reads' ho13).2.1 (Kd.R_reads' ho3).2.2 (Kd.R_reads' ho3).2.1 fS).mono ?_; rintro e w14 ⟨rfl, hd14⟩; have X14 := below_step (below_step (below_step (below_step HBB hb12) hb13) hb3) hd14.below) | ((with_reducible refine gate_dst (N := 41) rfl ?_); (try (refine gate_guard (by rfl) ?_; dsimp only)); refine Kd.R_lit (Kd.int .u8) _ 5 ?hg (N := 41) ?hd (xs := ([0, 0, 0, 0, 0, 0, 0, 1, 97] : List Int)) (inner := [.int .u8 0, .int .u8 0, .int .u8 0, .int .u8 0, .int .u8 0, .int .u8 0, .int .u8 0, .int .u8 1, .int .u8 97]) (ok := fun _ => True) (okp := fun _ => True) ?hr ?hp (fun _ hk => hk) trivial (Below.refl _ _) (Nat.le_refl _) (by simp) ?_; (case hd => rfl); (case hg => rfl); (case hr => first | (go_simp; done) | (go_simp; rfl)); (case hp => exact (Reps.one (show Kd.M (Kd.int .u8) _ _ _ 0 [.int .u8 0] from rfl) (Reps.one (show Kd.M (Kd.int .u8) _ _ _ 0 [.int .u8 0] from rfl) (Reps.one (show Kd.M (Kd.int .u8) _ _ _ 0 [.int .u8 0] from rfl) (Reps.one (show Kd.M (Kd.int .u8) _ _ _ 0 [.int .u8 0] from rfl) (Reps.one (show Kd.M (Kd.int .u8) _ _ _ 0 [.int .u8 0] from rfl) (Reps.one (show Kd.M (Kd.int .u8) _ _ _ 0 [.int .u8 0] from rfl) (Reps.one (show Kd.M (Kd.int .u8) _ _ _ 0 [.int .u8 0] from rfl) (Reps.one (show Kd.M (Kd.int .u8) _ _ _ 1 [.int .u8 1] from rfl) (Reps.one (show Kd.M (Kd.int .u8) _ _ _ 97 [.int .u8 97] from rfl) (Reps.none _ _))))))))))); intro v3 w3 ho3 hb3 hg_x hnew_; clear hg_x hnew_; obtain ⟨A3, C3, eq3⟩ := Kd.R_slice ho3; subst eq3) | (go_at_call 12; refine (code_Text.calls 20 none 0 [] ⟨#[97]⟩ _ _ (Kd.C_nil _ _) (Nat.le_refl _) fT).mono ?_; rintro e w13 ⟨v13, rfl, ho13, hb13⟩; obtain ⟨A13, C13, rfl⟩ := Kd.R_slice ho13) | (go_at_call 28; refine (Errs.num_P _ 4 _ (by decide) (pw_cell_below HBB hg_) ((blk_cell (blk_new _ _) 0).trans rfl)).mono ?_; rintro e w12 ⟨rfl, hb12⟩) | (go_at_call 29; refine (CodeRd_End1.calls _ g9 l10 _ hr10).mono ?_; rintro e w11 ⟨rfl, rfl⟩; clear hr10; have X2 := below_step hb1 hb4; have X5 := below_step X2 hb5; have X7 := X5.trans (hb6.mono X2.size); have X8 := below_step X7 hb2; have X9 := below_step X8 hb9; have X10 := X9.trans (hb10.mono X8.size); have HBB := below_alloc X10 (.cells #[.int .i64 4, .string ⟨#[99, 111, 100, 101]⟩] 62 (0, 0))) | (go_at_call 20; refine (CodeRd_Number1.calls _ _ g9 1 w9 _ hr9 hr9.1 (Below.refl _ _)).mono ?_; rintro e w10 ⟨rfl, ⟨l10, hr10⟩, hb10⟩; clear hr9) | (go_at_call 19; refine (CodeRd_New.calls A2 C2 _ _ (Kd.R_reads' ho2).2.2 (Kd.R_reads' ho2).2.1 fC1).mono ?_; rintro e w9 ⟨g9, rfl, hr9, hb9⟩; clear ho2) | ((with_reducible refine gate_dst (N := 16) rfl ?_); (try (refine gate_guard (by rfl) ?_; dsimp only)); refine Kd.R_lit (Kd.int .u8) _ 5 ?hg (N := 16) ?hd (xs := ([1] : List Int)) (inner := [.int .u8 1]) (ok := fun _ => True) (okp := fun _ => True) ?hr ?hp (fun _ hk => hk) trivial (Below.refl _ _) (Nat.le_refl _) (by simp) ?_; (case hd => rfl); (case hg => rfl); (case hr => first | (go_simp; done) | (go_simp; rfl)); (case hp => exact (Reps.one (show Kd.M (Kd.int .u8) _ _ _ 1 [.int .u8 1] from rfl) (Reps.none _ _))); intro v2 w2 ho2 hb2 hg_x hnew_; clear hg_x hnew_; obtain ⟨A2, C2, eq2⟩ := Kd.R_slice ho2; subst eq2) | (go_at_call 29; refine (CodeRd_End0.calls _ g5 _ hr6).mono ?_; rintro e w7 ⟨rfl, rfl⟩; clear hr6) | (go_at_call 20; refine (CodeRd_Number7.calls _ _ g5 w5 _ hr5 hr5.1 (Below.refl _ _)).mono ?_; rintro e w6 ⟨rfl, hr6, hb6⟩; clear hr5) | (go_at_call 19; refine (CodeRd_New.calls A4 C4 _ _ (Kd.R_reads' ho4).2.2 (Kd.R_reads' ho4).2.1 fC8).mono ?_; rintro e w5 ⟨g5, rfl, hr5, hb5⟩; clear ho4) | (go_at_call 10; refine (code_Number.calls 20 none 0 [] A1 C1 [7] _ _ (Kd.C_nil _ _) (Nat.le_refl _) (Kd.R_reads' ho1).2.2 (Kd.R_reads' ho1).2.1 fN).mono ?_; rintro e w2 ⟨v2, rfl, ho4, hb4⟩; obtain ⟨A4, C4, rfl⟩ := Kd.R_slice ho4) | ((with_reducible refine gate_dst (N := 7) rfl ?_); (try (refine gate_guard (by rfl) ?_; dsimp only)); refine Kd.R_lit (Kd.int .i64) _ 3 ?hg (N := 7) ?hd (xs := ([7] : List Int)) (inner := [.int .i64 7]) (ok := fun _ => True) (okp := fun _ => True) ?hr ?hp (fun _ hk => hk) trivial (Below.refl _ _) (Nat.le_refl _) (by simp) ?_; (case hd => rfl); (case hg => rfl); (case hr => first | (go_simp; done) | (go_simp; rfl)); (case hp => exact (Reps.one (show Kd.M (Kd.int .i64) _ _ _ 7 [.int .i64 7] from rfl) (Reps.none _ _))); intro v1 w1 ho1 hb1 hg_x hnew_; clear hg_x hnew_; obtain ⟨A1, C1, eq1⟩ := Kd.R_slice ho1; subst eq1))
  go_ret
  exact ⟨rfl, X14⟩

/-! ### chatelainelaw0_LendBytes: function 9 -/
def chatelainelaw0_LendBytes.f (l0 : List Int) : Option (List Int) := if l0.length < 17592186044416 then some l0 else none
set_option maxHeartbeats 8000000 in
set_option maxRecDepth 100000 in
theorem chatelainelaw0_LendBytes.calls (A0 : Option Addr) (c0 : Nat) (l0 : List Int) (r : List Int) (w : World) (hr0 : Kd.C (Kd.int .u8) w A0 l0.length l0) (hc0 : l0.length ≤ c0) (h : chatelainelaw0_LendBytes.f l0 = some r) :
    Calls Tryd.prog 9 #[.slice A0 l0.length c0] w fun e w' => ∃ v0_ : Value, e = .returned (v0_) ∧ Kd.LB (Kd.int .u8) 5 w' w.heap.size (fun _ => True) v0_ r ∧ Below w.heap.size w w' := by
  have hl : l0.length < 17592186044416 := by
    by_cases c : l0.length < 17592186044416
    · exact c
    · simp [chatelainelaw0_LendBytes.f, c] at h
  have hR : l0 = r := by simpa [chatelainelaw0_LendBytes.f, hl] using h
  subst hR
  clear h
  obtain ⟨i, hi, hz0, hz1, hz2⟩ := info_parts (show (Tryd.prog.info? 5).map (fun i => (i.zero, i.size, i.bytes)) = some (some (.int .u8 0), 1, 1) by kernel_rfl)
  go_enter Tryd.func9, Tryd.ntmps9
  have HB := Below.refl w.heap.size w
  go_wp2_with (first
    | (at_make; refine wpList_make_own _ rfl _ _ 22 rfl w.heap.size 5 i (.int .u8 0) 1 Tryd.underlying22 hi hz0 hz1 .i64 .i64 _ (l0.length + 3) rfl rfl (by (try simp only [wrap64]); omega) (by rw [hz2]; omega) (by simp only [maxLen]; omega) (by simp) ?_; intro w1 ho1 hg1; have HB1 := pw_below_grown HB none (Nat.le_refl _) hg1 (by simp); clear HB hg1)
    | (at_builtin; refine own_append_fits _ rfl _ _ 22 rfl .u8 w.heap.size 5 i Tryd.underlying22 hi hz1 w.heap.size 0 (l0.length + 3) [] rfl ho1 A0 l0.length c0 l0 rfl (Kd.C_below hr0 HB1) (by omega) ?_; intro w2 ho2 hg2; have HB2 := pw_below_grown HB1 (some w.heap.size) HB1.size hg2 (by simp); clear HB1 hg2 ho1))
  rw [show l0.length + 3 - l0.length = 3 from by omega]
  obtain ⟨hl2, hx⟩ := ho2
  rcases hx with ⟨hv, _⟩ | ⟨g', cap', cur, hv, hbg, hg, hnc, hcm, hcs, htake⟩
  · simp at hv
  simp only [Value.slice.injEq, Option.some.injEq, Addr.mk.injEq, and_true, true_and] at hv
  obtain ⟨rfl, -, rfl⟩ := hv
  simp only [Nat.mul_one, Nat.zero_add] at hcs htake hnc
  have e0 : w2.cell? ⟨w.heap.size, l0.length, none⟩ = some (cur[l0.length]'(by omega)) := (blk_cell hg _).trans (Array.getElem?_eq_getElem (by omega))
  have f0 := blk_frozen hg l0.length
  have g1 := blk_set hg l0.length (Value.int .u8 119)
  have e1 : (w2.setCell ⟨w.heap.size, l0.length, none⟩ (Value.int .u8 119)).cell? ⟨w.heap.size, l0.length + 1, none⟩ = some ((cur.setIfInBounds l0.length (Value.int .u8 119))[l0.length + 1]'(by simp; omega)) := (blk_cell g1 _).trans (Array.getElem?_eq_getElem (by simp; omega))
  have f1 := blk_frozen g1 (l0.length + 1)
  have g2 := blk_set g1 (l0.length + 1) (Value.int .u8 119)
  have e2 : ((w2.setCell ⟨w.heap.size, l0.length, none⟩ (Value.int .u8 119)).setCell ⟨w.heap.size, l0.length + 1, none⟩ (Value.int .u8 119)).cell? ⟨w.heap.size, l0.length + 2, none⟩ = some (((cur.setIfInBounds l0.length (Value.int .u8 119)).setIfInBounds (l0.length + 1) (Value.int .u8 119))[l0.length + 2]'(by simp; omega)) := (blk_cell g2 _).trans (Array.getElem?_eq_getElem (by simp; omega))
  have f2 := blk_frozen g2 (l0.length + 2)
  have g3 := blk_set g2 (l0.length + 2) (Value.int .u8 119)
  refine wp_loop_rounds 4 ?_
  rw [rounds_succ]
  go_wp2
  rw [rounds_succ]
  go_wp2
  rw [rounds_succ]
  go_wp2
  rw [rounds_succ]
  go_wp2
  go_ret
  have ht := lend_take (s := .int .u8 119) hcs htake
  refine ⟨_, rfl, ⟨lend_own rfl (Nat.le_add_right _ _) hcm (Nat.le_refl _) g3 (by simp; omega) (by simpa using ht.1), lend_own (by simp) (Nat.le_refl _) hcm (Nat.le_refl _) g3 (by simp; omega) (by rw [ht.2]; simp [nums])⟩, ?_⟩
  exact ((HB2.setCell (by simp) _).setCell (by simp) _).setCell (by simp) _

/-! ### chatelainelaw0_OverBytes: function 17 -/
def chatelainelaw0_OverBytes.l0 : Nat → List Int → Int → Option (Unit)
  | 0, _, _ => none
  | k + 1, x0, x2 => if x2 < (x0.length : Int) then (if 0 ≤ x2 then (chatelainelaw0_OverBytes.l0 k (x0.set (x2 : Int).toNat 238) (wrap64 (x2 + 1))) else (none)) else (if x0.length < 140737488355328 then (some ()) else (none))
def chatelainelaw0_OverBytes.f (k : Nat) (l0 : List Int) : Option (Unit) := chatelainelaw0_OverBytes.l0 k l0 0
theorem chatelainelaw0_OverBytes.mono_l : ∀ k, (∀ y0 y1, LeO (chatelainelaw0_OverBytes.l0 k y0 y1) (chatelainelaw0_OverBytes.l0 (k + 1) y0 y1))
  | 0 => fun _ _ r h => by simp [chatelainelaw0_OverBytes.l0] at h
  | k + 1 => by
    have ih0 := chatelainelaw0_OverBytes.mono_l k
    · intro y0 y1
      unfold chatelainelaw0_OverBytes.l0
      repeat' first
      | (with_reducible exact ih0 _ _)
      | (with_reducible exact LeO.refl _)
      | (with_reducible exact LeO.none _)
      | (with_reducible refine LeO.ite ?_ ?_)
      | (with_reducible refine LeO.bind ?_ (fun _ => ?_))
      | exact ih0 _ _
      | exact LeO.none _
      | refine LeO.ite ?_ ?_
      | refine LeO.bind ?_ (fun _ => ?_)
theorem chatelainelaw0_OverBytes.mono : ∀ a0 k, LeO (chatelainelaw0_OverBytes.f k a0) (chatelainelaw0_OverBytes.f (k + 1) a0) := by
  intro a0 k
  have ih0 := chatelainelaw0_OverBytes.mono_l k
  unfold chatelainelaw0_OverBytes.f
  repeat' first
      | (with_reducible exact ih0 _ _)
      | (with_reducible exact LeO.refl _)
      | (with_reducible exact LeO.none _)
      | (with_reducible refine LeO.ite ?_ ?_)
      | (with_reducible refine LeO.bind ?_ (fun _ => ?_))
      | exact ih0 _ _
      | exact LeO.none _
      | refine LeO.ite ?_ ?_
      | refine LeO.bind ?_ (fun _ => ?_)
set_option maxHeartbeats 8000000 in
set_option maxRecDepth 100000 in
theorem chatelainelaw0_OverBytes.calls (k : Nat) (P0_ : Nat → Prop) (u9000_ : Value) (l0 : List Int) (w0 w : World) (hB : Below w0.heap.size w0 w) (ho0 : Kd.R (Kd.int .u8) 5 w w0.heap.size P0_ u9000_ l0) (h : chatelainelaw0_OverBytes.f k l0 = some ()) :
    Calls Tryd.prog 17 #[u9000_] w fun e w' => e = .returned (.tuple #[]) ∧ Below w0.heap.size w0 w' ∧ Kept w w' (fun k_ => P0_ k_) := by
  have HO0 := Aside0.mk (show Kd.R (Kd.int .u8) 5 w w0.heap.size (fun k_ => (P0_ k_ ∨ w.heap.size ≤ k_)) u9000_ l0 from Kd.R_mono ho0 (fun k_ hk => (.inl hk)))
  have HK := Aside0.mk (Kept.refl w (fun k_ => P0_ k_))
  have HW0 := Aside0.mk hB.size
  have HB := Aside0.mk hB
  clear hB
  have H : (chatelainelaw0_OverBytes.l0 k l0 0) = some () := h
  clear h
  have H' := Aside0.mk H
  clear H
  go_enter Tryd.func17, Tryd.ntmps17
  go_wp2
  go_loopg [2] k (fun kq v2 w' => ∃ (x0_1 : List Int) (x2_1 : Int), v2 = .int .i64 x2_1 ∧ Aside0 (chatelainelaw0_OverBytes.l0 kq x0_1 x2_1 = some ()) ∧ Aside0 (kq ≤ k) ∧ Aside0 (Kd.R (Kd.int .u8) 5 w' w0.heap.size (fun k_ => (P0_ k_ ∨ w.heap.size ≤ k_)) u9000_ x0_1) ∧ Aside0 (Kept w w' (fun k_ => P0_ k_)) ∧ Aside0 (Below w0.heap.size w0 w'))
  case atStart => exact ⟨(l0), (0), (by first | rfl | (simp; done) | (simp [*]; done)), H', ⟨Nat.le_refl _⟩, ⟨by (with_reducible repeat (first | apply Kd.R_alloc | apply Kd.R_drewN | apply Kd.R_drew)); exact HO0.out⟩, ⟨by repeat (first | (with_reducible first | exact HK.out | apply Kept.alloc | apply Kept.drewN | apply Kept.drew) | exact HK.out)⟩, ⟨by repeat (first | (with_reducible first | exact HB.out | apply below_alloc | apply pw_below_drewN | apply below_drew1) | exact HB.out)⟩⟩
  case round =>
    clear H'
    try clear c1
    obtain ⟨x0_1, x2_1, rfl, HA, HK1, HO_0, HK, HB⟩ := hrel
    cases gk with
    | zero => exact absurd HA.out (by simp [chatelainelaw0_OverBytes.l0])
    | succ k1 =>
      have H := HA.out
      clear HA
      simp only [chatelainelaw0_OverBytes.l0] at H
      by_cases c2 : x2_1 < (x0_1.length : Int)
      · rw [if_pos c2] at H
        have c2b0 : decide (x2_1 < (x0_1.length : Int)) = true := decide_eq_true c2
        clear c2
        by_cases c3 : 0 ≤ x2_1
        · rw [if_pos c3] at H
          have c3b0 : decide (0 ≤ x2_1) = true := decide_eq_true c3
          clear c3
          obtain ⟨y142, hy142⟩ : ∃ y_ : List Int, y_ = (x0_1.set (x2_1 : Int).toNat 238) := ⟨_, rfl⟩
          replace H : (chatelainelaw0_OverBytes.l0 k1 y142 (wrap64 (x2_1 + 1))) = some () := by first | (rw [hy142]; with_reducible exact H) | (have H2_ := (Option.bind_some _ _).symm.trans H; rw [hy142]; with_reducible exact H2_) | (have H2_ := (Option.bind_some _ _).symm.trans H; with_reducible exact H2_) | with_reducible exact H | (rw [hy142]; exact H) | exact H
          have Ny142 := Aside0.mk hy142
          clear hy142
          have H' := Aside0.mk H
          clear H
          obtain ⟨Ao5, co5, eo5⟩ := Kd.R_slice HO_0.out
          subst eo5
          have p4 : 0 ≤ (x2_1 : Int) := of_decide_eq_true (by first | (with_reducible assumption) | assumption)
          have q4 : (x2_1 : Int) < ((x0_1.length : Int) : Int) := of_decide_eq_true (by first | (with_reducible assumption) | assumption)
          obtain ⟨go4, co4, eo4, gb4, gl4, cl4, HG4⟩ := Kd.R_form HO_0.out (by omega)
          (first | cases eo4 | (injection eo4 with ea_ en_ ec_; (first | subst ea_ | (injection ea_ with ea_; subst ea_)); subst ec_; clear en_))
          have GB4 := Aside0.mk gb4
          have GG4 := Aside0.mk HG4
          clear gb4 gl4 HG4
          have HMgo4 := Aside0.mk (show (P0_ go4 ∨ w.heap.size ≤ go4) from (HO_0.out.1 _ rfl))
          obtain ⟨hx4_0, hf4_0⟩ := Kd.R_celln 0 HO_0.out (x2_1 : Int) p4 q4
          replace p4 := eq_true p4
          replace q4 := eq_true q4
          have HP6 := Kd.R_putg HO_0.out (x2_1 : Int) 238
          go_wp2_with (first | ((with_reducible refine gate_store (t := 5) (p := 11) rfl ?_); refine store_event (t := 5) (p := 11) (v := ?vo_w7) (w1 := (wr.setCell ⟨go4, (x2_1 : Int).toNat, none⟩ (.int .u8 238))) ?hg ?ho ?hn ?hr ?_; (case ho => rfl); (case hg => rfl); (case hn => rfl); (case hr => first | (go_simp; done) | (go_simp; rfl)); intro w7 hw; have hg : wr.grownBy w7 (some go4) := (by rw [hw]; exact HP6.2); have hp_ : Kd.R (Kd.int .u8) 5 w7 w0.heap.size (fun k_ => (P0_ k_ ∨ w.heap.size ≤ k_)) (.slice (some ⟨go4, 0, none⟩) x0_1.length co5) y142 := (by rw [hw, Ny142.out]; exact HP6.1); clear HP6; have n0_ := Aside0.mk (hp_); have n1_ := Aside0.mk ((by rw [hw]; exact below_set (HB.out) GB4.out : Below w0.heap.size w0 w7)); have n2_ := Aside0.mk (Kept.of_grown (S := (fun k_ => P0_ k_)) hg (by repeat (first | (with_reducible first | exact HK.out | apply Kept.alloc | apply Kept.drewN | apply Kept.drew) | exact HK.out)) (fun k_ e_ => (HO_0.out.1 k_ e_))); clear HO_0; clear HB; clear HK; have HO_0 := n0_; have HB := n1_; have HK := n2_; clear n0_ n1_ n2_; clear hg hw hp_))
          go_roundg k1
          case measure => have := HK1.out; omega
          case rel => exact ⟨(y142), (wrap64 (x2_1 + 1)), (by first | rfl | (simp; done) | (simp [*]; done)), H', ⟨by have := HK1.out; omega⟩, ⟨by (with_reducible repeat (first | apply Kd.R_alloc | apply Kd.R_drewN | apply Kd.R_drew)); exact HO_0.out⟩, ⟨by repeat (first | (with_reducible first | exact HK.out | apply Kept.alloc | apply Kept.drewN | apply Kept.drew) | exact HK.out)⟩, ⟨by repeat (first | (with_reducible first | exact HB.out | apply below_alloc | apply pw_below_drewN | apply below_drew1) | exact HB.out)⟩⟩
        · rw [if_neg c3] at H
          exact absurd H (by simp)
      · rw [if_neg c2] at H
        have c2b0 : decide (x2_1 < (x0_1.length : Int)) = false := decide_eq_false c2
        clear c2
        by_cases c8 : x0_1.length < 140737488355328
        · rw [if_pos c8] at H
          have LMc8 := Aside0.mk c8
          clear c8
          obtain ⟨y143, hy143⟩ : ∃ y_ : List Int, y_ = (x0_1 ++ [238]) := ⟨_, rfl⟩
          replace H : (some ()) = some () := by first | (rw [hy143]; with_reducible exact H) | (have H2_ := (Option.bind_some _ _).symm.trans H; rw [hy143]; with_reducible exact H2_) | (have H2_ := (Option.bind_some _ _).symm.trans H; with_reducible exact H2_) | with_reducible exact H | (rw [hy143]; exact H) | exact H
          have Ny143 := Aside0.mk hy143
          clear hy143
          obtain ⟨Ao9, co9, eo9⟩ := Kd.R_slice HO_0.out
          subst eo9
          go_wp2_with (first | ((with_reducible refine gate_builtin (b := .append) (xs := #[.tmp 12, .tmp 13]) rfl ?_); at_builtin; refine Kd.R_append (Kd.int .u8) (w0 := w0) w0.heap.size rfl (.tmp 12) (.tmp 13) 22 5 (.int .u8 0) 1 rfl Tryd.underlying22 info5 rfl (by decide) (by omega) (.slice Ao9 x0_1.length co9) x0_1 238 [.int .u8 238] (fun k_ => (P0_ k_ ∨ w.heap.size ≤ k_)) (fun _ => False) rfl rfl ?aP (fun _ hk => hk.elim) ?aF ?aO ?aB ?aS ?aL ?_; (case aP => exact rfl); (case aB => exact (by repeat (first | (with_reducible first | exact HB.out | apply below_alloc | apply pw_below_drewN | apply below_drew1) | exact HB.out))); (case aF => exact (fun k_ hk => (.inr (Nat.le_trans (by first | exact HK.out.1 | exact (show Kept w _ (fun k_ => P0_ k_) from by repeat (first | (with_reducible first | exact HK.out | apply Kept.alloc | apply Kept.drewN | apply Kept.drew) | exact HK.out)).1) hk)))); (case aO => exact (by (with_reducible repeat (first | apply Kd.R_alloc | apply Kd.R_drewN | apply Kd.R_drew)); exact HO_0.out)); (case aS => exact (below_size (by repeat (first | (with_reducible first | exact HB.out | apply below_alloc | apply pw_below_drewN | apply below_drew1) | exact HB.out)))); (case aL => have := LMc8.out; omega); intro v144 w10 ho hb hg hat; rw [← Ny143.out] at ho; have n0_ := Aside0.mk (hb); have n1_ := Aside0.mk (Kept.of_grown (S := (fun k_ => P0_ k_)) hg (by repeat (first | (with_reducible first | exact HK.out | apply Kept.alloc | apply Kept.drewN | apply Kept.drew) | exact HK.out)) (fun k_ e_ => (HO_0.out.1 k_ e_))); have n2_ := Aside0.mk (ho); clear HB; clear HK; clear HO_0; have HB := n0_; have HK := n1_; have HO145 := n2_; clear n0_ n1_ n2_; clear ho hb hg hat))
          first | go_end0 | ((try simp only [Exit.inBlock, Exit.then]); refine bodyPost_ret (results_none rfl _ _ _) rfl ?_)
          exact ⟨by first | rfl | (simp [errW_none, errW_some] <;> rfl) | (simp [*, errW_none, errW_some] <;> rfl), by repeat (first | (with_reducible first | exact HB.out | apply below_alloc | apply pw_below_drewN | apply below_drew1) | exact HB.out), by repeat (first | (with_reducible first | exact HK.out | apply Kept.alloc | apply Kept.drewN | apply Kept.drew) | exact HK.out)⟩
        · rw [if_neg c8] at H
          exact absurd H (by simp)

end Go.Proofs.YtbeceghdhcoohaaDoor.PCR
