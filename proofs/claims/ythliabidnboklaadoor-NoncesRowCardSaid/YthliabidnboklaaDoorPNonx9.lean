-- By a program of this session (wip/myprint.sh) out of the translation; Lean checks it.
import Derived.Test.YthliabidnboklaaDoorPNonx0
import Derived.Test.YthliabidnboklaaDoorPNonx2
import Derived.Test.YthliabidnboklaaDoorPNonx5
import Derived.Test.YthliabidnboklaaDoorPNonx7
namespace Go.Proofs.YthliabidnboklaaDoor.PNon
open Go.RowKit Go.Proofs.YthliabidnboklaaDoorW.PrintWords Go.Proofs.YthliabidnboklaaDoorW.PrintLast Go.Proofs.YthliabidnboklaaDoorW.PrintMore
attribute [local go_sem] max2_int min2_int max_two min_two max_three min_three max_four min_four   -- for this text's walks alone
set_option linter.unusedVariables false
set_option linter.unusedSimpArgs false

/-! ### chatelainelaw18_NoncesRow: function 7 -/
mutual
def chatelainelaw18_NoncesRow.l0 : Nat → Int → Int → Int → Int → Int → Option (Bool)
  | 0, _, _, _, _, _ => none
  | k + 1, x0, x1, x5, x6, x7 => if x7 < x1 then ((nonces_Use.f k x5 x6 (wrap64 (x0 + x7))).bind fun bt193 => (if bt193.2.2.isEmpty = true then (if bt193.1 = (wrap64 (x0 + x7)) then (chatelainelaw18_NoncesRow.l0 k x0 x1 bt193.1 bt193.2.1 (wrap64 (x7 + 1))) else (some false)) else (some false))) else (chatelainelaw18_NoncesRow.l1 k x0 x1 x5 x6 0 0)
def chatelainelaw18_NoncesRow.j2 : Nat → Int → Int → Int → Int → Int → Option (Bool)
  | 0, _, _, _, _, _ => none
  | k + 1, x0, x1, x5, x6, x11 => if x6 = x11 then (chatelainelaw18_NoncesRow.l2 k x0 x1 x5 x6 0 0 0 (wrap64 (x1 - 1))) else (some false)
def chatelainelaw18_NoncesRow.l2 : Nat → Int → Int → Int → Int → Int → Int → Int → Int → Option (Bool)
  | 0, _, _, _, _, _, _, _, _ => none
  | k + 1, x0, x1, x5, x6, x13, x14, x15, x16 => if x16 ≥ 0 then ((nonces_Use.f k x13 x14 (wrap64 (x0 + x16))).bind fun bt198 => (if bt198.2.2.isEmpty = true then (chatelainelaw18_NoncesRow.l2 k x0 x1 x5 x6 bt198.1 bt198.2.1 (wrap64 (x15 + 1)) (wrap64 (x16 - 1))) else (chatelainelaw18_NoncesRow.l2 k x0 x1 x5 x6 x13 x14 x15 (wrap64 (x16 - 1))))) else (if x15 = (mn x1 64) then (if x13 = x5 then (if x14 = x6 then ((chatelainelaw18_awake.f k).bind fun t203 => (some t203)) else (some false)) else (some false)) else (some false))
def chatelainelaw18_NoncesRow.l1 : Nat → Int → Int → Int → Int → Int → Int → Option (Bool)
  | 0, _, _, _, _, _, _ => none
  | k + 1, x0, x1, x5, x6, x11, x12 => if x12 < x1 then (if x12 < 64 then (chatelainelaw18_NoncesRow.l1 k x0 x1 x5 x6 (Go.bits .or .u64 (IntKind.u64.wrap (x11 * 2)) 1) (wrap64 (x12 + 1))) else (chatelainelaw18_NoncesRow.j2 k x0 x1 x5 x6 x11)) else (chatelainelaw18_NoncesRow.j2 k x0 x1 x5 x6 x11)
end
def chatelainelaw18_NoncesRow.f (k : Nat) (a0 : Int) (a1 : Int) : Option (Bool) := (chatelainelaw0_Low.f a0 100000).bind fun t191 => ((chatelainelaw0_Low.f a1 150).bind fun t192 => (chatelainelaw18_NoncesRow.l0 k (wrap64 (1 + t191)) t192 0 0 0))
theorem chatelainelaw18_NoncesRow.mono_l : ∀ k, (∀ y0 y1 y2 y3 y4, LeO (chatelainelaw18_NoncesRow.l0 k y0 y1 y2 y3 y4) (chatelainelaw18_NoncesRow.l0 (k + 1) y0 y1 y2 y3 y4)) ∧ (∀ y0 y1 y2 y3 y4, LeO (chatelainelaw18_NoncesRow.j2 k y0 y1 y2 y3 y4) (chatelainelaw18_NoncesRow.j2 (k + 1) y0 y1 y2 y3 y4)) ∧ (∀ y0 y1 y2 y3 y4 y5 y6 y7, LeO (chatelainelaw18_NoncesRow.l2 k y0 y1 y2 y3 y4 y5 y6 y7) (chatelainelaw18_NoncesRow.l2 (k + 1) y0 y1 y2 y3 y4 y5 y6 y7)) ∧ (∀ y0 y1 y2 y3 y4 y5, LeO (chatelainelaw18_NoncesRow.l1 k y0 y1 y2 y3 y4 y5) (chatelainelaw18_NoncesRow.l1 (k + 1) y0 y1 y2 y3 y4 y5))
  | 0 => ⟨fun _ _ _ _ _ r h => by simp [chatelainelaw18_NoncesRow.l0] at h, fun _ _ _ _ _ r h => by simp [chatelainelaw18_NoncesRow.j2] at h, fun _ _ _ _ _ _ _ _ r h => by simp [chatelainelaw18_NoncesRow.l2] at h, fun _ _ _ _ _ _ r h => by simp [chatelainelaw18_NoncesRow.l1] at h⟩
  | k + 1 => by
    obtain ⟨ih0, ih1, ih2, ih3⟩ := chatelainelaw18_NoncesRow.mono_l k
    refine ⟨?_, ?_, ?_, ?_⟩
    · intro y0 y1 y2 y3 y4
      unfold chatelainelaw18_NoncesRow.l0
      repeat' first
      | (with_reducible exact ih0 _ _ _ _ _)
      | (with_reducible exact ih1 _ _ _ _ _)
      | (with_reducible exact ih2 _ _ _ _ _ _ _ _)
      | (with_reducible exact ih3 _ _ _ _ _ _)
      | (with_reducible exact chatelainelaw18_awake.mono _)
      | (with_reducible exact nonces_Use.mono _ _ _ _)
      | (with_reducible exact LeO.refl _)
      | (with_reducible exact LeO.none _)
      | (with_reducible refine LeO.ite ?_ ?_)
      | (with_reducible refine LeO.bind ?_ (fun _ => ?_))
      | exact ih0 _ _ _ _ _
      | exact ih1 _ _ _ _ _
      | exact ih2 _ _ _ _ _ _ _ _
      | exact ih3 _ _ _ _ _ _
      | exact chatelainelaw18_awake.mono _
      | exact nonces_Use.mono _ _ _ _
      | exact LeO.none _
      | refine LeO.ite ?_ ?_
      | refine LeO.bind ?_ (fun _ => ?_)
    · intro y0 y1 y2 y3 y4
      unfold chatelainelaw18_NoncesRow.j2
      repeat' first
      | (with_reducible exact ih0 _ _ _ _ _)
      | (with_reducible exact ih1 _ _ _ _ _)
      | (with_reducible exact ih2 _ _ _ _ _ _ _ _)
      | (with_reducible exact ih3 _ _ _ _ _ _)
      | (with_reducible exact chatelainelaw18_awake.mono _)
      | (with_reducible exact nonces_Use.mono _ _ _ _)
      | (with_reducible exact LeO.refl _)
      | (with_reducible exact LeO.none _)
      | (with_reducible refine LeO.ite ?_ ?_)
      | (with_reducible refine LeO.bind ?_ (fun _ => ?_))
      | exact ih0 _ _ _ _ _
      | exact ih1 _ _ _ _ _
      | exact ih2 _ _ _ _ _ _ _ _
      | exact ih3 _ _ _ _ _ _
      | exact chatelainelaw18_awake.mono _
      | exact nonces_Use.mono _ _ _ _
      | exact LeO.none _
      | refine LeO.ite ?_ ?_
      | refine LeO.bind ?_ (fun _ => ?_)
    · intro y0 y1 y2 y3 y4 y5 y6 y7
      unfold chatelainelaw18_NoncesRow.l2
      repeat' first
      | (with_reducible exact ih0 _ _ _ _ _)
      | (with_reducible exact ih1 _ _ _ _ _)
      | (with_reducible exact ih2 _ _ _ _ _ _ _ _)
      | (with_reducible exact ih3 _ _ _ _ _ _)
      | (with_reducible exact chatelainelaw18_awake.mono _)
      | (with_reducible exact nonces_Use.mono _ _ _ _)
      | (with_reducible exact LeO.refl _)
      | (with_reducible exact LeO.none _)
      | (with_reducible refine LeO.ite ?_ ?_)
      | (with_reducible refine LeO.bind ?_ (fun _ => ?_))
      | exact ih0 _ _ _ _ _
      | exact ih1 _ _ _ _ _
      | exact ih2 _ _ _ _ _ _ _ _
      | exact ih3 _ _ _ _ _ _
      | exact chatelainelaw18_awake.mono _
      | exact nonces_Use.mono _ _ _ _
      | exact LeO.none _
      | refine LeO.ite ?_ ?_
      | refine LeO.bind ?_ (fun _ => ?_)
    · intro y0 y1 y2 y3 y4 y5
      unfold chatelainelaw18_NoncesRow.l1
      repeat' first
      | (with_reducible exact ih0 _ _ _ _ _)
      | (with_reducible exact ih1 _ _ _ _ _)
      | (with_reducible exact ih2 _ _ _ _ _ _ _ _)
      | (with_reducible exact ih3 _ _ _ _ _ _)
      | (with_reducible exact chatelainelaw18_awake.mono _)
      | (with_reducible exact nonces_Use.mono _ _ _ _)
      | (with_reducible exact LeO.refl _)
      | (with_reducible exact LeO.none _)
      | (with_reducible refine LeO.ite ?_ ?_)
      | (with_reducible refine LeO.bind ?_ (fun _ => ?_))
      | exact ih0 _ _ _ _ _
      | exact ih1 _ _ _ _ _
      | exact ih2 _ _ _ _ _ _ _ _
      | exact ih3 _ _ _ _ _ _
      | exact chatelainelaw18_awake.mono _
      | exact nonces_Use.mono _ _ _ _
      | exact LeO.none _
      | refine LeO.ite ?_ ?_
      | refine LeO.bind ?_ (fun _ => ?_)
theorem chatelainelaw18_NoncesRow.mono : ∀ a0 a1 k, LeO (chatelainelaw18_NoncesRow.f k a0 a1) (chatelainelaw18_NoncesRow.f (k + 1) a0 a1) := by
  intro a0 a1 k
  obtain ⟨ih0, ih1, ih2, ih3⟩ := chatelainelaw18_NoncesRow.mono_l k
  unfold chatelainelaw18_NoncesRow.f
  repeat' first
      | (with_reducible exact ih0 _ _ _ _ _)
      | (with_reducible exact ih1 _ _ _ _ _)
      | (with_reducible exact ih2 _ _ _ _ _ _ _ _)
      | (with_reducible exact ih3 _ _ _ _ _ _)
      | (with_reducible exact chatelainelaw18_awake.mono _)
      | (with_reducible exact nonces_Use.mono _ _ _ _)
      | (with_reducible exact LeO.refl _)
      | (with_reducible exact LeO.none _)
      | (with_reducible refine LeO.ite ?_ ?_)
      | (with_reducible refine LeO.bind ?_ (fun _ => ?_))
      | exact ih0 _ _ _ _ _
      | exact ih1 _ _ _ _ _
      | exact ih2 _ _ _ _ _ _ _ _
      | exact ih3 _ _ _ _ _ _
      | exact chatelainelaw18_awake.mono _
      | exact nonces_Use.mono _ _ _ _
      | exact LeO.none _
      | refine LeO.ite ?_ ?_
      | refine LeO.bind ?_ (fun _ => ?_)
set_option maxHeartbeats 8000000 in
set_option maxRecDepth 100000 in
theorem chatelainelaw18_NoncesRow.calls (k : Nat) (a0 : Int) (a1 : Int) (r : Bool) (w : World) (hg_ : w.cell? ⟨0, 0, none⟩ = some (.iface 117 (.agg #[.pointer (some ⟨1, 24, none⟩)]))) (h : chatelainelaw18_NoncesRow.f k a0 a1 = some r) :
    Calls Tryd.prog 7 #[.int .i64 a0, .int .i64 a1] w fun e w' => e = .returned (.bool r) ∧ Below w.heap.size w w' := by
  have HG := Aside0.mk hg_
  clear hg_
  have HB := Aside0.mk (Below.refl w.heap.size w)
  have H : ((chatelainelaw0_Low.f a0 100000).bind fun t191 => ((chatelainelaw0_Low.f a1 150).bind fun t192 => (chatelainelaw18_NoncesRow.l0 k (wrap64 (1 + t191)) t192 0 0 0))) = some r := h
  clear h
  replace H := Option.bind_eq_some_iff.mp H
  obtain ⟨t191, A30, H⟩ := H
  replace H : ((chatelainelaw0_Low.f a1 150).bind fun t192 => (chatelainelaw18_NoncesRow.l0 k (wrap64 (1 + t191)) t192 0 0 0)) = some r := H
  have A3 := Aside0.mk A30
  clear A30
  replace H := Option.bind_eq_some_iff.mp H
  obtain ⟨t192, A40, H⟩ := H
  replace H : (chatelainelaw18_NoncesRow.l0 k (wrap64 (1 + t191)) t192 0 0 0) = some r := H
  have A4 := Aside0.mk A40
  clear A40
  have H' := Aside0.mk H
  clear H
  go_enter Tryd.func7, Tryd.ntmps7
  go_wp2_with (first | ((with_reducible refine gate_callee (f := 20) rfl ?_); refine goesL_ (some 21) rfl rfl Tryd.func20 (by kernel_rfl) rfl #[.int .i64 a0, .int .i64 100000] rfl (by (try simp only [List.map_toArray, List.map_cons, List.map_nil]); first | done | rfl | (simp only [List.length_drop, List.length_take]; rfl)) ?_; (with_reducible refine (chatelainelaw0_Low.calls a0 100000 t191 _ A3.out).mono ?_); rintro e w' ⟨rfl, ⟨nd, rfl⟩⟩; refine ⟨_, rfl, ?_⟩) | ((with_reducible refine gate_callee (f := 20) rfl ?_); refine goesL_ (some 24) rfl rfl Tryd.func20 (by kernel_rfl) rfl #[.int .i64 a1, .int .i64 150] rfl (by (try simp only [List.map_toArray, List.map_cons, List.map_nil]); first | done | rfl | (simp only [List.length_drop, List.length_take]; rfl)) ?_; (with_reducible refine (chatelainelaw0_Low.calls a1 150 t192 _ A4.out).mono ?_); rintro e w' ⟨rfl, ⟨nd, rfl⟩⟩; refine ⟨_, rfl, ?_⟩))
  go_loopg [5, 6, 7] k (fun kq v5 v6 v7 w' => ∃ (x5_1 : Int) (x6_1 : Int) (x7_1 : Int), v5 = .int .i64 x5_1 ∧ v6 = .int .u64 x6_1 ∧ v7 = .int .i64 x7_1 ∧ Aside0 (chatelainelaw18_NoncesRow.l0 kq (wrap64 (1 + t191)) t192 x5_1 x6_1 x7_1 = some r) ∧ Aside0 (kq ≤ k) ∧ Aside0 (Below w.heap.size w w'))
  case atStart => exact ⟨(0), (0), (0), (by first | rfl | (simp; done) | (simp [*]; done)), (by first | rfl | (simp; done) | (simp [*]; done)), (by first | rfl | (simp; done) | (simp [*]; done)), H', ⟨Nat.le_refl _⟩, ⟨by repeat (first | (with_reducible first | exact HB.out | apply below_alloc | apply pw_below_drewN | apply below_drew1) | exact HB.out)⟩⟩
  case round =>
    clear H'
    try clear c2
    try clear p2
    obtain ⟨x5_1, x6_1, x7_1, rfl, rfl, rfl, HA, HK1, HB⟩ := hrel
    cases gk with
    | zero => exact absurd HA.out (by simp [chatelainelaw18_NoncesRow.l0])
    | succ k1 =>
      have H := HA.out
      clear HA
      simp only [chatelainelaw18_NoncesRow.l0] at H
      by_cases c5 : x7_1 < t192
      · rw [if_pos c5] at H
        have c5b0 : decide (x7_1 < t192) = true := decide_eq_true c5
        clear c5
        replace H := Option.bind_eq_some_iff.mp H
        obtain ⟨⟨t193, t194, t195⟩, A60, H⟩ := H
        replace H : (if t195.isEmpty = true then (if t193 = (wrap64 ((wrap64 (1 + t191)) + x7_1)) then (chatelainelaw18_NoncesRow.l0 k1 (wrap64 (1 + t191)) t192 t193 t194 (wrap64 (x7_1 + 1))) else (some false)) else (some false)) = some r := H
        have A6 := Aside0.mk A60
        clear A60
        by_cases c7 : t195.isEmpty = true
        · rw [if_pos c7] at H
          replace c7 := Aside0.mk c7
          by_cases c8 : t193 = (wrap64 ((wrap64 (1 + t191)) + x7_1))
          · rw [if_pos c8] at H
            have c8b0 : (t193 == (wrap64 ((wrap64 (1 + t191)) + x7_1))) = true := beq_iff_eq.mpr c8
            have c8b1 : (t193 != (wrap64 ((wrap64 (1 + t191)) + x7_1))) = false := bne_eq_false_iff_eq.mpr c8
            clear c8
            have H' := Aside0.mk H
            clear H
            go_wp2_with (first | ((with_reducible refine gate_callee (f := 12) rfl ?_); refine goesL_ (some 36) rfl rfl Tryd.func12 (by kernel_rfl) rfl #[.int .i64 x5_1, .int .u64 x6_1, .int .i64 (wrap64 ((wrap64 (1 + t191)) + x7_1))] rfl (by (try simp only [List.map_toArray, List.map_cons, List.map_nil]); first | done | rfl | (simp only [List.length_drop, List.length_take]; rfl)) ?_; (with_reducible refine (nonces_Use.calls k1 x5_1 x6_1 (wrap64 ((wrap64 (1 + t191)) + x7_1)) t193 t194 t195 _ A6.out).mono ?_); rintro e w9 ⟨v196, rfl, ho0, hb⟩; refine ⟨_, rfl, ?_⟩; have n0_ := Aside0.mk (Kd.R_lower ho0 (below_size (by repeat (first | (with_reducible first | exact HB.out | apply below_alloc | apply pw_below_drewN | apply below_drew1) | exact HB.out)))); have n1_ := Aside0.mk (below_step (by repeat (first | (with_reducible first | exact HB.out | apply below_alloc | apply pw_below_drewN | apply below_drew1) | exact HB.out)) hb); clear HB; have HO197 := n0_; have HB := n1_; clear n0_ n1_; (try clear hb); (try clear hb2); (try clear hk); (try clear hi); (try clear ho0); (try clear A6); obtain rfl := eRow_none HO197.out c7.out))
            go_roundg k1
            case measure => have := HK1.out; omega
            case rel => exact ⟨(t193), (t194), (wrap64 (x7_1 + 1)), (by first | rfl | (simp; done) | (simp [*]; done)), (by first | rfl | (simp; done) | (simp [*]; done)), (by first | rfl | (simp; done) | (simp [*]; done)), H', ⟨by have := HK1.out; omega⟩, ⟨by repeat (first | (with_reducible first | exact HB.out | apply below_alloc | apply pw_below_drewN | apply below_drew1) | exact HB.out)⟩⟩
          · rw [if_neg c8] at H
            have c8b0 : (t193 == (wrap64 ((wrap64 (1 + t191)) + x7_1))) = false := beq_eq_false_iff_ne.mpr c8
            have c8b1 : (t193 != (wrap64 ((wrap64 (1 + t191)) + x7_1))) = true := bne_iff_ne.mpr c8
            obtain rfl := Option.some.inj H
            go_wp2_with (first | ((with_reducible refine gate_callee (f := 12) rfl ?_); refine goesL_ (some 36) rfl rfl Tryd.func12 (by kernel_rfl) rfl #[.int .i64 x5_1, .int .u64 x6_1, .int .i64 (wrap64 ((wrap64 (1 + t191)) + x7_1))] rfl (by (try simp only [List.map_toArray, List.map_cons, List.map_nil]); first | done | rfl | (simp only [List.length_drop, List.length_take]; rfl)) ?_; (with_reducible refine (nonces_Use.calls k1 x5_1 x6_1 (wrap64 ((wrap64 (1 + t191)) + x7_1)) t193 t194 t195 _ A6.out).mono ?_); rintro e w10 ⟨v196, rfl, ho0, hb⟩; refine ⟨_, rfl, ?_⟩; have n0_ := Aside0.mk (Kd.R_lower ho0 (below_size (by repeat (first | (with_reducible first | exact HB.out | apply below_alloc | apply pw_below_drewN | apply below_drew1) | exact HB.out)))); have n1_ := Aside0.mk (below_step (by repeat (first | (with_reducible first | exact HB.out | apply below_alloc | apply pw_below_drewN | apply below_drew1) | exact HB.out)) hb); clear HB; have HO197 := n0_; have HB := n1_; clear n0_ n1_; (try clear hb); (try clear hb2); (try clear hk); (try clear hi); (try clear ho0); (try clear A6); obtain rfl := eRow_none HO197.out c7.out))
            go_ret
            exact ⟨by first | rfl | (simp [errW_none, errW_some] <;> rfl) | (simp [*, errW_none, errW_some] <;> rfl), by repeat (first | (with_reducible first | exact HB.out | apply below_alloc | apply pw_below_drewN | apply below_drew1) | exact HB.out)⟩
        · rw [if_neg c7] at H
          replace c7 := Aside0.mk c7
          obtain rfl := Option.some.inj H
          go_wp2_with (first | ((with_reducible refine gate_callee (f := 12) rfl ?_); refine goesL_ (some 36) rfl rfl Tryd.func12 (by kernel_rfl) rfl #[.int .i64 x5_1, .int .u64 x6_1, .int .i64 (wrap64 ((wrap64 (1 + t191)) + x7_1))] rfl (by (try simp only [List.map_toArray, List.map_cons, List.map_nil]); first | done | rfl | (simp only [List.length_drop, List.length_take]; rfl)) ?_; (with_reducible refine (nonces_Use.calls k1 x5_1 x6_1 (wrap64 ((wrap64 (1 + t191)) + x7_1)) t193 t194 t195 _ A6.out).mono ?_); rintro e w11 ⟨v196, rfl, ho0, hb⟩; refine ⟨_, rfl, ?_⟩; have n0_ := Aside0.mk (Kd.R_lower ho0 (below_size (by repeat (first | (with_reducible first | exact HB.out | apply below_alloc | apply pw_below_drewN | apply below_drew1) | exact HB.out)))); have n1_ := Aside0.mk (below_step (by repeat (first | (with_reducible first | exact HB.out | apply below_alloc | apply pw_below_drewN | apply below_drew1) | exact HB.out)) hb); clear HB; have HO197 := n0_; have HB := n1_; clear n0_ n1_; (try clear hb); (try clear hb2); (try clear hk); (try clear hi); (try clear ho0); (try clear A6); obtain ⟨gec7, rfl⟩ := eRow_some HO197.out c7.out))
          go_ret
          exact ⟨by first | rfl | (simp [errW_none, errW_some] <;> rfl) | (simp [*, errW_none, errW_some] <;> rfl), by repeat (first | (with_reducible first | exact HB.out | apply below_alloc | apply pw_below_drewN | apply below_drew1) | exact HB.out)⟩
      · rw [if_neg c5] at H
        have c5b0 : decide (x7_1 < t192) = false := decide_eq_false c5
        clear c5
        have HC12 := Aside0.mk H
        clear H
        go_upto_block 2 with (fail)
        go_cut [11] (fun v11 wc => ∃ (kq : Nat) (x11_11 : Int), v11 = .int .u64 x11_11 ∧ Aside0 (chatelainelaw18_NoncesRow.j2 kq (wrap64 (1 + t191)) t192 x5_1 x6_1 x11_11 = some r) ∧ Aside0 (kq ≤ k1) ∧ Aside0 (Below w.heap.size w wc))
        case first =>
          have H := HC12.out
          clear HC12
          have H' := Aside0.mk H
          clear H
          go_wp2
          go_loopg [11, 12] k1 (fun kq v11 v12 w' => ∃ (x11_2 : Int) (x12_2 : Int), v11 = .int .u64 x11_2 ∧ v12 = .int .i64 x12_2 ∧ Aside0 (chatelainelaw18_NoncesRow.l1 kq (wrap64 (1 + t191)) t192 x5_1 x6_1 x11_2 x12_2 = some r) ∧ Aside0 (kq ≤ k1) ∧ Aside0 (Below w.heap.size w w'))
          case atStart => exact ⟨(0), (0), (by first | rfl | (simp; done) | (simp [*]; done)), (by first | rfl | (simp; done) | (simp [*]; done)), H', ⟨Nat.le_refl _⟩, ⟨by repeat (first | (with_reducible first | exact HB.out | apply below_alloc | apply pw_below_drewN | apply below_drew1) | exact HB.out)⟩⟩
          case round =>
            clear H'
            try clear c1
            try clear c2
            try clear p2
            try clear c5
            try clear c5b0
            try clear p6
            try clear c7
            try clear c8
            try clear c8b0
            try clear c8b1
            try clear c12
            try clear p2
            obtain ⟨x11_2, x12_2, rfl, rfl, HA, HK2, HB⟩ := hrel
            cases gk with
            | zero => exact absurd HA.out (by simp [chatelainelaw18_NoncesRow.l1])
            | succ k2 =>
              have H := HA.out
              clear HA
              simp only [chatelainelaw18_NoncesRow.l1] at H
              by_cases c13 : x12_2 < t192
              · rw [if_pos c13] at H
                have c13b0 : decide (x12_2 < t192) = true := decide_eq_true c13
                clear c13
                (first | rw [c13b0] | (simp only [i64_w, i32_w]; rw [c13b0]) | skip)
                by_cases c14 : x12_2 < 64
                · rw [if_pos c14] at H
                  have c14b0 : decide (x12_2 < 64) = true := decide_eq_true c14
                  clear c14
                  have H' := Aside0.mk H
                  clear H
                  go_wp2
                  go_roundg k2
                  case measure => have := HK1.out; have := HK2.out; omega
                  case rel => exact ⟨(Go.bits .or .u64 (IntKind.u64.wrap (x11_2 * 2)) 1), (wrap64 (x12_2 + 1)), (by first | rfl | (simp; done) | (simp [*]; done)), (by first | rfl | (simp; done) | (simp [*]; done)), H', ⟨by have := HK1.out; have := HK2.out; omega⟩, ⟨by repeat (first | (with_reducible first | exact HB.out | apply below_alloc | apply pw_below_drewN | apply below_drew1) | exact HB.out)⟩⟩
                · rw [if_neg c14] at H
                  have c14b0 : decide (x12_2 < 64) = false := decide_eq_false c14
                  clear c14
                  have H' := Aside0.mk H
                  clear H
                  go_wp2
                  go_meet
                  case rel => exact ⟨_, (x11_2), (by first | rfl | (simp; done) | (simp [*]; done)), H', ⟨by have := HK1.out; have := HK2.out; first | omega | exact Nat.le_refl _⟩, ⟨by repeat (first | (with_reducible first | exact HB.out | apply below_alloc | apply pw_below_drewN | apply below_drew1) | exact HB.out)⟩⟩
              · rw [if_neg c13] at H
                have c13b0 : decide (x12_2 < t192) = false := decide_eq_false c13
                clear c13
                (first | rw [c13b0] | (simp only [i64_w, i32_w]; rw [c13b0]) | skip)
                have H' := Aside0.mk H
                clear H
                go_wp2
                go_meet
                case rel => exact ⟨_, (x11_2), (by first | rfl | (simp; done) | (simp [*]; done)), H', ⟨by have := HK1.out; have := HK2.out; first | omega | exact Nat.le_refl _⟩, ⟨by repeat (first | (with_reducible first | exact HB.out | apply below_alloc | apply pw_below_drewN | apply below_drew1) | exact HB.out)⟩⟩
        case rest =>
          clear HC12
          try clear c1
          try clear c2
          try clear p2
          try clear c5
          try clear c5b0
          try clear p6
          try clear c7
          try clear c8
          try clear c8b0
          try clear c8b1
          try clear c12
          try clear c13
          try clear c13b0
          try clear c14
          try clear c14b0
          try clear p2
          try clear p6
          obtain ⟨kq, x11_11, rfl, HA, HJ11, HB⟩ := hcut
          cases kq with
          | zero => exact absurd HA.out (by simp [chatelainelaw18_NoncesRow.j2])
          | succ kj11 =>
            have H := HA.out
            clear HA
            simp only [chatelainelaw18_NoncesRow.j2] at H
            by_cases c15 : x6_1 = x11_11
            · rw [if_pos c15] at H
              have c15b0 : (x6_1 == x11_11) = true := beq_iff_eq.mpr c15
              have c15b1 : (x6_1 != x11_11) = false := bne_eq_false_iff_eq.mpr c15
              clear c15
              have H' := Aside0.mk H
              clear H
              go_wp2
              go_loopg [13, 14, 15, 16] kj11 (fun kq v13 v14 v15 v16 w' => ∃ (x13_3 : Int) (x14_3 : Int) (x15_3 : Int) (x16_3 : Int), v13 = .int .i64 x13_3 ∧ v14 = .int .u64 x14_3 ∧ v15 = .int .i64 x15_3 ∧ v16 = .int .i64 x16_3 ∧ Aside0 (chatelainelaw18_NoncesRow.l2 kq (wrap64 (1 + t191)) t192 x5_1 x6_1 x13_3 x14_3 x15_3 x16_3 = some r) ∧ Aside0 (kq ≤ kj11) ∧ Aside0 (Below w.heap.size w w'))
              case atStart => exact ⟨(0), (0), (0), (wrap64 (t192 - 1)), (by first | rfl | (simp; done) | (simp [*]; done)), (by first | rfl | (simp; done) | (simp [*]; done)), (by first | rfl | (simp; done) | (simp [*]; done)), (by first | rfl | (simp; done) | (simp [*]; done)), H', ⟨Nat.le_refl _⟩, ⟨by repeat (first | (with_reducible first | exact HB.out | apply below_alloc | apply pw_below_drewN | apply below_drew1) | exact HB.out)⟩⟩
              case round =>
                clear H'
                try clear c1
                try clear c2
                try clear p2
                try clear c5
                try clear c5b0
                try clear p6
                try clear c7
                try clear c8
                try clear c8b0
                try clear c8b1
                try clear c12
                try clear c13
                try clear c13b0
                try clear c14
                try clear c14b0
                try clear c15
                try clear c15b0
                try clear c15b1
                try clear p2
                try clear p6
                obtain ⟨x13_3, x14_3, x15_3, x16_3, rfl, rfl, rfl, rfl, HA, HK3, HB⟩ := hrel
                cases gk with
                | zero => exact absurd HA.out (by simp [chatelainelaw18_NoncesRow.l2])
                | succ k3 =>
                  have H := HA.out
                  clear HA
                  simp only [chatelainelaw18_NoncesRow.l2] at H
                  by_cases c16 : x16_3 ≥ 0
                  · rw [if_pos c16] at H
                    have c16b0 : decide (0 ≤ x16_3) = true := decide_eq_true c16
                    clear c16
                    replace H := Option.bind_eq_some_iff.mp H
                    obtain ⟨⟨t198, t199, t200⟩, A170, H⟩ := H
                    replace H : (if t200.isEmpty = true then (chatelainelaw18_NoncesRow.l2 k3 (wrap64 (1 + t191)) t192 x5_1 x6_1 t198 t199 (wrap64 (x15_3 + 1)) (wrap64 (x16_3 - 1))) else (chatelainelaw18_NoncesRow.l2 k3 (wrap64 (1 + t191)) t192 x5_1 x6_1 x13_3 x14_3 x15_3 (wrap64 (x16_3 - 1)))) = some r := H
                    have A17 := Aside0.mk A170
                    clear A170
                    by_cases c18 : t200.isEmpty = true
                    · rw [if_pos c18] at H
                      replace c18 := Aside0.mk c18
                      have H' := Aside0.mk H
                      clear H
                      go_wp2_with (first | ((with_reducible refine gate_callee (f := 12) rfl ?_); refine goesL_ (some 78) rfl rfl Tryd.func12 (by kernel_rfl) rfl #[.int .i64 x13_3, .int .u64 x14_3, .int .i64 (wrap64 ((wrap64 (1 + t191)) + x16_3))] rfl (by (try simp only [List.map_toArray, List.map_cons, List.map_nil]); first | done | rfl | (simp only [List.length_drop, List.length_take]; rfl)) ?_; (with_reducible refine (nonces_Use.calls k3 x13_3 x14_3 (wrap64 ((wrap64 (1 + t191)) + x16_3)) t198 t199 t200 _ A17.out).mono ?_); rintro e w19 ⟨v201, rfl, ho0, hb⟩; refine ⟨_, rfl, ?_⟩; have n0_ := Aside0.mk (Kd.R_lower ho0 (below_size (by repeat (first | (with_reducible first | exact HB.out | apply below_alloc | apply pw_below_drewN | apply below_drew1) | exact HB.out)))); have n1_ := Aside0.mk (below_step (by repeat (first | (with_reducible first | exact HB.out | apply below_alloc | apply pw_below_drewN | apply below_drew1) | exact HB.out)) hb); clear HB; have HO202 := n0_; have HB := n1_; clear n0_ n1_; (try clear hb); (try clear hb2); (try clear hk); (try clear hi); (try clear ho0); (try clear A17); obtain rfl := eRow_none HO202.out c18.out))
                      go_roundg k3
                      case measure => have := HK1.out; have := HJ11.out; have := HK3.out; omega
                      case rel => exact ⟨(t198), (t199), (wrap64 (x15_3 + 1)), (wrap64 (x16_3 - 1)), (by first | rfl | (simp; done) | (simp [*]; done)), (by first | rfl | (simp; done) | (simp [*]; done)), (by first | rfl | (simp; done) | (simp [*]; done)), (by first | rfl | (simp; done) | (simp [*]; done)), H', ⟨by have := HK1.out; have := HJ11.out; have := HK3.out; omega⟩, ⟨by repeat (first | (with_reducible first | exact HB.out | apply below_alloc | apply pw_below_drewN | apply below_drew1) | exact HB.out)⟩⟩
                    · rw [if_neg c18] at H
                      replace c18 := Aside0.mk c18
                      have H' := Aside0.mk H
                      clear H
                      go_wp2_with (first | ((with_reducible refine gate_callee (f := 12) rfl ?_); refine goesL_ (some 78) rfl rfl Tryd.func12 (by kernel_rfl) rfl #[.int .i64 x13_3, .int .u64 x14_3, .int .i64 (wrap64 ((wrap64 (1 + t191)) + x16_3))] rfl (by (try simp only [List.map_toArray, List.map_cons, List.map_nil]); first | done | rfl | (simp only [List.length_drop, List.length_take]; rfl)) ?_; (with_reducible refine (nonces_Use.calls k3 x13_3 x14_3 (wrap64 ((wrap64 (1 + t191)) + x16_3)) t198 t199 t200 _ A17.out).mono ?_); rintro e w20 ⟨v201, rfl, ho0, hb⟩; refine ⟨_, rfl, ?_⟩; have n0_ := Aside0.mk (Kd.R_lower ho0 (below_size (by repeat (first | (with_reducible first | exact HB.out | apply below_alloc | apply pw_below_drewN | apply below_drew1) | exact HB.out)))); have n1_ := Aside0.mk (below_step (by repeat (first | (with_reducible first | exact HB.out | apply below_alloc | apply pw_below_drewN | apply below_drew1) | exact HB.out)) hb); clear HB; have HO202 := n0_; have HB := n1_; clear n0_ n1_; (try clear hb); (try clear hb2); (try clear hk); (try clear hi); (try clear ho0); (try clear A17); obtain ⟨gec18, rfl⟩ := eRow_some HO202.out c18.out))
                      go_roundg k3
                      case measure => have := HK1.out; have := HJ11.out; have := HK3.out; omega
                      case rel => exact ⟨(x13_3), (x14_3), (x15_3), (wrap64 (x16_3 - 1)), (by first | rfl | (simp; done) | (simp [*]; done)), (by first | rfl | (simp; done) | (simp [*]; done)), (by first | rfl | (simp; done) | (simp [*]; done)), (by first | rfl | (simp; done) | (simp [*]; done)), H', ⟨by have := HK1.out; have := HJ11.out; have := HK3.out; omega⟩, ⟨by repeat (first | (with_reducible first | exact HB.out | apply below_alloc | apply pw_below_drewN | apply below_drew1) | exact HB.out)⟩⟩
                  · rw [if_neg c16] at H
                    have c16b0 : decide (0 ≤ x16_3) = false := decide_eq_false c16
                    clear c16
                    obtain ⟨ji21, hji21⟩ : ∃ j_ : Int, (mn t192 64) = j_ := ⟨_, rfl⟩
                    replace H : (if x15_3 = (ji21) then (if x13_3 = x5_1 then (if x14_3 = x6_1 then ((chatelainelaw18_awake.f k3).bind fun t203 => (some t203)) else (some false)) else (some false)) else (some false)) = some r := by first | (rw [hji21] at H; exact H) | (simp only [hji21] at H ⊢; exact H)
                    have hji21_ : (if 64 < t192 then 64 else t192) = ji21 := hji21
                    by_cases c22 : x15_3 = (ji21)
                    · rw [if_pos c22] at H
                      have c22b0 : (x15_3 == (ji21)) = true := beq_iff_eq.mpr c22
                      have c22b1 : (x15_3 != (ji21)) = false := bne_eq_false_iff_eq.mpr c22
                      clear c22
                      by_cases c23 : x13_3 = x5_1
                      · rw [if_pos c23] at H
                        have c23b0 : (x13_3 == x5_1) = true := beq_iff_eq.mpr c23
                        have c23b1 : (x13_3 != x5_1) = false := bne_eq_false_iff_eq.mpr c23
                        clear c23
                        by_cases c24 : x14_3 = x6_1
                        · rw [if_pos c24] at H
                          have c24b0 : (x14_3 == x6_1) = true := beq_iff_eq.mpr c24
                          have c24b1 : (x14_3 != x6_1) = false := bne_eq_false_iff_eq.mpr c24
                          clear c24
                          replace H := Option.bind_eq_some_iff.mp H
                          obtain ⟨t203, A250, H⟩ := H
                          replace H : (some t203) = some r := H
                          have A25 := Aside0.mk A250
                          clear A250
                          obtain rfl := Option.some.inj H
                          go_wp2_with (first | (go_at_call 19; (with_reducible refine (chatelainelaw18_awake.calls k3  t203 _ ?side1 A25.out).mono ?_); (case side1 => exact pw_cell_below (by repeat (first | (with_reducible first | exact HB.out | apply below_alloc | apply pw_below_drewN | apply below_drew1) | exact HB.out)) HG.out); rintro e w26 ⟨rfl, hb⟩; have n0_ := Aside0.mk (below_step (by repeat (first | (with_reducible first | exact HB.out | apply below_alloc | apply pw_below_drewN | apply below_drew1) | exact HB.out)) hb); clear HB; have HB := n0_; clear n0_; (try clear hb); (try clear hb2); (try clear hk); (try clear hi); (try clear A25)))
                          go_ret
                          exact ⟨by first | rfl | (simp [errW_none, errW_some] <;> rfl) | (simp only [← hji21]; first | rfl | (simp [errW_none, errW_some] <;> rfl)) | (simp [*, errW_none, errW_some] <;> rfl), by repeat (first | (with_reducible first | exact HB.out | apply below_alloc | apply pw_below_drewN | apply below_drew1) | exact HB.out)⟩
                        · rw [if_neg c24] at H
                          have c24b0 : (x14_3 == x6_1) = false := beq_eq_false_iff_ne.mpr c24
                          have c24b1 : (x14_3 != x6_1) = true := bne_iff_ne.mpr c24
                          obtain rfl := Option.some.inj H
                          go_wp2
                          go_ret
                          exact ⟨by first | rfl | (simp [errW_none, errW_some] <;> rfl) | (simp only [← hji21]; first | rfl | (simp [errW_none, errW_some] <;> rfl)) | (simp [*, errW_none, errW_some] <;> rfl), by repeat (first | (with_reducible first | exact HB.out | apply below_alloc | apply pw_below_drewN | apply below_drew1) | exact HB.out)⟩
                      · rw [if_neg c23] at H
                        have c23b0 : (x13_3 == x5_1) = false := beq_eq_false_iff_ne.mpr c23
                        have c23b1 : (x13_3 != x5_1) = true := bne_iff_ne.mpr c23
                        obtain rfl := Option.some.inj H
                        go_wp2
                        go_ret
                        exact ⟨by first | rfl | (simp [errW_none, errW_some] <;> rfl) | (simp only [← hji21]; first | rfl | (simp [errW_none, errW_some] <;> rfl)) | (simp [*, errW_none, errW_some] <;> rfl), by repeat (first | (with_reducible first | exact HB.out | apply below_alloc | apply pw_below_drewN | apply below_drew1) | exact HB.out)⟩
                    · rw [if_neg c22] at H
                      have c22b0 : (x15_3 == (ji21)) = false := beq_eq_false_iff_ne.mpr c22
                      have c22b1 : (x15_3 != (ji21)) = true := bne_iff_ne.mpr c22
                      obtain rfl := Option.some.inj H
                      go_wp2
                      go_ret
                      exact ⟨by first | rfl | (simp [errW_none, errW_some] <;> rfl) | (simp only [← hji21]; first | rfl | (simp [errW_none, errW_some] <;> rfl)) | (simp [*, errW_none, errW_some] <;> rfl), by repeat (first | (with_reducible first | exact HB.out | apply below_alloc | apply pw_below_drewN | apply below_drew1) | exact HB.out)⟩
            · rw [if_neg c15] at H
              have c15b0 : (x6_1 == x11_11) = false := beq_eq_false_iff_ne.mpr c15
              have c15b1 : (x6_1 != x11_11) = true := bne_iff_ne.mpr c15
              obtain rfl := Option.some.inj H
              go_wp2
              go_ret
              exact ⟨by first | rfl | (simp [errW_none, errW_some] <;> rfl) | (simp [*, errW_none, errW_some] <;> rfl), by repeat (first | (with_reducible first | exact HB.out | apply below_alloc | apply pw_below_drewN | apply below_drew1) | exact HB.out)⟩

/-- THE ONE PURE STATEMENT of chatelainelaw18_NoncesRow: yours. -/
def chatelainelaw18_NoncesRow.Pure : Prop := ∀ (a0 : Int) (a1 : Int), (Lit.int .i64 a0).wf = true → (Lit.int .i64 a1).wf = true → ∃ k, chatelainelaw18_NoncesRow.f k a0 a1 = some true
theorem chatelainelaw18_NoncesRow.walk (P : chatelainelaw18_NoncesRow.Pure) (a0 : Int) (a1 : Int) (w : World) (w0 : (Lit.int .i64 a0).wf = true) (w1 : (Lit.int .i64 a1).wf = true) (hg_ : w.cell? ⟨0, 0, none⟩ = some (.iface 117 (.agg #[.pointer (some ⟨1, 24, none⟩)]))) :
    Calls Tryd.prog 7 #[.int .i64 a0, .int .i64 a1] w fun e w' => e = .returned (.bool true) ∧ Below w.heap.size w w' := by
  obtain ⟨k, h⟩ := P a0 a1 w0 w1
  refine (chatelainelaw18_NoncesRow.calls k a0 a1 true w hg_ h).mono ?_
  rintro e w' ⟨rfl, hd⟩
  exact ⟨rfl, hd⟩

end Go.Proofs.YthliabidnboklaaDoor.PNon
