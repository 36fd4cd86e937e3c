-- By a program of this session (wip/myprint.sh) out of the translation; Lean checks it.
import Derived.Test.YthliabidnboklaaDoorPTenx0
import Derived.Test.YthliabidnboklaaDoorPTenx2
import Derived.Test.YthliabidnboklaaDoorPTenx4
import Derived.Test.YthliabidnboklaaDoorPTenx5
import Derived.Test.YthliabidnboklaaDoorPTenx6
import Derived.Test.YthliabidnboklaaDoorPTenx7
import Derived.Test.YthliabidnboklaaDoorPTenx8
import Derived.Test.YthliabidnboklaaDoorPTenx9
import Derived.Test.YthliabidnboklaaDoorPTenx11
import Derived.Test.YthliabidnboklaaDoorPTenx12
import Derived.Test.YthliabidnboklaaDoorPTenx13
import Derived.Test.YthliabidnboklaaDoorPTenx14
namespace Go.Proofs.YthliabidnboklaaDoor.PTen
open Go.RowKit Go.Proofs.YthliabidnboklaaDoorW.PrintWords Go.Proofs.YthliabidnboklaaDoorW.PrintLast Go.Proofs.YthliabidnboklaaDoorW.PrintMore
attribute [local go_sem] max2_int min2_int max_two min_two max_three min_three max_four min_four   -- for this text's walks alone
set_option linter.unusedVariables false
set_option linter.unusedSimpArgs false

/-! ### chatelainelaw16_TenantsTell: function 8 -/
mutual
def chatelainelaw16_TenantsTell.j0 : Nat → List (S78) → Int → ByteArray → Int → Int → Bool → Option (Bool)
  | 0, _, _, _, _, _, _ => none
  | k + 1, x0, x1, x2, x3, x4, x26 => if x26 = true then ((chatelainelaw16_awake.f k).bind fun t231 => (some t231)) else (if ([] : List (S78)).length + x0.length < 4398046511104 then ((some (([] : List (S78)) ++ x0 : List (S78))).bind fun y232 => ((tenants_Add.f k x0 x1 x2).bind fun bt235 => ((chatelaineref16_Add.f k x0 x1 x2).bind fun bt242 => ((tenants_Path.f k x0 x3).bind fun t247 => ((chatelainelaw0_SameTenants.f k bt235.1 bt242.1).bind fun t250 => (if t250 = true then (if bt235.2.1 = bt242.2.1 then ((chatelainelaw0_Num.f bt235.2.2).bind fun t251 => (if t251 = bt242.2.2 then ((chatelaineref16_Path.f k x0 x3).bind fun t252 => ((chatelainelaw0_SameInts.f k t247 t252).bind fun t255 => (if t255 = true then ((tenants_Above.f k x0 x3 x4).bind fun t256 => ((chatelaineref16_Above.f k x0 x3 x4).bind fun t257 => (if (t256 == t257) = true then ((tenants_May.f k x0).bind fun t258 => ((chatelaineref16_May.f k x0).bind fun t259 => (chatelainelaw16_TenantsTell.j1 k x0 y232 bt235.1 t247 (t258 == t259)))) else (chatelainelaw16_TenantsTell.j1 k x0 y232 bt235.1 t247 false)))) else (chatelainelaw16_TenantsTell.j1 k x0 y232 bt235.1 t247 false)))) else (chatelainelaw16_TenantsTell.j1 k x0 y232 bt235.1 t247 false))) else (chatelainelaw16_TenantsTell.j1 k x0 y232 bt235.1 t247 false)) else (chatelainelaw16_TenantsTell.j1 k x0 y232 bt235.1 t247 false))))))) else (none))
def chatelainelaw16_TenantsTell.j1 : Nat → List (S78) → List (S78) → List (S78) → List Int → Bool → Option (Bool)
  | 0, _, _, _, _, _ => none
  | k + 1, x0, x11, x12, x18, x19 => (chatelainelaw0_OverTenants.f k x12).bind fun _ => ((chatelainelaw0_OverInts.f k x18).bind fun _ => (if x19 = true then ((chatelainelaw0_SameTenants.f k x0 x11).bind fun t260 => (if t260 = true then ((chatelainelaw16_awake.f k).bind fun t261 => (some t261)) else (some false))) else (some false)))
end
def chatelainelaw16_TenantsTell.f (k : Nat) (l0 : List (S78)) (a1 : Int) (a2 : ByteArray) (a3 : Int) (a4 : Int) : Option (Bool) := (chatelainelaw16_great.f k l0).bind fun t230 => (if t230 = true then (chatelainelaw16_TenantsTell.j0 k l0 a1 a2 a3 a4 true) else (chatelainelaw16_TenantsTell.j0 k l0 a1 a2 a3 a4 (decide ((a2.size : Int) > 400))))
theorem chatelainelaw16_TenantsTell.mono_l : ∀ k, (∀ y0 y1 y2 y3 y4 y5, LeO (chatelainelaw16_TenantsTell.j0 k y0 y1 y2 y3 y4 y5) (chatelainelaw16_TenantsTell.j0 (k + 1) y0 y1 y2 y3 y4 y5)) ∧ (∀ y0 y1 y2 y3 y4, LeO (chatelainelaw16_TenantsTell.j1 k y0 y1 y2 y3 y4) (chatelainelaw16_TenantsTell.j1 (k + 1) y0 y1 y2 y3 y4))
  | 0 => ⟨fun _ _ _ _ _ _ r h => by simp [chatelainelaw16_TenantsTell.j0] at h, fun _ _ _ _ _ r h => by simp [chatelainelaw16_TenantsTell.j1] at h⟩
  | k + 1 => by
    obtain ⟨ih0, ih1⟩ := chatelainelaw16_TenantsTell.mono_l k
    refine ⟨?_, ?_⟩
    · intro y0 y1 y2 y3 y4 y5
      unfold chatelainelaw16_TenantsTell.j0
      repeat' first
      | (with_reducible exact ih0 _ _ _ _ _ _)
      | (with_reducible exact ih1 _ _ _ _ _)
      | (with_reducible exact chatelainelaw0_OverInts.mono _ _)
      | (with_reducible exact chatelainelaw0_OverTenants.mono _ _)
      | (with_reducible exact chatelainelaw0_SameInts.mono _ _ _)
      | (with_reducible exact chatelainelaw0_SameTenants.mono _ _ _)
      | (with_reducible exact chatelainelaw16_awake.mono _)
      | (with_reducible exact chatelainelaw16_great.mono _ _)
      | (with_reducible exact chatelaineref16_Above.mono _ _ _ _)
      | (with_reducible exact chatelaineref16_Add.mono _ _ _ _)
      | (with_reducible exact chatelaineref16_May.mono _ _)
      | (with_reducible exact chatelaineref16_Path.mono _ _ _)
      | (with_reducible exact tenants_Above.mono _ _ _ _)
      | (with_reducible exact tenants_Add.mono _ _ _ _)
      | (with_reducible exact tenants_May.mono _ _)
      | (with_reducible exact tenants_Path.mono _ _ _)
      | (with_reducible exact LeO.refl _)
      | (with_reducible exact LeO.none _)
      | (with_reducible refine LeO.ite ?_ ?_)
      | (with_reducible refine LeO.bind ?_ (fun _ => ?_))
      | exact ih0 _ _ _ _ _ _
      | exact ih1 _ _ _ _ _
      | exact chatelainelaw0_OverInts.mono _ _
      | exact chatelainelaw0_OverTenants.mono _ _
      | exact chatelainelaw0_SameInts.mono _ _ _
      | exact chatelainelaw0_SameTenants.mono _ _ _
      | exact chatelainelaw16_awake.mono _
      | exact chatelainelaw16_great.mono _ _
      | exact chatelaineref16_Above.mono _ _ _ _
      | exact chatelaineref16_Add.mono _ _ _ _
      | exact chatelaineref16_May.mono _ _
      | exact chatelaineref16_Path.mono _ _ _
      | exact tenants_Above.mono _ _ _ _
      | exact tenants_Add.mono _ _ _ _
      | exact tenants_May.mono _ _
      | exact tenants_Path.mono _ _ _
      | exact LeO.none _
      | refine LeO.ite ?_ ?_
      | refine LeO.bind ?_ (fun _ => ?_)
    · intro y0 y1 y2 y3 y4
      unfold chatelainelaw16_TenantsTell.j1
      repeat' first
      | (with_reducible exact ih0 _ _ _ _ _ _)
      | (with_reducible exact ih1 _ _ _ _ _)
      | (with_reducible exact chatelainelaw0_OverInts.mono _ _)
      | (with_reducible exact chatelainelaw0_OverTenants.mono _ _)
      | (with_reducible exact chatelainelaw0_SameInts.mono _ _ _)
      | (with_reducible exact chatelainelaw0_SameTenants.mono _ _ _)
      | (with_reducible exact chatelainelaw16_awake.mono _)
      | (with_reducible exact chatelainelaw16_great.mono _ _)
      | (with_reducible exact chatelaineref16_Above.mono _ _ _ _)
      | (with_reducible exact chatelaineref16_Add.mono _ _ _ _)
      | (with_reducible exact chatelaineref16_May.mono _ _)
      | (with_reducible exact chatelaineref16_Path.mono _ _ _)
      | (with_reducible exact tenants_Above.mono _ _ _ _)
      | (with_reducible exact tenants_Add.mono _ _ _ _)
      | (with_reducible exact tenants_May.mono _ _)
      | (with_reducible exact tenants_Path.mono _ _ _)
      | (with_reducible exact LeO.refl _)
      | (with_reducible exact LeO.none _)
      | (with_reducible refine LeO.ite ?_ ?_)
      | (with_reducible refine LeO.bind ?_ (fun _ => ?_))
      | exact ih0 _ _ _ _ _ _
      | exact ih1 _ _ _ _ _
      | exact chatelainelaw0_OverInts.mono _ _
      | exact chatelainelaw0_OverTenants.mono _ _
      | exact chatelainelaw0_SameInts.mono _ _ _
      | exact chatelainelaw0_SameTenants.mono _ _ _
      | exact chatelainelaw16_awake.mono _
      | exact chatelainelaw16_great.mono _ _
      | exact chatelaineref16_Above.mono _ _ _ _
      | exact chatelaineref16_Add.mono _ _ _ _
      | exact chatelaineref16_May.mono _ _
      | exact chatelaineref16_Path.mono _ _ _
      | exact tenants_Above.mono _ _ _ _
      | exact tenants_Add.mono _ _ _ _
      | exact tenants_May.mono _ _
      | exact tenants_Path.mono _ _ _
      | exact LeO.none _
      | refine LeO.ite ?_ ?_
      | refine LeO.bind ?_ (fun _ => ?_)
theorem chatelainelaw16_TenantsTell.mono : ∀ a0 a1 a2 a3 a4 k, LeO (chatelainelaw16_TenantsTell.f k a0 a1 a2 a3 a4) (chatelainelaw16_TenantsTell.f (k + 1) a0 a1 a2 a3 a4) := by
  intro a0 a1 a2 a3 a4 k
  obtain ⟨ih0, ih1⟩ := chatelainelaw16_TenantsTell.mono_l k
  unfold chatelainelaw16_TenantsTell.f
  repeat' first
      | (with_reducible exact ih0 _ _ _ _ _ _)
      | (with_reducible exact ih1 _ _ _ _ _)
      | (with_reducible exact chatelainelaw0_OverInts.mono _ _)
      | (with_reducible exact chatelainelaw0_OverTenants.mono _ _)
      | (with_reducible exact chatelainelaw0_SameInts.mono _ _ _)
      | (with_reducible exact chatelainelaw0_SameTenants.mono _ _ _)
      | (with_reducible exact chatelainelaw16_awake.mono _)
      | (with_reducible exact chatelainelaw16_great.mono _ _)
      | (with_reducible exact chatelaineref16_Above.mono _ _ _ _)
      | (with_reducible exact chatelaineref16_Add.mono _ _ _ _)
      | (with_reducible exact chatelaineref16_May.mono _ _)
      | (with_reducible exact chatelaineref16_Path.mono _ _ _)
      | (with_reducible exact tenants_Above.mono _ _ _ _)
      | (with_reducible exact tenants_Add.mono _ _ _ _)
      | (with_reducible exact tenants_May.mono _ _)
      | (with_reducible exact tenants_Path.mono _ _ _)
      | (with_reducible exact LeO.refl _)
      | (with_reducible exact LeO.none _)
      | (with_reducible refine LeO.ite ?_ ?_)
      | (with_reducible refine LeO.bind ?_ (fun _ => ?_))
      | exact ih0 _ _ _ _ _ _
      | exact ih1 _ _ _ _ _
      | exact chatelainelaw0_OverInts.mono _ _
      | exact chatelainelaw0_OverTenants.mono _ _
      | exact chatelainelaw0_SameInts.mono _ _ _
      | exact chatelainelaw0_SameTenants.mono _ _ _
      | exact chatelainelaw16_awake.mono _
      | exact chatelainelaw16_great.mono _ _
      | exact chatelaineref16_Above.mono _ _ _ _
      | exact chatelaineref16_Add.mono _ _ _ _
      | exact chatelaineref16_May.mono _ _
      | exact chatelaineref16_Path.mono _ _ _
      | exact tenants_Above.mono _ _ _ _
      | exact tenants_Add.mono _ _ _ _
      | exact tenants_May.mono _ _
      | exact tenants_Path.mono _ _ _
      | exact LeO.none _
      | refine LeO.ite ?_ ?_
      | refine LeO.bind ?_ (fun _ => ?_)
set_option maxHeartbeats 8000000 in
set_option maxRecDepth 100000 in
theorem chatelainelaw16_TenantsTell.calls (k : Nat) (A0 : Option Addr) (c0 : Nat) (l0 : List (S78)) (a1 : Int) (a2 : ByteArray) (a3 : Int) (a4 : Int) (r : Bool) (w : World) (hr0 : Kd.C k78 w A0 l0.length l0) (hc0 : l0.length ≤ c0) (hg_ : w.cell? ⟨0, 0, none⟩ = some (.iface 117 (.agg #[.pointer (some ⟨1, 24, none⟩)]))) (h : chatelainelaw16_TenantsTell.f k l0 a1 a2 a3 a4 = some r) :
    Calls Tryd.prog 8 #[.slice A0 l0.length c0, .int .i64 a1, .string a2, .int .i64 a3, .int .i64 a4] w fun e w' => e = .returned (.bool r) ∧ Below w.heap.size w w' := by
  have HR0 := Aside0.mk hr0
  have HC0 := Aside0.mk hc0
  clear hr0 hc0
  have HG := Aside0.mk hg_
  clear hg_
  have HB := Aside0.mk (Below.refl w.heap.size w)
  have H : ((chatelainelaw16_great.f k l0).bind fun t230 => (if t230 = true then (chatelainelaw16_TenantsTell.j0 k l0 a1 a2 a3 a4 true) else (chatelainelaw16_TenantsTell.j0 k l0 a1 a2 a3 a4 (decide ((a2.size : Int) > 400))))) = some r := h
  clear h
  have HC6 := Aside0.mk H
  clear H
  go_enter Tryd.func8, Tryd.ntmps8
  go_upto_region 1 with (fail)
  go_cut [26] (fun v26 wc => ∃ (kq : Nat) (x26_5 : Bool), v26 = .bool x26_5 ∧ Aside0 (chatelainelaw16_TenantsTell.j0 kq l0 a1 a2 a3 a4 x26_5 = some r) ∧ Aside0 (kq ≤ k) ∧ Aside0 (Below w.heap.size w wc))
  case first =>
    have H := HC6.out
    clear HC6
    replace H := Option.bind_eq_some_iff.mp H
    obtain ⟨t230, A70, H⟩ := H
    replace H : (if t230 = true then (chatelainelaw16_TenantsTell.j0 k l0 a1 a2 a3 a4 true) else (chatelainelaw16_TenantsTell.j0 k l0 a1 a2 a3 a4 (decide ((a2.size : Int) > 400)))) = some r := H
    have A7 := Aside0.mk A70
    clear A70
    by_cases c8 : t230 = true
    · subst c8
      have H1 : (chatelainelaw16_TenantsTell.j0 k l0 a1 a2 a3 a4 true) = some r := by rw [if_pos rfl] at H; exact H
      clear H
      have H := H1
      clear H1
      have H' := Aside0.mk H
      clear H
      go_wp2_with (first | ((with_reducible refine gate_callee (f := 21) rfl ?_); refine goesL_ (some 21) rfl rfl Tryd.func21 (by kernel_rfl) rfl #[.slice A0 l0.length c0] rfl (by (try simp only [List.map_toArray, List.map_cons, List.map_nil]); first | done | rfl | (simp only [List.length_drop, List.length_take]; rfl)) ?_; (with_reducible refine (chatelainelaw16_great.calls k _ _ l0 true _ ?side1 ?side2 A7.out).mono ?_); (case side1 => repeat (first | exact (Kd.C_below HR0.out HB.out) | (with_reducible refine Kd.C_alloc ?_ _) | (with_reducible refine Kd.C_drewN ?_ _) | (with_reducible refine Kd.C_drew ?_))); (case side2 => exact HC0.out); rintro e w' ⟨rfl, ⟨nd, rfl⟩⟩; refine ⟨_, rfl, ?_⟩))
      go_meet
      case rel => exact ⟨_, (true), (by first | rfl | (simp; done) | (simp [*]; done)), H', ⟨by first | omega | exact Nat.le_refl _⟩, ⟨by repeat (first | (with_reducible first | exact HB.out | apply below_alloc | apply pw_below_drewN | apply below_drew1) | exact HB.out)⟩⟩
    · replace c8 := Bool.eq_false_iff.mpr c8
      subst c8
      have H1 : (chatelainelaw16_TenantsTell.j0 k l0 a1 a2 a3 a4 (decide ((a2.size : Int) > 400))) = some r := by rw [if_neg (show ¬ (false = true) by decide)] at H; exact H
      clear H
      have H := H1
      clear H1
      have H' := Aside0.mk H
      clear H
      go_wp2_with (first | ((with_reducible refine gate_callee (f := 21) rfl ?_); refine goesL_ (some 21) rfl rfl Tryd.func21 (by kernel_rfl) rfl #[.slice A0 l0.length c0] rfl (by (try simp only [List.map_toArray, List.map_cons, List.map_nil]); first | done | rfl | (simp only [List.length_drop, List.length_take]; rfl)) ?_; (with_reducible refine (chatelainelaw16_great.calls k _ _ l0 false _ ?side1 ?side2 A7.out).mono ?_); (case side1 => repeat (first | exact (Kd.C_below HR0.out HB.out) | (with_reducible refine Kd.C_alloc ?_ _) | (with_reducible refine Kd.C_drewN ?_ _) | (with_reducible refine Kd.C_drew ?_))); (case side2 => exact HC0.out); rintro e w' ⟨rfl, ⟨nd, rfl⟩⟩; refine ⟨_, rfl, ?_⟩))
      go_meet
      case rel => exact ⟨_, (decide ((a2.size : Int) > 400)), (by first | rfl | (simp; done) | (simp [*]; done)), H', ⟨by first | omega | exact Nat.le_refl _⟩, ⟨by repeat (first | (with_reducible first | exact HB.out | apply below_alloc | apply pw_below_drewN | apply below_drew1) | exact HB.out)⟩⟩
  case rest =>
    clear HC6
    try clear c2
    try clear p2
    try clear c8
    obtain ⟨kq, x26_5, rfl, HA, HJ5, HB⟩ := hcut
    cases kq with
    | zero => exact absurd HA.out (by simp [chatelainelaw16_TenantsTell.j0])
    | succ kj5 =>
      have H := HA.out
      clear HA
      simp only [chatelainelaw16_TenantsTell.j0] at H
      by_cases c9 : x26_5 = true
      · subst c9
        have H1 : ((chatelainelaw16_awake.f kj5).bind fun t231 => (some t231)) = some r := by rw [if_pos rfl] at H; exact H
        clear H
        have H := H1
        clear H1
        replace H := Option.bind_eq_some_iff.mp H
        obtain ⟨t231, A100, H⟩ := H
        replace H : (some t231) = some r := H
        have A10 := Aside0.mk A100
        clear A100
        obtain rfl := Option.some.inj H
        go_wp2_with (first | ((with_reducible refine gate_callee (f := 22) rfl ?_); refine goesL_ (some 27) rfl rfl Tryd.func22 (by kernel_rfl) rfl #[] rfl (by (try simp only [List.map_toArray, List.map_cons, List.map_nil]); first | done | rfl | (simp only [List.length_drop, List.length_take]; rfl)) ?_; (with_reducible refine (chatelainelaw16_awake.calls kj5  t231 _ ?side1 A10.out).mono ?_); (case side1 => exact pw_cell_below (by repeat (first | (with_reducible first | exact HB.out | apply below_alloc | apply pw_below_drewN | apply below_drew1) | exact HB.out)) HG.out); rintro e w11 ⟨rfl, hb⟩; refine ⟨_, rfl, ?_⟩; have n0_ := Aside0.mk (below_step (by repeat (first | (with_reducible first | exact HB.out | apply below_alloc | apply pw_below_drewN | apply below_drew1) | exact HB.out)) hb); clear HB; have HB := n0_; clear n0_; (try clear hb); (try clear hb2); (try clear hk); (try clear hi); (try clear A10)))
        go_ret
        exact ⟨by first | rfl | (simp [errW_none, errW_some] <;> rfl) | (simp [*, errW_none, errW_some] <;> rfl), by repeat (first | (with_reducible first | exact HB.out | apply below_alloc | apply pw_below_drewN | apply below_drew1) | exact HB.out)⟩
      · replace c9 := Bool.eq_false_iff.mpr c9
        subst c9
        have H1 : (if ([] : List (S78)).length + l0.length < 4398046511104 then ((some (([] : List (S78)) ++ l0 : List (S78))).bind fun y232 => ((tenants_Add.f kj5 l0 a1 a2).bind fun bt235 => ((chatelaineref16_Add.f kj5 l0 a1 a2).bind fun bt242 => ((tenants_Path.f kj5 l0 a3).bind fun t247 => ((chatelainelaw0_SameTenants.f kj5 bt235.1 bt242.1).bind fun t250 => (if t250 = true then (if bt235.2.1 = bt242.2.1 then ((chatelainelaw0_Num.f bt235.2.2).bind fun t251 => (if t251 = bt242.2.2 then ((chatelaineref16_Path.f kj5 l0 a3).bind fun t252 => ((chatelainelaw0_SameInts.f kj5 t247 t252).bind fun t255 => (if t255 = true then ((tenants_Above.f kj5 l0 a3 a4).bind fun t256 => ((chatelaineref16_Above.f kj5 l0 a3 a4).bind fun t257 => (if (t256 == t257) = true then ((tenants_May.f kj5 l0).bind fun t258 => ((chatelaineref16_May.f kj5 l0).bind fun t259 => (chatelainelaw16_TenantsTell.j1 kj5 l0 y232 bt235.1 t247 (t258 == t259)))) else (chatelainelaw16_TenantsTell.j1 kj5 l0 y232 bt235.1 t247 false)))) else (chatelainelaw16_TenantsTell.j1 kj5 l0 y232 bt235.1 t247 false)))) else (chatelainelaw16_TenantsTell.j1 kj5 l0 y232 bt235.1 t247 false))) else (chatelainelaw16_TenantsTell.j1 kj5 l0 y232 bt235.1 t247 false)) else (chatelainelaw16_TenantsTell.j1 kj5 l0 y232 bt235.1 t247 false))))))) else (none)) = some r := by rw [if_neg (show ¬ (false = true) by decide)] at H; exact H
        clear H
        have H := H1
        clear H1
        by_cases c12 : ([] : List (S78)).length + l0.length < 4398046511104
        · rw [if_pos c12] at H
          have LMc12 := Aside0.mk c12
          clear c12
          obtain ⟨y232, hy232⟩ : ∃ y_ : List (S78), y_ = (([] : List (S78)) ++ l0) := ⟨_, rfl⟩
          replace H : ((tenants_Add.f kj5 l0 a1 a2).bind fun bt235 => ((chatelaineref16_Add.f kj5 l0 a1 a2).bind fun bt242 => ((tenants_Path.f kj5 l0 a3).bind fun t247 => ((chatelainelaw0_SameTenants.f kj5 bt235.1 bt242.1).bind fun t250 => (if t250 = true then (if bt235.2.1 = bt242.2.1 then ((chatelainelaw0_Num.f bt235.2.2).bind fun t251 => (if t251 = bt242.2.2 then ((chatelaineref16_Path.f kj5 l0 a3).bind fun t252 => ((chatelainelaw0_SameInts.f kj5 t247 t252).bind fun t255 => (if t255 = true then ((tenants_Above.f kj5 l0 a3 a4).bind fun t256 => ((chatelaineref16_Above.f kj5 l0 a3 a4).bind fun t257 => (if (t256 == t257) = true then ((tenants_May.f kj5 l0).bind fun t258 => ((chatelaineref16_May.f kj5 l0).bind fun t259 => (chatelainelaw16_TenantsTell.j1 kj5 l0 y232 bt235.1 t247 (t258 == t259)))) else (chatelainelaw16_TenantsTell.j1 kj5 l0 y232 bt235.1 t247 false)))) else (chatelainelaw16_TenantsTell.j1 kj5 l0 y232 bt235.1 t247 false)))) else (chatelainelaw16_TenantsTell.j1 kj5 l0 y232 bt235.1 t247 false))) else (chatelainelaw16_TenantsTell.j1 kj5 l0 y232 bt235.1 t247 false)) else (chatelainelaw16_TenantsTell.j1 kj5 l0 y232 bt235.1 t247 false)))))) = some r := by first | (rw [hy232]; with_reducible exact H) | (have H2_ := (Option.bind_some _ _).symm.trans H; rw [hy232]; with_reducible exact H2_) | (have H2_ := (Option.bind_some _ _).symm.trans H; with_reducible exact H2_) | with_reducible exact H | (rw [hy232]; exact H) | exact H
          have Ny232 := Aside0.mk hy232
          clear hy232
          replace H := Option.bind_eq_some_iff.mp H
          obtain ⟨⟨t235, t236, t237⟩, A130, H⟩ := H
          replace H : ((chatelaineref16_Add.f kj5 l0 a1 a2).bind fun bt242 => ((tenants_Path.f kj5 l0 a3).bind fun t247 => ((chatelainelaw0_SameTenants.f kj5 t235 bt242.1).bind fun t250 => (if t250 = true then (if t236 = bt242.2.1 then ((chatelainelaw0_Num.f t237).bind fun t251 => (if t251 = bt242.2.2 then ((chatelaineref16_Path.f kj5 l0 a3).bind fun t252 => ((chatelainelaw0_SameInts.f kj5 t247 t252).bind fun t255 => (if t255 = true then ((tenants_Above.f kj5 l0 a3 a4).bind fun t256 => ((chatelaineref16_Above.f kj5 l0 a3 a4).bind fun t257 => (if (t256 == t257) = true then ((tenants_May.f kj5 l0).bind fun t258 => ((chatelaineref16_May.f kj5 l0).bind fun t259 => (chatelainelaw16_TenantsTell.j1 kj5 l0 y232 t235 t247 (t258 == t259)))) else (chatelainelaw16_TenantsTell.j1 kj5 l0 y232 t235 t247 false)))) else (chatelainelaw16_TenantsTell.j1 kj5 l0 y232 t235 t247 false)))) else (chatelainelaw16_TenantsTell.j1 kj5 l0 y232 t235 t247 false))) else (chatelainelaw16_TenantsTell.j1 kj5 l0 y232 t235 t247 false)) else (chatelainelaw16_TenantsTell.j1 kj5 l0 y232 t235 t247 false))))) = some r := H
          have A13 := Aside0.mk A130
          clear A130
          replace H := Option.bind_eq_some_iff.mp H
          obtain ⟨⟨t242, t243, t244⟩, A140, H⟩ := H
          replace H : ((tenants_Path.f kj5 l0 a3).bind fun t247 => ((chatelainelaw0_SameTenants.f kj5 t235 t242).bind fun t250 => (if t250 = true then (if t236 = t243 then ((chatelainelaw0_Num.f t237).bind fun t251 => (if t251 = t244 then ((chatelaineref16_Path.f kj5 l0 a3).bind fun t252 => ((chatelainelaw0_SameInts.f kj5 t247 t252).bind fun t255 => (if t255 = true then ((tenants_Above.f kj5 l0 a3 a4).bind fun t256 => ((chatelaineref16_Above.f kj5 l0 a3 a4).bind fun t257 => (if (t256 == t257) = true then ((tenants_May.f kj5 l0).bind fun t258 => ((chatelaineref16_May.f kj5 l0).bind fun t259 => (chatelainelaw16_TenantsTell.j1 kj5 l0 y232 t235 t247 (t258 == t259)))) else (chatelainelaw16_TenantsTell.j1 kj5 l0 y232 t235 t247 false)))) else (chatelainelaw16_TenantsTell.j1 kj5 l0 y232 t235 t247 false)))) else (chatelainelaw16_TenantsTell.j1 kj5 l0 y232 t235 t247 false))) else (chatelainelaw16_TenantsTell.j1 kj5 l0 y232 t235 t247 false)) else (chatelainelaw16_TenantsTell.j1 kj5 l0 y232 t235 t247 false)))) = some r := H
          have A14 := Aside0.mk A140
          clear A140
          replace H := Option.bind_eq_some_iff.mp H
          obtain ⟨t247, A150, H⟩ := H
          replace H : ((chatelainelaw0_SameTenants.f kj5 t235 t242).bind fun t250 => (if t250 = true then (if t236 = t243 then ((chatelainelaw0_Num.f t237).bind fun t251 => (if t251 = t244 then ((chatelaineref16_Path.f kj5 l0 a3).bind fun t252 => ((chatelainelaw0_SameInts.f kj5 t247 t252).bind fun t255 => (if t255 = true then ((tenants_Above.f kj5 l0 a3 a4).bind fun t256 => ((chatelaineref16_Above.f kj5 l0 a3 a4).bind fun t257 => (if (t256 == t257) = true then ((tenants_May.f kj5 l0).bind fun t258 => ((chatelaineref16_May.f kj5 l0).bind fun t259 => (chatelainelaw16_TenantsTell.j1 kj5 l0 y232 t235 t247 (t258 == t259)))) else (chatelainelaw16_TenantsTell.j1 kj5 l0 y232 t235 t247 false)))) else (chatelainelaw16_TenantsTell.j1 kj5 l0 y232 t235 t247 false)))) else (chatelainelaw16_TenantsTell.j1 kj5 l0 y232 t235 t247 false))) else (chatelainelaw16_TenantsTell.j1 kj5 l0 y232 t235 t247 false)) else (chatelainelaw16_TenantsTell.j1 kj5 l0 y232 t235 t247 false))) = some r := H
          have A15 := Aside0.mk A150
          clear A150
          have HC16 := Aside0.mk H
          clear H
          go_upto_region 7 with (first | ((with_reducible refine gate_builtin (b := .append) (xs := #[.const (.slice none 0 0), .tmp 28]) rfl ?_); (try (refine gate_guard (by rfl) ?_; dsimp only)); at_builtin; refine Kd.R_append_rows k78 (w0 := w) w.heap.size rfl (.const (.slice none 0 0)) (.tmp 28) 39 78 (.agg #[(.int .i64 0), (.int .i64 0), (.string ⟨#[]⟩)]) 32 rfl Tryd.underlying39 info78 rfl (by decide) (by omega) (.slice none 0 0) ([] : List (S78)) l0 _ _ _ (fun _ => True) (fun _ => False) rfl rfl ?aO ?aR (fun _ _ h => h) (fun _ h => h.elim) ?aF ?aB ?aS ?aL ?_; (case aR => repeat (first | exact (Kd.C_below HR0.out HB.out) | (with_reducible refine Kd.C_alloc ?_ _) | (with_reducible refine Kd.C_drewN ?_ _) | (with_reducible refine Kd.C_drew ?_))); (case aB => exact (by repeat (first | (with_reducible first | exact HB.out | apply below_alloc | apply pw_below_drewN | apply below_drew1) | exact HB.out))); (case aF => exact (fun _ _ => trivial)); (case aO => exact ((Kd.R_nil _ _ _ _ (fun _ => True)))); (case aS => exact (below_size (by repeat (first | (with_reducible first | exact HB.out | apply below_alloc | apply pw_below_drewN | apply below_drew1) | exact HB.out)))); (case aL => have := LMc12.out; omega); intro v233 w17 ho hb hg hat; rw [← Ny232.out] at ho; have n0_ := Aside0.mk (hb); have n1_ := Aside0.mk (ho); clear HB; have HB := n0_; have HO234 := n1_; clear n0_ n1_; clear ho hb hg hat) | ((with_reducible refine gate_callee (f := 23) rfl ?_); refine goesL_ (some 34) rfl rfl Tryd.func23 (by kernel_rfl) rfl #[.slice A0 l0.length c0, .int .i64 a1, .string a2] rfl (by (try simp only [List.map_toArray, List.map_cons, List.map_nil]); first | done | rfl | (simp only [List.length_drop, List.length_take]; rfl)) ?_; (with_reducible refine (tenants_Add.calls kj5 _ _ l0 a1 a2 t235 t236 t237 _ ?side1 ?side2 A13.out).mono ?_); (case side1 => repeat (first | exact (Kd.C_below HR0.out HB.out) | (with_reducible refine Kd.C_alloc ?_ _) | (with_reducible refine Kd.C_drewN ?_ _) | (with_reducible refine Kd.C_drew ?_))); (case side2 => exact HC0.out); rintro e w18 ⟨v238, v240, rfl, ho0, ho1, hb⟩; refine ⟨_, rfl, ?_⟩; have n0_ := Aside0.mk (Kd.R_elder' (by (with_reducible repeat (first | apply Kd.R_alloc | apply Kd.R_drewN | apply Kd.R_drew)); exact HO234.out) (Kd.R_base ho0) hb); have n1_ := Aside0.mk (Kd.R_lower (Kd.R_new' ho0 (Kd.R_lt (by (with_reducible repeat (first | apply Kd.R_alloc | apply Kd.R_drewN | apply Kd.R_drew)); exact HO234.out))) (below_size (by repeat (first | (with_reducible first | exact HB.out | apply below_alloc | apply pw_below_drewN | apply below_drew1) | exact HB.out)))); have n2_ := Aside0.mk (Kd.R_lower ho1 (below_size (by repeat (first | (with_reducible first | exact HB.out | apply below_alloc | apply pw_below_drewN | apply below_drew1) | exact HB.out)))); have n3_ := Aside0.mk (below_step (by repeat (first | (with_reducible first | exact HB.out | apply below_alloc | apply pw_below_drewN | apply below_drew1) | exact HB.out)) hb); clear HO234; clear HB; have HO234 := n0_; have HO239 := n1_; have HO241 := n2_; have HB := n3_; clear n0_ n1_ n2_ n3_; (try clear hb); (try clear hb2); (try clear hk); (try clear hi); (try clear ho0); (try clear ho1); (try clear A13)) | ((with_reducible refine gate_callee (f := 24) rfl ?_); refine goesL_ (some 42) rfl rfl Tryd.func24 (by kernel_rfl) rfl #[.slice A0 l0.length c0, .int .i64 a1, .string a2] rfl (by (try simp only [List.map_toArray, List.map_cons, List.map_nil]); first | done | rfl | (simp only [List.length_drop, List.length_take]; rfl)) ?_; (with_reducible refine (chatelaineref16_Add.calls kj5 _ _ l0 a1 a2 t242 t243 t244 _ ?side1 ?side2 A14.out).mono ?_); (case side1 => repeat (first | exact (Kd.C_below HR0.out HB.out) | (with_reducible refine Kd.C_alloc ?_ _) | (with_reducible refine Kd.C_drewN ?_ _) | (with_reducible refine Kd.C_drew ?_))); (case side2 => exact HC0.out); rintro e w19 ⟨v245, rfl, ho0, hb⟩; refine ⟨_, rfl, ?_⟩; have n0_ := Aside0.mk (Kd.R_elder' (by (with_reducible repeat (first | apply Kd.R_alloc | apply Kd.R_drewN | apply Kd.R_drew)); exact HO234.out) (Kd.R_base ho0) hb); have n1_ := Aside0.mk (Kd.R_elder' (by (with_reducible repeat (first | apply Kd.R_alloc | apply Kd.R_drewN | apply Kd.R_drew)); exact HO239.out) (Kd.R_base ho0) hb); have n2_ := Aside0.mk (Kd.R_below (by (with_reducible repeat (first | apply Kd.R_alloc | apply Kd.R_drewN | apply Kd.R_drew)); exact HO241.out) hb); have n3_ := Aside0.mk (Kd.R_lower (Kd.R_new' (Kd.R_new' ho0 (Kd.R_lt (by (with_reducible repeat (first | apply Kd.R_alloc | apply Kd.R_drewN | apply Kd.R_drew)); exact HO234.out))) (Kd.R_lt (by (with_reducible repeat (first | apply Kd.R_alloc | apply Kd.R_drewN | apply Kd.R_drew)); exact HO239.out))) (below_size (by repeat (first | (with_reducible first | exact HB.out | apply below_alloc | apply pw_below_drewN | apply below_drew1) | exact HB.out)))); have n4_ := Aside0.mk (below_step (by repeat (first | (with_reducible first | exact HB.out | apply below_alloc | apply pw_below_drewN | apply below_drew1) | exact HB.out)) hb); clear HO234; clear HO239; clear HO241; clear HB; have HO234 := n0_; have HO239 := n1_; have HO241 := n2_; have HO246 := n3_; have HB := n4_; clear n0_ n1_ n2_ n3_ n4_; (try clear hb); (try clear hb2); (try clear hk); (try clear hi); (try clear ho0); (try clear A14)) | ((with_reducible refine gate_callee (f := 25) rfl ?_); refine goesL_ (some 48) rfl rfl Tryd.func25 (by kernel_rfl) rfl #[.slice A0 l0.length c0, .int .i64 a3] rfl (by (try simp only [List.map_toArray, List.map_cons, List.map_nil]); first | done | rfl | (simp only [List.length_drop, List.length_take]; rfl)) ?_; (with_reducible refine (tenants_Path.calls kj5 _ _ l0 a3 t247 _ ?side1 ?side2 A15.out).mono ?_); (case side1 => repeat (first | exact (Kd.C_below HR0.out HB.out) | (with_reducible refine Kd.C_alloc ?_ _) | (with_reducible refine Kd.C_drewN ?_ _) | (with_reducible refine Kd.C_drew ?_))); (case side2 => exact HC0.out); rintro e w20 ⟨v248, rfl, ho0, hb⟩; refine ⟨_, rfl, ?_⟩; have n0_ := Aside0.mk (Kd.R_below (by (with_reducible repeat (first | apply Kd.R_alloc | apply Kd.R_drewN | apply Kd.R_drew)); exact HO234.out) hb); have n1_ := Aside0.mk (Kd.R_below (by (with_reducible repeat (first | apply Kd.R_alloc | apply Kd.R_drewN | apply Kd.R_drew)); exact HO239.out) hb); have n2_ := Aside0.mk (Kd.R_below (by (with_reducible repeat (first | apply Kd.R_alloc | apply Kd.R_drewN | apply Kd.R_drew)); exact HO241.out) hb); have n3_ := Aside0.mk (Kd.R_below (by (with_reducible repeat (first | apply Kd.R_alloc | apply Kd.R_drewN | apply Kd.R_drew)); exact HO246.out) hb); have n4_ := Aside0.mk (Kd.R_lower ho0 (below_size (by repeat (first | (with_reducible first | exact HB.out | apply below_alloc | apply pw_below_drewN | apply below_drew1) | exact HB.out)))); have n5_ := Aside0.mk (below_step (by repeat (first | (with_reducible first | exact HB.out | apply below_alloc | apply pw_below_drewN | apply below_drew1) | exact HB.out)) hb); clear HO234; clear HO239; clear HO241; clear HO246; clear HB; have HO234 := n0_; have HO239 := n1_; have HO241 := n2_; have HO246 := n3_; have HO249 := n4_; have HB := n5_; clear n0_ n1_ n2_ n3_ n4_ n5_; (try clear hb); (try clear hb2); (try clear hk); (try clear hi); (try clear ho0); (try clear A15)))
          (try simp only [Act.put, List.setIfInBounds_toArray, List.set_cons_zero, List.set_cons_succ])
          go_cut [19] (fun v19 wc => ∃ (kq : Nat) (x19_15 : Bool), v19 = .bool x19_15 ∧ Aside0 (chatelainelaw16_TenantsTell.j1 kq l0 y232 t235 t247 x19_15 = some r) ∧ Aside0 (kq ≤ kj5) ∧ Aside0 (Kd.R k78 78 wc w.heap.size (fun k_ => some k_ ≠ (v238 : Value).ownBlock) v233 y232) ∧ Aside0 (Kd.R k78 78 wc w.heap.size (fun k_ => some k_ ≠ (v233 : Value).ownBlock) v238 t235) ∧ Aside0 (Kd.R (Kd.int .i64) 3 wc w.heap.size (fun _ => True) v248 t247) ∧ Aside0 (Below w.heap.size w wc))
          case first =>
            have H := HC16.out
            clear HC16
            replace H := Option.bind_eq_some_iff.mp H
            obtain ⟨t250, A210, H⟩ := H
            replace H : (if t250 = true then (if t236 = t243 then ((chatelainelaw0_Num.f t237).bind fun t251 => (if t251 = t244 then ((chatelaineref16_Path.f kj5 l0 a3).bind fun t252 => ((chatelainelaw0_SameInts.f kj5 t247 t252).bind fun t255 => (if t255 = true then ((tenants_Above.f kj5 l0 a3 a4).bind fun t256 => ((chatelaineref16_Above.f kj5 l0 a3 a4).bind fun t257 => (if (t256 == t257) = true then ((tenants_May.f kj5 l0).bind fun t258 => ((chatelaineref16_May.f kj5 l0).bind fun t259 => (chatelainelaw16_TenantsTell.j1 kj5 l0 y232 t235 t247 (t258 == t259)))) else (chatelainelaw16_TenantsTell.j1 kj5 l0 y232 t235 t247 false)))) else (chatelainelaw16_TenantsTell.j1 kj5 l0 y232 t235 t247 false)))) else (chatelainelaw16_TenantsTell.j1 kj5 l0 y232 t235 t247 false))) else (chatelainelaw16_TenantsTell.j1 kj5 l0 y232 t235 t247 false)) else (chatelainelaw16_TenantsTell.j1 kj5 l0 y232 t235 t247 false)) = some r := H
            have A21 := Aside0.mk A210
            clear A210
            by_cases c22 : t250 = true
            · subst c22
              have H1 : (if t236 = t243 then ((chatelainelaw0_Num.f t237).bind fun t251 => (if t251 = t244 then ((chatelaineref16_Path.f kj5 l0 a3).bind fun t252 => ((chatelainelaw0_SameInts.f kj5 t247 t252).bind fun t255 => (if t255 = true then ((tenants_Above.f kj5 l0 a3 a4).bind fun t256 => ((chatelaineref16_Above.f kj5 l0 a3 a4).bind fun t257 => (if (t256 == t257) = true then ((tenants_May.f kj5 l0).bind fun t258 => ((chatelaineref16_May.f kj5 l0).bind fun t259 => (chatelainelaw16_TenantsTell.j1 kj5 l0 y232 t235 t247 (t258 == t259)))) else (chatelainelaw16_TenantsTell.j1 kj5 l0 y232 t235 t247 false)))) else (chatelainelaw16_TenantsTell.j1 kj5 l0 y232 t235 t247 false)))) else (chatelainelaw16_TenantsTell.j1 kj5 l0 y232 t235 t247 false))) else (chatelainelaw16_TenantsTell.j1 kj5 l0 y232 t235 t247 false)) = some r := by rw [if_pos rfl] at H; exact H
              clear H
              have H := H1
              clear H1
              by_cases c23 : t236 = t243
              · rw [if_pos c23] at H
                have c23b0 : (t236 == t243) = true := beq_iff_eq.mpr c23
                have c23b1 : (t236 != t243) = false := bne_eq_false_iff_eq.mpr c23
                clear c23
                (first | rw [c23b0] | (simp only [i64_w, i32_w]; rw [c23b0]) | skip)
                replace H := Option.bind_eq_some_iff.mp H
                obtain ⟨t251, A240, H⟩ := H
                replace H : (if t251 = t244 then ((chatelaineref16_Path.f kj5 l0 a3).bind fun t252 => ((chatelainelaw0_SameInts.f kj5 t247 t252).bind fun t255 => (if t255 = true then ((tenants_Above.f kj5 l0 a3 a4).bind fun t256 => ((chatelaineref16_Above.f kj5 l0 a3 a4).bind fun t257 => (if (t256 == t257) = true then ((tenants_May.f kj5 l0).bind fun t258 => ((chatelaineref16_May.f kj5 l0).bind fun t259 => (chatelainelaw16_TenantsTell.j1 kj5 l0 y232 t235 t247 (t258 == t259)))) else (chatelainelaw16_TenantsTell.j1 kj5 l0 y232 t235 t247 false)))) else (chatelainelaw16_TenantsTell.j1 kj5 l0 y232 t235 t247 false)))) else (chatelainelaw16_TenantsTell.j1 kj5 l0 y232 t235 t247 false)) = some r := H
                have A24 := Aside0.mk A240
                clear A240
                by_cases c25 : t251 = t244
                · rw [if_pos c25] at H
                  have c25b0 : (t251 == t244) = true := beq_iff_eq.mpr c25
                  have c25b1 : (t251 != t244) = false := bne_eq_false_iff_eq.mpr c25
                  clear c25
                  replace H := Option.bind_eq_some_iff.mp H
                  obtain ⟨t252, A260, H⟩ := H
                  replace H : ((chatelainelaw0_SameInts.f kj5 t247 t252).bind fun t255 => (if t255 = true then ((tenants_Above.f kj5 l0 a3 a4).bind fun t256 => ((chatelaineref16_Above.f kj5 l0 a3 a4).bind fun t257 => (if (t256 == t257) = true then ((tenants_May.f kj5 l0).bind fun t258 => ((chatelaineref16_May.f kj5 l0).bind fun t259 => (chatelainelaw16_TenantsTell.j1 kj5 l0 y232 t235 t247 (t258 == t259)))) else (chatelainelaw16_TenantsTell.j1 kj5 l0 y232 t235 t247 false)))) else (chatelainelaw16_TenantsTell.j1 kj5 l0 y232 t235 t247 false))) = some r := H
                  have A26 := Aside0.mk A260
                  clear A260
                  replace H := Option.bind_eq_some_iff.mp H
                  obtain ⟨t255, A270, H⟩ := H
                  replace H : (if t255 = true then ((tenants_Above.f kj5 l0 a3 a4).bind fun t256 => ((chatelaineref16_Above.f kj5 l0 a3 a4).bind fun t257 => (if (t256 == t257) = true then ((tenants_May.f kj5 l0).bind fun t258 => ((chatelaineref16_May.f kj5 l0).bind fun t259 => (chatelainelaw16_TenantsTell.j1 kj5 l0 y232 t235 t247 (t258 == t259)))) else (chatelainelaw16_TenantsTell.j1 kj5 l0 y232 t235 t247 false)))) else (chatelainelaw16_TenantsTell.j1 kj5 l0 y232 t235 t247 false)) = some r := H
                  have A27 := Aside0.mk A270
                  clear A270
                  by_cases c28 : t255 = true
                  · subst c28
                    have H1 : ((tenants_Above.f kj5 l0 a3 a4).bind fun t256 => ((chatelaineref16_Above.f kj5 l0 a3 a4).bind fun t257 => (if (t256 == t257) = true then ((tenants_May.f kj5 l0).bind fun t258 => ((chatelaineref16_May.f kj5 l0).bind fun t259 => (chatelainelaw16_TenantsTell.j1 kj5 l0 y232 t235 t247 (t258 == t259)))) else (chatelainelaw16_TenantsTell.j1 kj5 l0 y232 t235 t247 false)))) = some r := by rw [if_pos rfl] at H; exact H
                    clear H
                    have H := H1
                    clear H1
                    replace H := Option.bind_eq_some_iff.mp H
                    obtain ⟨t256, A290, H⟩ := H
                    replace H : ((chatelaineref16_Above.f kj5 l0 a3 a4).bind fun t257 => (if (t256 == t257) = true then ((tenants_May.f kj5 l0).bind fun t258 => ((chatelaineref16_May.f kj5 l0).bind fun t259 => (chatelainelaw16_TenantsTell.j1 kj5 l0 y232 t235 t247 (t258 == t259)))) else (chatelainelaw16_TenantsTell.j1 kj5 l0 y232 t235 t247 false))) = some r := H
                    have A29 := Aside0.mk A290
                    clear A290
                    replace H := Option.bind_eq_some_iff.mp H
                    obtain ⟨t257, A300, H⟩ := H
                    replace H : (if (t256 == t257) = true then ((tenants_May.f kj5 l0).bind fun t258 => ((chatelaineref16_May.f kj5 l0).bind fun t259 => (chatelainelaw16_TenantsTell.j1 kj5 l0 y232 t235 t247 (t258 == t259)))) else (chatelainelaw16_TenantsTell.j1 kj5 l0 y232 t235 t247 false)) = some r := H
                    have A30 := Aside0.mk A300
                    clear A300
                    by_cases c31 : (t256 == t257) = true
                    · rw [if_pos c31] at H
                      have c31b0 : (t256 == t257) = true := c31
                      (try (have c31b1 : decide (t256 = t257) = true := by simpa using c31))
                      (try (have c31b2 : (t256 == t257) = true := by simpa using c31))
                      clear c31
                      replace H := Option.bind_eq_some_iff.mp H
                      obtain ⟨t258, A320, H⟩ := H
                      replace H : ((chatelaineref16_May.f kj5 l0).bind fun t259 => (chatelainelaw16_TenantsTell.j1 kj5 l0 y232 t235 t247 (t258 == t259))) = some r := H
                      have A32 := Aside0.mk A320
                      clear A320
                      replace H := Option.bind_eq_some_iff.mp H
                      obtain ⟨t259, A330, H⟩ := H
                      replace H : (chatelainelaw16_TenantsTell.j1 kj5 l0 y232 t235 t247 (t258 == t259)) = some r := H
                      have A33 := Aside0.mk A330
                      clear A330
                      have H' := Aside0.mk H
                      clear H
                      obtain ⟨Ao34, co34, eo34⟩ := Kd.R_slice HO239.out
                      subst eo34
                      obtain ⟨Ao35, co35, eo35⟩ := Kd.R_slice HO246.out
                      subst eo35
                      go_wp2_with (first | ((with_reducible refine gate_callee (f := 26) rfl ?_); refine goesL_ (some 51) rfl rfl Tryd.func26 (by kernel_rfl) rfl #[.slice Ao34 t235.length co34, .slice Ao35 t242.length co35] rfl (by (try simp only [List.map_toArray, List.map_cons, List.map_nil]); first | done | rfl | (simp only [List.length_drop, List.length_take]; rfl)) ?_; (with_reducible refine (chatelainelaw0_SameTenants.calls kj5 _ _ t235 _ _ t242 true _ ?side1 ?side2 ?side3 ?side4 A21.out).mono ?_); (case side1 => repeat (first | exact (Kd.R_reads' HO239.out).2.2 | (with_reducible refine Kd.C_alloc ?_ _) | (with_reducible refine Kd.C_drewN ?_ _) | (with_reducible refine Kd.C_drew ?_))); (case side2 => exact (Kd.R_reads' HO239.out).2.1); (case side3 => repeat (first | exact (Kd.R_reads' HO246.out).2.2 | (with_reducible refine Kd.C_alloc ?_ _) | (with_reducible refine Kd.C_drewN ?_ _) | (with_reducible refine Kd.C_drew ?_))); (case side4 => exact (Kd.R_reads' HO246.out).2.1); rintro e w' ⟨rfl, ⟨nd, rfl⟩⟩; refine ⟨_, rfl, ?_⟩) | (go_at_call 14; (with_reducible refine (chatelainelaw0_Num.calls v240 t237 t251 _ ?side1 ?side2 A24.out).mono ?_); (case side1 => exact ErrIs.of (by (with_reducible repeat (first | apply Kd.R_alloc | apply Kd.R_drewN | apply Kd.R_drew)); exact HO241.out)); (case side2 => exact pw_cell_below (by repeat (first | (with_reducible first | exact HB.out | apply below_alloc | apply pw_below_drewN | apply below_drew1) | exact HB.out)) HG.out); rintro e w36 ⟨rfl, hb⟩; have n0_ := Aside0.mk (Kd.R_below (by (with_reducible repeat (first | apply Kd.R_alloc | apply Kd.R_drewN | apply Kd.R_drew)); exact HO234.out) hb); have n1_ := Aside0.mk (Kd.R_below (by (with_reducible repeat (first | apply Kd.R_alloc | apply Kd.R_drewN | apply Kd.R_drew)); exact HO239.out) hb); have n2_ := Aside0.mk (Kd.R_below (by (with_reducible repeat (first | apply Kd.R_alloc | apply Kd.R_drewN | apply Kd.R_drew)); exact HO241.out) hb); have n3_ := Aside0.mk (Kd.R_below (by (with_reducible repeat (first | apply Kd.R_alloc | apply Kd.R_drewN | apply Kd.R_drew)); exact HO246.out) hb); have n4_ := Aside0.mk (Kd.R_below (by (with_reducible repeat (first | apply Kd.R_alloc | apply Kd.R_drewN | apply Kd.R_drew)); exact HO249.out) hb); have n5_ := Aside0.mk (below_step (by repeat (first | (with_reducible first | exact HB.out | apply below_alloc | apply pw_below_drewN | apply below_drew1) | exact HB.out)) hb); clear HO234; clear HO239; clear HO241; clear HO246; clear HO249; clear HB; have HO234 := n0_; have HO239 := n1_; have HO241 := n2_; have HO246 := n3_; have HO249 := n4_; have HB := n5_; clear n0_ n1_ n2_ n3_ n4_ n5_; (try clear hb); (try clear hb2); (try clear hk); (try clear hi); (try clear A24)) | (go_at_call 28; (with_reducible refine (chatelaineref16_Path.calls kj5 _ _ l0 a3 t252 _ ?side1 ?side2 A26.out).mono ?_); (case side1 => repeat (first | exact (Kd.C_below HR0.out HB.out) | (with_reducible refine Kd.C_alloc ?_ _) | (with_reducible refine Kd.C_drewN ?_ _) | (with_reducible refine Kd.C_drew ?_))); (case side2 => exact HC0.out); rintro e w37 ⟨v253, rfl, ho0, hb⟩; have n0_ := Aside0.mk (Kd.R_below (by (with_reducible repeat (first | apply Kd.R_alloc | apply Kd.R_drewN | apply Kd.R_drew)); exact HO234.out) hb); have n1_ := Aside0.mk (Kd.R_below (by (with_reducible repeat (first | apply Kd.R_alloc | apply Kd.R_drewN | apply Kd.R_drew)); exact HO239.out) hb); have n2_ := Aside0.mk (Kd.R_below (by (with_reducible repeat (first | apply Kd.R_alloc | apply Kd.R_drewN | apply Kd.R_drew)); exact HO241.out) hb); have n3_ := Aside0.mk (Kd.R_below (by (with_reducible repeat (first | apply Kd.R_alloc | apply Kd.R_drewN | apply Kd.R_drew)); exact HO246.out) hb); have n4_ := Aside0.mk (Kd.R_elder' (by (with_reducible repeat (first | apply Kd.R_alloc | apply Kd.R_drewN | apply Kd.R_drew)); exact HO249.out) (Kd.R_base ho0) hb); have n5_ := Aside0.mk (Kd.R_lower (Kd.R_new' ho0 (Kd.R_lt (by (with_reducible repeat (first | apply Kd.R_alloc | apply Kd.R_drewN | apply Kd.R_drew)); exact HO249.out))) (below_size (by repeat (first | (with_reducible first | exact HB.out | apply below_alloc | apply pw_below_drewN | apply below_drew1) | exact HB.out)))); have n6_ := Aside0.mk (below_step (by repeat (first | (with_reducible first | exact HB.out | apply below_alloc | apply pw_below_drewN | apply below_drew1) | exact HB.out)) hb); clear HO234; clear HO239; clear HO241; clear HO246; clear HO249; clear HB; have HO234 := n0_; have HO239 := n1_; have HO241 := n2_; have HO246 := n3_; have HO249 := n4_; have HO254 := n5_; have HB := n6_; clear n0_ n1_ n2_ n3_ n4_ n5_ n6_; (try clear hb); (try clear hb2); (try clear hk); (try clear hi); (try clear ho0); (try clear A26); obtain ⟨Ao38, co38, eo38⟩ := Kd.R_slice HO249.out; subst eo38; obtain ⟨Ao39, co39, eo39⟩ := Kd.R_slice HO254.out; subst eo39) | (go_at_call 27; (with_reducible refine (chatelainelaw0_SameInts.calls kj5 _ _ t247 _ _ t252 true _ ?side1 ?side2 ?side3 ?side4 A27.out).mono ?_); (case side1 => repeat (first | exact (Kd.R_reads' HO249.out).2.2 | (with_reducible refine Kd.C_alloc ?_ _) | (with_reducible refine Kd.C_drewN ?_ _) | (with_reducible refine Kd.C_drew ?_))); (case side2 => exact (Kd.R_reads' HO249.out).2.1); (case side3 => repeat (first | exact (Kd.R_reads' HO254.out).2.2 | (with_reducible refine Kd.C_alloc ?_ _) | (with_reducible refine Kd.C_drewN ?_ _) | (with_reducible refine Kd.C_drew ?_))); (case side4 => exact (Kd.R_reads' HO254.out).2.1); rintro e w' ⟨rfl, ⟨nd, rfl⟩⟩) | (go_at_call 29; (with_reducible refine (tenants_Above.calls kj5 _ _ l0 a3 a4 t256 _ ?side1 ?side2 A29.out).mono ?_); (case side1 => repeat (first | exact (Kd.C_below HR0.out (by repeat (first | (with_reducible first | exact HB.out | apply below_alloc | apply pw_below_drewN | apply below_drew1) | exact HB.out))) | (with_reducible refine Kd.C_alloc ?_ _) | (with_reducible refine Kd.C_drewN ?_ _) | (with_reducible refine Kd.C_drew ?_))); (case side2 => exact HC0.out); rintro e w40 ⟨rfl, hb⟩; have n0_ := Aside0.mk (Kd.R_below (by (with_reducible repeat (first | apply Kd.R_alloc | apply Kd.R_drewN | apply Kd.R_drew)); exact HO234.out) hb); have n1_ := Aside0.mk (Kd.R_below (by (with_reducible repeat (first | apply Kd.R_alloc | apply Kd.R_drewN | apply Kd.R_drew)); exact HO239.out) hb); have n2_ := Aside0.mk (Kd.R_below (by (with_reducible repeat (first | apply Kd.R_alloc | apply Kd.R_drewN | apply Kd.R_drew)); exact HO241.out) hb); have n3_ := Aside0.mk (Kd.R_below (by (with_reducible repeat (first | apply Kd.R_alloc | apply Kd.R_drewN | apply Kd.R_drew)); exact HO246.out) hb); have n4_ := Aside0.mk (Kd.R_below (by (with_reducible repeat (first | apply Kd.R_alloc | apply Kd.R_drewN | apply Kd.R_drew)); exact HO249.out) hb); have n5_ := Aside0.mk (Kd.R_below (by (with_reducible repeat (first | apply Kd.R_alloc | apply Kd.R_drewN | apply Kd.R_drew)); exact HO254.out) hb); have n6_ := Aside0.mk (below_step (by repeat (first | (with_reducible first | exact HB.out | apply below_alloc | apply pw_below_drewN | apply below_drew1) | exact HB.out)) hb); clear HO234; clear HO239; clear HO241; clear HO246; clear HO249; clear HO254; clear HB; have HO234 := n0_; have HO239 := n1_; have HO241 := n2_; have HO246 := n3_; have HO249 := n4_; have HO254 := n5_; have HB := n6_; clear n0_ n1_ n2_ n3_ n4_ n5_ n6_; (try clear hb); (try clear hb2); (try clear hk); (try clear hi); (try clear A29)) | (go_at_call 30; (with_reducible refine (chatelaineref16_Above.calls kj5 _ _ l0 a3 a4 t257 _ ?side1 ?side2 A30.out).mono ?_); (case side1 => repeat (first | exact (Kd.C_below HR0.out HB.out) | (with_reducible refine Kd.C_alloc ?_ _) | (with_reducible refine Kd.C_drewN ?_ _) | (with_reducible refine Kd.C_drew ?_))); (case side2 => exact HC0.out); rintro e w41 ⟨rfl, hb⟩; have n0_ := Aside0.mk (Kd.R_below (by (with_reducible repeat (first | apply Kd.R_alloc | apply Kd.R_drewN | apply Kd.R_drew)); exact HO234.out) hb); have n1_ := Aside0.mk (Kd.R_below (by (with_reducible repeat (first | apply Kd.R_alloc | apply Kd.R_drewN | apply Kd.R_drew)); exact HO239.out) hb); have n2_ := Aside0.mk (Kd.R_below (by (with_reducible repeat (first | apply Kd.R_alloc | apply Kd.R_drewN | apply Kd.R_drew)); exact HO241.out) hb); have n3_ := Aside0.mk (Kd.R_below (by (with_reducible repeat (first | apply Kd.R_alloc | apply Kd.R_drewN | apply Kd.R_drew)); exact HO246.out) hb); have n4_ := Aside0.mk (Kd.R_below (by (with_reducible repeat (first | apply Kd.R_alloc | apply Kd.R_drewN | apply Kd.R_drew)); exact HO249.out) hb); have n5_ := Aside0.mk (Kd.R_below (by (with_reducible repeat (first | apply Kd.R_alloc | apply Kd.R_drewN | apply Kd.R_drew)); exact HO254.out) hb); have n6_ := Aside0.mk (below_step (by repeat (first | (with_reducible first | exact HB.out | apply below_alloc | apply pw_below_drewN | apply below_drew1) | exact HB.out)) hb); clear HO234; clear HO239; clear HO241; clear HO246; clear HO249; clear HO254; clear HB; have HO234 := n0_; have HO239 := n1_; have HO241 := n2_; have HO246 := n3_; have HO249 := n4_; have HO254 := n5_; have HB := n6_; clear n0_ n1_ n2_ n3_ n4_ n5_ n6_; (try clear hb); (try clear hb2); (try clear hk); (try clear hi); (try clear A30)) | (go_at_call 31; (with_reducible refine (tenants_May.calls kj5 _ _ l0 t258 _ ?side1 ?side2 A32.out).mono ?_); (case side1 => repeat (first | exact (Kd.C_below HR0.out HB.out) | (with_reducible refine Kd.C_alloc ?_ _) | (with_reducible refine Kd.C_drewN ?_ _) | (with_reducible refine Kd.C_drew ?_))); (case side2 => exact HC0.out); rintro e w42 ⟨rfl, hb⟩; have n0_ := Aside0.mk (Kd.R_below (by (with_reducible repeat (first | apply Kd.R_alloc | apply Kd.R_drewN | apply Kd.R_drew)); exact HO234.out) hb); have n1_ := Aside0.mk (Kd.R_below (by (with_reducible repeat (first | apply Kd.R_alloc | apply Kd.R_drewN | apply Kd.R_drew)); exact HO239.out) hb); have n2_ := Aside0.mk (Kd.R_below (by (with_reducible repeat (first | apply Kd.R_alloc | apply Kd.R_drewN | apply Kd.R_drew)); exact HO241.out) hb); have n3_ := Aside0.mk (Kd.R_below (by (with_reducible repeat (first | apply Kd.R_alloc | apply Kd.R_drewN | apply Kd.R_drew)); exact HO246.out) hb); have n4_ := Aside0.mk (Kd.R_below (by (with_reducible repeat (first | apply Kd.R_alloc | apply Kd.R_drewN | apply Kd.R_drew)); exact HO249.out) hb); have n5_ := Aside0.mk (Kd.R_below (by (with_reducible repeat (first | apply Kd.R_alloc | apply Kd.R_drewN | apply Kd.R_drew)); exact HO254.out) hb); have n6_ := Aside0.mk (below_step (by repeat (first | (with_reducible first | exact HB.out | apply below_alloc | apply pw_below_drewN | apply below_drew1) | exact HB.out)) hb); clear HO234; clear HO239; clear HO241; clear HO246; clear HO249; clear HO254; clear HB; have HO234 := n0_; have HO239 := n1_; have HO241 := n2_; have HO246 := n3_; have HO249 := n4_; have HO254 := n5_; have HB := n6_; clear n0_ n1_ n2_ n3_ n4_ n5_ n6_; (try clear hb); (try clear hb2); (try clear hk); (try clear hi); (try clear A32)) | (go_at_call 32; (with_reducible refine (chatelaineref16_May.calls kj5 _ _ l0 t259 _ ?side1 ?side2 A33.out).mono ?_); (case side1 => repeat (first | exact (Kd.C_below HR0.out HB.out) | (with_reducible refine Kd.C_alloc ?_ _) | (with_reducible refine Kd.C_drewN ?_ _) | (with_reducible refine Kd.C_drew ?_))); (case side2 => exact HC0.out); rintro e w43 ⟨rfl, hb⟩; have n0_ := Aside0.mk (Kd.R_below (by (with_reducible repeat (first | apply Kd.R_alloc | apply Kd.R_drewN | apply Kd.R_drew)); exact HO234.out) hb); have n1_ := Aside0.mk (Kd.R_below (by (with_reducible repeat (first | apply Kd.R_alloc | apply Kd.R_drewN | apply Kd.R_drew)); exact HO239.out) hb); have n2_ := Aside0.mk (Kd.R_below (by (with_reducible repeat (first | apply Kd.R_alloc | apply Kd.R_drewN | apply Kd.R_drew)); exact HO241.out) hb); have n3_ := Aside0.mk (Kd.R_below (by (with_reducible repeat (first | apply Kd.R_alloc | apply Kd.R_drewN | apply Kd.R_drew)); exact HO246.out) hb); have n4_ := Aside0.mk (Kd.R_below (by (with_reducible repeat (first | apply Kd.R_alloc | apply Kd.R_drewN | apply Kd.R_drew)); exact HO249.out) hb); have n5_ := Aside0.mk (Kd.R_below (by (with_reducible repeat (first | apply Kd.R_alloc | apply Kd.R_drewN | apply Kd.R_drew)); exact HO254.out) hb); have n6_ := Aside0.mk (below_step (by repeat (first | (with_reducible first | exact HB.out | apply below_alloc | apply pw_below_drewN | apply below_drew1) | exact HB.out)) hb); clear HO234; clear HO239; clear HO241; clear HO246; clear HO249; clear HO254; clear HB; have HO234 := n0_; have HO239 := n1_; have HO241 := n2_; have HO246 := n3_; have HO249 := n4_; have HO254 := n5_; have HB := n6_; clear n0_ n1_ n2_ n3_ n4_ n5_ n6_; (try clear hb); (try clear hb2); (try clear hk); (try clear hi); (try clear A33)))
                      go_meet
                      case rel => exact ⟨_, ((t258 == t259)), (by first | rfl | (simp; done) | (simp [*]; done)), H', ⟨by have := HJ5.out; first | omega | exact Nat.le_refl _⟩, ⟨by (with_reducible repeat (first | apply Kd.R_alloc | apply Kd.R_drewN | apply Kd.R_drew)); exact Kd.R_mono HO234.out (fun _ hk => hk.1.2)⟩, ⟨by (with_reducible repeat (first | apply Kd.R_alloc | apply Kd.R_drewN | apply Kd.R_drew)); exact Kd.R_mono HO239.out (fun _ hk => hk.1.2)⟩, ⟨by (with_reducible repeat (first | apply Kd.R_alloc | apply Kd.R_drewN | apply Kd.R_drew)); exact Kd.R_mono HO249.out (fun _ hk => trivial)⟩, ⟨by repeat (first | (with_reducible first | exact HB.out | apply below_alloc | apply pw_below_drewN | apply below_drew1) | exact HB.out)⟩⟩
                    · rw [if_neg c31] at H
                      have c31b0 : (t256 == t257) = false := by simpa using c31
                      (try (have c31b1 : decide (t256 = t257) = false := by simpa using c31))
                      (try (have c31b2 : (t256 == t257) = false := by simpa using c31))
                      (try (have c31b3 : ¬ (t256 = t257) := by simpa using c31))
                      clear c31
                      have H' := Aside0.mk H
                      clear H
                      obtain ⟨Ao44, co44, eo44⟩ := Kd.R_slice HO239.out
                      subst eo44
                      obtain ⟨Ao45, co45, eo45⟩ := Kd.R_slice HO246.out
                      subst eo45
                      go_wp2_with (first | ((with_reducible refine gate_callee (f := 26) rfl ?_); refine goesL_ (some 51) rfl rfl Tryd.func26 (by kernel_rfl) rfl #[.slice Ao44 t235.length co44, .slice Ao45 t242.length co45] rfl (by (try simp only [List.map_toArray, List.map_cons, List.map_nil]); first | done | rfl | (simp only [List.length_drop, List.length_take]; rfl)) ?_; (with_reducible refine (chatelainelaw0_SameTenants.calls kj5 _ _ t235 _ _ t242 true _ ?side1 ?side2 ?side3 ?side4 A21.out).mono ?_); (case side1 => repeat (first | exact (Kd.R_reads' HO239.out).2.2 | (with_reducible refine Kd.C_alloc ?_ _) | (with_reducible refine Kd.C_drewN ?_ _) | (with_reducible refine Kd.C_drew ?_))); (case side2 => exact (Kd.R_reads' HO239.out).2.1); (case side3 => repeat (first | exact (Kd.R_reads' HO246.out).2.2 | (with_reducible refine Kd.C_alloc ?_ _) | (with_reducible refine Kd.C_drewN ?_ _) | (with_reducible refine Kd.C_drew ?_))); (case side4 => exact (Kd.R_reads' HO246.out).2.1); rintro e w' ⟨rfl, ⟨nd, rfl⟩⟩; refine ⟨_, rfl, ?_⟩) | (go_at_call 14; (with_reducible refine (chatelainelaw0_Num.calls v240 t237 t251 _ ?side1 ?side2 A24.out).mono ?_); (case side1 => exact ErrIs.of (by (with_reducible repeat (first | apply Kd.R_alloc | apply Kd.R_drewN | apply Kd.R_drew)); exact HO241.out)); (case side2 => exact pw_cell_below (by repeat (first | (with_reducible first | exact HB.out | apply below_alloc | apply pw_below_drewN | apply below_drew1) | exact HB.out)) HG.out); rintro e w46 ⟨rfl, hb⟩; have n0_ := Aside0.mk (Kd.R_below (by (with_reducible repeat (first | apply Kd.R_alloc | apply Kd.R_drewN | apply Kd.R_drew)); exact HO234.out) hb); have n1_ := Aside0.mk (Kd.R_below (by (with_reducible repeat (first | apply Kd.R_alloc | apply Kd.R_drewN | apply Kd.R_drew)); exact HO239.out) hb); have n2_ := Aside0.mk (Kd.R_below (by (with_reducible repeat (first | apply Kd.R_alloc | apply Kd.R_drewN | apply Kd.R_drew)); exact HO241.out) hb); have n3_ := Aside0.mk (Kd.R_below (by (with_reducible repeat (first | apply Kd.R_alloc | apply Kd.R_drewN | apply Kd.R_drew)); exact HO246.out) hb); have n4_ := Aside0.mk (Kd.R_below (by (with_reducible repeat (first | apply Kd.R_alloc | apply Kd.R_drewN | apply Kd.R_drew)); exact HO249.out) hb); have n5_ := Aside0.mk (below_step (by repeat (first | (with_reducible first | exact HB.out | apply below_alloc | apply pw_below_drewN | apply below_drew1) | exact HB.out)) hb); clear HO234; clear HO239; clear HO241; clear HO246; clear HO249; clear HB; have HO234 := n0_; have HO239 := n1_; have HO241 := n2_; have HO246 := n3_; have HO249 := n4_; have HB := n5_; clear n0_ n1_ n2_ n3_ n4_ n5_; (try clear hb); (try clear hb2); (try clear hk); (try clear hi); (try clear A24)) | (go_at_call 28; (with_reducible refine (chatelaineref16_Path.calls kj5 _ _ l0 a3 t252 _ ?side1 ?side2 A26.out).mono ?_); (case side1 => repeat (first | exact (Kd.C_below HR0.out HB.out) | (with_reducible refine Kd.C_alloc ?_ _) | (with_reducible refine Kd.C_drewN ?_ _) | (with_reducible refine Kd.C_drew ?_))); (case side2 => exact HC0.out); rintro e w47 ⟨v253, rfl, ho0, hb⟩; have n0_ := Aside0.mk (Kd.R_below (by (with_reducible repeat (first | apply Kd.R_alloc | apply Kd.R_drewN | apply Kd.R_drew)); exact HO234.out) hb); have n1_ := Aside0.mk (Kd.R_below (by (with_reducible repeat (first | apply Kd.R_alloc | apply Kd.R_drewN | apply Kd.R_drew)); exact HO239.out) hb); have n2_ := Aside0.mk (Kd.R_below (by (with_reducible repeat (first | apply Kd.R_alloc | apply Kd.R_drewN | apply Kd.R_drew)); exact HO241.out) hb); have n3_ := Aside0.mk (Kd.R_below (by (with_reducible repeat (first | apply Kd.R_alloc | apply Kd.R_drewN | apply Kd.R_drew)); exact HO246.out) hb); have n4_ := Aside0.mk (Kd.R_elder' (by (with_reducible repeat (first | apply Kd.R_alloc | apply Kd.R_drewN | apply Kd.R_drew)); exact HO249.out) (Kd.R_base ho0) hb); have n5_ := Aside0.mk (Kd.R_lower (Kd.R_new' ho0 (Kd.R_lt (by (with_reducible repeat (first | apply Kd.R_alloc | apply Kd.R_drewN | apply Kd.R_drew)); exact HO249.out))) (below_size (by repeat (first | (with_reducible first | exact HB.out | apply below_alloc | apply pw_below_drewN | apply below_drew1) | exact HB.out)))); have n6_ := Aside0.mk (below_step (by repeat (first | (with_reducible first | exact HB.out | apply below_alloc | apply pw_below_drewN | apply below_drew1) | exact HB.out)) hb); clear HO234; clear HO239; clear HO241; clear HO246; clear HO249; clear HB; have HO234 := n0_; have HO239 := n1_; have HO241 := n2_; have HO246 := n3_; have HO249 := n4_; have HO254 := n5_; have HB := n6_; clear n0_ n1_ n2_ n3_ n4_ n5_ n6_; (try clear hb); (try clear hb2); (try clear hk); (try clear hi); (try clear ho0); (try clear A26); obtain ⟨Ao48, co48, eo48⟩ := Kd.R_slice HO249.out; subst eo48; obtain ⟨Ao49, co49, eo49⟩ := Kd.R_slice HO254.out; subst eo49) | (go_at_call 27; (with_reducible refine (chatelainelaw0_SameInts.calls kj5 _ _ t247 _ _ t252 true _ ?side1 ?side2 ?side3 ?side4 A27.out).mono ?_); (case side1 => repeat (first | exact (Kd.R_reads' HO249.out).2.2 | (with_reducible refine Kd.C_alloc ?_ _) | (with_reducible refine Kd.C_drewN ?_ _) | (with_reducible refine Kd.C_drew ?_))); (case side2 => exact (Kd.R_reads' HO249.out).2.1); (case side3 => repeat (first | exact (Kd.R_reads' HO254.out).2.2 | (with_reducible refine Kd.C_alloc ?_ _) | (with_reducible refine Kd.C_drewN ?_ _) | (with_reducible refine Kd.C_drew ?_))); (case side4 => exact (Kd.R_reads' HO254.out).2.1); rintro e w' ⟨rfl, ⟨nd, rfl⟩⟩) | (go_at_call 29; (with_reducible refine (tenants_Above.calls kj5 _ _ l0 a3 a4 t256 _ ?side1 ?side2 A29.out).mono ?_); (case side1 => repeat (first | exact (Kd.C_below HR0.out (by repeat (first | (with_reducible first | exact HB.out | apply below_alloc | apply pw_below_drewN | apply below_drew1) | exact HB.out))) | (with_reducible refine Kd.C_alloc ?_ _) | (with_reducible refine Kd.C_drewN ?_ _) | (with_reducible refine Kd.C_drew ?_))); (case side2 => exact HC0.out); rintro e w50 ⟨rfl, hb⟩; have n0_ := Aside0.mk (Kd.R_below (by (with_reducible repeat (first | apply Kd.R_alloc | apply Kd.R_drewN | apply Kd.R_drew)); exact HO234.out) hb); have n1_ := Aside0.mk (Kd.R_below (by (with_reducible repeat (first | apply Kd.R_alloc | apply Kd.R_drewN | apply Kd.R_drew)); exact HO239.out) hb); have n2_ := Aside0.mk (Kd.R_below (by (with_reducible repeat (first | apply Kd.R_alloc | apply Kd.R_drewN | apply Kd.R_drew)); exact HO241.out) hb); have n3_ := Aside0.mk (Kd.R_below (by (with_reducible repeat (first | apply Kd.R_alloc | apply Kd.R_drewN | apply Kd.R_drew)); exact HO246.out) hb); have n4_ := Aside0.mk (Kd.R_below (by (with_reducible repeat (first | apply Kd.R_alloc | apply Kd.R_drewN | apply Kd.R_drew)); exact HO249.out) hb); have n5_ := Aside0.mk (Kd.R_below (by (with_reducible repeat (first | apply Kd.R_alloc | apply Kd.R_drewN | apply Kd.R_drew)); exact HO254.out) hb); have n6_ := Aside0.mk (below_step (by repeat (first | (with_reducible first | exact HB.out | apply below_alloc | apply pw_below_drewN | apply below_drew1) | exact HB.out)) hb); clear HO234; clear HO239; clear HO241; clear HO246; clear HO249; clear HO254; clear HB; have HO234 := n0_; have HO239 := n1_; have HO241 := n2_; have HO246 := n3_; have HO249 := n4_; have HO254 := n5_; have HB := n6_; clear n0_ n1_ n2_ n3_ n4_ n5_ n6_; (try clear hb); (try clear hb2); (try clear hk); (try clear hi); (try clear A29)) | (go_at_call 30; (with_reducible refine (chatelaineref16_Above.calls kj5 _ _ l0 a3 a4 t257 _ ?side1 ?side2 A30.out).mono ?_); (case side1 => repeat (first | exact (Kd.C_below HR0.out HB.out) | (with_reducible refine Kd.C_alloc ?_ _) | (with_reducible refine Kd.C_drewN ?_ _) | (with_reducible refine Kd.C_drew ?_))); (case side2 => exact HC0.out); rintro e w51 ⟨rfl, hb⟩; have n0_ := Aside0.mk (Kd.R_below (by (with_reducible repeat (first | apply Kd.R_alloc | apply Kd.R_drewN | apply Kd.R_drew)); exact HO234.out) hb); have n1_ := Aside0.mk (Kd.R_below (by (with_reducible repeat (first | apply Kd.R_alloc | apply Kd.R_drewN | apply Kd.R_drew)); exact HO239.out) hb); have n2_ := Aside0.mk (Kd.R_below (by (with_reducible repeat (first | apply Kd.R_alloc | apply Kd.R_drewN | apply Kd.R_drew)); exact HO241.out) hb); have n3_ := Aside0.mk (Kd.R_below (by (with_reducible repeat (first | apply Kd.R_alloc | apply Kd.R_drewN | apply Kd.R_drew)); exact HO246.out) hb); have n4_ := Aside0.mk (Kd.R_below (by (with_reducible repeat (first | apply Kd.R_alloc | apply Kd.R_drewN | apply Kd.R_drew)); exact HO249.out) hb); have n5_ := Aside0.mk (Kd.R_below (by (with_reducible repeat (first | apply Kd.R_alloc | apply Kd.R_drewN | apply Kd.R_drew)); exact HO254.out) hb); have n6_ := Aside0.mk (below_step (by repeat (first | (with_reducible first | exact HB.out | apply below_alloc | apply pw_below_drewN | apply below_drew1) | exact HB.out)) hb); clear HO234; clear HO239; clear HO241; clear HO246; clear HO249; clear HO254; clear HB; have HO234 := n0_; have HO239 := n1_; have HO241 := n2_; have HO246 := n3_; have HO249 := n4_; have HO254 := n5_; have HB := n6_; clear n0_ n1_ n2_ n3_ n4_ n5_ n6_; (try clear hb); (try clear hb2); (try clear hk); (try clear hi); (try clear A30)))
                      go_meet
                      case rel => exact ⟨_, (false), (by first | rfl | (simp; done) | (simp [*]; done)), H', ⟨by have := HJ5.out; first | omega | exact Nat.le_refl _⟩, ⟨by (with_reducible repeat (first | apply Kd.R_alloc | apply Kd.R_drewN | apply Kd.R_drew)); exact Kd.R_mono HO234.out (fun _ hk => hk.1.2)⟩, ⟨by (with_reducible repeat (first | apply Kd.R_alloc | apply Kd.R_drewN | apply Kd.R_drew)); exact Kd.R_mono HO239.out (fun _ hk => hk.1.2)⟩, ⟨by (with_reducible repeat (first | apply Kd.R_alloc | apply Kd.R_drewN | apply Kd.R_drew)); exact Kd.R_mono HO249.out (fun _ hk => trivial)⟩, ⟨by repeat (first | (with_reducible first | exact HB.out | apply below_alloc | apply pw_below_drewN | apply below_drew1) | exact HB.out)⟩⟩
                  · replace c28 := Bool.eq_false_iff.mpr c28
                    subst c28
                    have H1 : (chatelainelaw16_TenantsTell.j1 kj5 l0 y232 t235 t247 false) = some r := by rw [if_neg (show ¬ (false = true) by decide)] at H; exact H
                    clear H
                    have H := H1
                    clear H1
                    have H' := Aside0.mk H
                    clear H
                    obtain ⟨Ao52, co52, eo52⟩ := Kd.R_slice HO239.out
                    subst eo52
                    obtain ⟨Ao53, co53, eo53⟩ := Kd.R_slice HO246.out
                    subst eo53
                    go_wp2_with (first | ((with_reducible refine gate_callee (f := 26) rfl ?_); refine goesL_ (some 51) rfl rfl Tryd.func26 (by kernel_rfl) rfl #[.slice Ao52 t235.length co52, .slice Ao53 t242.length co53] rfl (by (try simp only [List.map_toArray, List.map_cons, List.map_nil]); first | done | rfl | (simp only [List.length_drop, List.length_take]; rfl)) ?_; (with_reducible refine (chatelainelaw0_SameTenants.calls kj5 _ _ t235 _ _ t242 true _ ?side1 ?side2 ?side3 ?side4 A21.out).mono ?_); (case side1 => repeat (first | exact (Kd.R_reads' HO239.out).2.2 | (with_reducible refine Kd.C_alloc ?_ _) | (with_reducible refine Kd.C_drewN ?_ _) | (with_reducible refine Kd.C_drew ?_))); (case side2 => exact (Kd.R_reads' HO239.out).2.1); (case side3 => repeat (first | exact (Kd.R_reads' HO246.out).2.2 | (with_reducible refine Kd.C_alloc ?_ _) | (with_reducible refine Kd.C_drewN ?_ _) | (with_reducible refine Kd.C_drew ?_))); (case side4 => exact (Kd.R_reads' HO246.out).2.1); rintro e w' ⟨rfl, ⟨nd, rfl⟩⟩; refine ⟨_, rfl, ?_⟩) | (go_at_call 14; (with_reducible refine (chatelainelaw0_Num.calls v240 t237 t251 _ ?side1 ?side2 A24.out).mono ?_); (case side1 => exact ErrIs.of (by (with_reducible repeat (first | apply Kd.R_alloc | apply Kd.R_drewN | apply Kd.R_drew)); exact HO241.out)); (case side2 => exact pw_cell_below (by repeat (first | (with_reducible first | exact HB.out | apply below_alloc | apply pw_below_drewN | apply below_drew1) | exact HB.out)) HG.out); rintro e w54 ⟨rfl, hb⟩; have n0_ := Aside0.mk (Kd.R_below (by (with_reducible repeat (first | apply Kd.R_alloc | apply Kd.R_drewN | apply Kd.R_drew)); exact HO234.out) hb); have n1_ := Aside0.mk (Kd.R_below (by (with_reducible repeat (first | apply Kd.R_alloc | apply Kd.R_drewN | apply Kd.R_drew)); exact HO239.out) hb); have n2_ := Aside0.mk (Kd.R_below (by (with_reducible repeat (first | apply Kd.R_alloc | apply Kd.R_drewN | apply Kd.R_drew)); exact HO241.out) hb); have n3_ := Aside0.mk (Kd.R_below (by (with_reducible repeat (first | apply Kd.R_alloc | apply Kd.R_drewN | apply Kd.R_drew)); exact HO246.out) hb); have n4_ := Aside0.mk (Kd.R_below (by (with_reducible repeat (first | apply Kd.R_alloc | apply Kd.R_drewN | apply Kd.R_drew)); exact HO249.out) hb); have n5_ := Aside0.mk (below_step (by repeat (first | (with_reducible first | exact HB.out | apply below_alloc | apply pw_below_drewN | apply below_drew1) | exact HB.out)) hb); clear HO234; clear HO239; clear HO241; clear HO246; clear HO249; clear HB; have HO234 := n0_; have HO239 := n1_; have HO241 := n2_; have HO246 := n3_; have HO249 := n4_; have HB := n5_; clear n0_ n1_ n2_ n3_ n4_ n5_; (try clear hb); (try clear hb2); (try clear hk); (try clear hi); (try clear A24)) | (go_at_call 28; (with_reducible refine (chatelaineref16_Path.calls kj5 _ _ l0 a3 t252 _ ?side1 ?side2 A26.out).mono ?_); (case side1 => repeat (first | exact (Kd.C_below HR0.out HB.out) | (with_reducible refine Kd.C_alloc ?_ _) | (with_reducible refine Kd.C_drewN ?_ _) | (with_reducible refine Kd.C_drew ?_))); (case side2 => exact HC0.out); rintro e w55 ⟨v253, rfl, ho0, hb⟩; have n0_ := Aside0.mk (Kd.R_below (by (with_reducible repeat (first | apply Kd.R_alloc | apply Kd.R_drewN | apply Kd.R_drew)); exact HO234.out) hb); have n1_ := Aside0.mk (Kd.R_below (by (with_reducible repeat (first | apply Kd.R_alloc | apply Kd.R_drewN | apply Kd.R_drew)); exact HO239.out) hb); have n2_ := Aside0.mk (Kd.R_below (by (with_reducible repeat (first | apply Kd.R_alloc | apply Kd.R_drewN | apply Kd.R_drew)); exact HO241.out) hb); have n3_ := Aside0.mk (Kd.R_below (by (with_reducible repeat (first | apply Kd.R_alloc | apply Kd.R_drewN | apply Kd.R_drew)); exact HO246.out) hb); have n4_ := Aside0.mk (Kd.R_elder' (by (with_reducible repeat (first | apply Kd.R_alloc | apply Kd.R_drewN | apply Kd.R_drew)); exact HO249.out) (Kd.R_base ho0) hb); have n5_ := Aside0.mk (Kd.R_lower (Kd.R_new' ho0 (Kd.R_lt (by (with_reducible repeat (first | apply Kd.R_alloc | apply Kd.R_drewN | apply Kd.R_drew)); exact HO249.out))) (below_size (by repeat (first | (with_reducible first | exact HB.out | apply below_alloc | apply pw_below_drewN | apply below_drew1) | exact HB.out)))); have n6_ := Aside0.mk (below_step (by repeat (first | (with_reducible first | exact HB.out | apply below_alloc | apply pw_below_drewN | apply below_drew1) | exact HB.out)) hb); clear HO234; clear HO239; clear HO241; clear HO246; clear HO249; clear HB; have HO234 := n0_; have HO239 := n1_; have HO241 := n2_; have HO246 := n3_; have HO249 := n4_; have HO254 := n5_; have HB := n6_; clear n0_ n1_ n2_ n3_ n4_ n5_ n6_; (try clear hb); (try clear hb2); (try clear hk); (try clear hi); (try clear ho0); (try clear A26); obtain ⟨Ao56, co56, eo56⟩ := Kd.R_slice HO249.out; subst eo56; obtain ⟨Ao57, co57, eo57⟩ := Kd.R_slice HO254.out; subst eo57) | (go_at_call 27; (with_reducible refine (chatelainelaw0_SameInts.calls kj5 _ _ t247 _ _ t252 false _ ?side1 ?side2 ?side3 ?side4 A27.out).mono ?_); (case side1 => repeat (first | exact (Kd.R_reads' HO249.out).2.2 | (with_reducible refine Kd.C_alloc ?_ _) | (with_reducible refine Kd.C_drewN ?_ _) | (with_reducible refine Kd.C_drew ?_))); (case side2 => exact (Kd.R_reads' HO249.out).2.1); (case side3 => repeat (first | exact (Kd.R_reads' HO254.out).2.2 | (with_reducible refine Kd.C_alloc ?_ _) | (with_reducible refine Kd.C_drewN ?_ _) | (with_reducible refine Kd.C_drew ?_))); (case side4 => exact (Kd.R_reads' HO254.out).2.1); rintro e w' ⟨rfl, ⟨nd, rfl⟩⟩))
                    go_meet
                    case rel => exact ⟨_, (false), (by first | rfl | (simp; done) | (simp [*]; done)), H', ⟨by have := HJ5.out; first | omega | exact Nat.le_refl _⟩, ⟨by (with_reducible repeat (first | apply Kd.R_alloc | apply Kd.R_drewN | apply Kd.R_drew)); exact Kd.R_mono HO234.out (fun _ hk => hk.1.2)⟩, ⟨by (with_reducible repeat (first | apply Kd.R_alloc | apply Kd.R_drewN | apply Kd.R_drew)); exact Kd.R_mono HO239.out (fun _ hk => hk.1.2)⟩, ⟨by (with_reducible repeat (first | apply Kd.R_alloc | apply Kd.R_drewN | apply Kd.R_drew)); exact Kd.R_mono HO249.out (fun _ hk => trivial)⟩, ⟨by repeat (first | (with_reducible first | exact HB.out | apply below_alloc | apply pw_below_drewN | apply below_drew1) | exact HB.out)⟩⟩
                · rw [if_neg c25] at H
                  have c25b0 : (t251 == t244) = false := beq_eq_false_iff_ne.mpr c25
                  have c25b1 : (t251 != t244) = true := bne_iff_ne.mpr c25
                  have H' := Aside0.mk H
                  clear H
                  obtain ⟨Ao58, co58, eo58⟩ := Kd.R_slice HO239.out
                  subst eo58
                  obtain ⟨Ao59, co59, eo59⟩ := Kd.R_slice HO246.out
                  subst eo59
                  go_wp2_with (first | ((with_reducible refine gate_callee (f := 26) rfl ?_); refine goesL_ (some 51) rfl rfl Tryd.func26 (by kernel_rfl) rfl #[.slice Ao58 t235.length co58, .slice Ao59 t242.length co59] rfl (by (try simp only [List.map_toArray, List.map_cons, List.map_nil]); first | done | rfl | (simp only [List.length_drop, List.length_take]; rfl)) ?_; (with_reducible refine (chatelainelaw0_SameTenants.calls kj5 _ _ t235 _ _ t242 true _ ?side1 ?side2 ?side3 ?side4 A21.out).mono ?_); (case side1 => repeat (first | exact (Kd.R_reads' HO239.out).2.2 | (with_reducible refine Kd.C_alloc ?_ _) | (with_reducible refine Kd.C_drewN ?_ _) | (with_reducible refine Kd.C_drew ?_))); (case side2 => exact (Kd.R_reads' HO239.out).2.1); (case side3 => repeat (first | exact (Kd.R_reads' HO246.out).2.2 | (with_reducible refine Kd.C_alloc ?_ _) | (with_reducible refine Kd.C_drewN ?_ _) | (with_reducible refine Kd.C_drew ?_))); (case side4 => exact (Kd.R_reads' HO246.out).2.1); rintro e w' ⟨rfl, ⟨nd, rfl⟩⟩; refine ⟨_, rfl, ?_⟩) | (go_at_call 14; (with_reducible refine (chatelainelaw0_Num.calls v240 t237 t251 _ ?side1 ?side2 A24.out).mono ?_); (case side1 => exact ErrIs.of (by (with_reducible repeat (first | apply Kd.R_alloc | apply Kd.R_drewN | apply Kd.R_drew)); exact HO241.out)); (case side2 => exact pw_cell_below (by repeat (first | (with_reducible first | exact HB.out | apply below_alloc | apply pw_below_drewN | apply below_drew1) | exact HB.out)) HG.out); rintro e w60 ⟨rfl, hb⟩; have n0_ := Aside0.mk (Kd.R_below (by (with_reducible repeat (first | apply Kd.R_alloc | apply Kd.R_drewN | apply Kd.R_drew)); exact HO234.out) hb); have n1_ := Aside0.mk (Kd.R_below (by (with_reducible repeat (first | apply Kd.R_alloc | apply Kd.R_drewN | apply Kd.R_drew)); exact HO239.out) hb); have n2_ := Aside0.mk (Kd.R_below (by (with_reducible repeat (first | apply Kd.R_alloc | apply Kd.R_drewN | apply Kd.R_drew)); exact HO241.out) hb); have n3_ := Aside0.mk (Kd.R_below (by (with_reducible repeat (first | apply Kd.R_alloc | apply Kd.R_drewN | apply Kd.R_drew)); exact HO246.out) hb); have n4_ := Aside0.mk (Kd.R_below (by (with_reducible repeat (first | apply Kd.R_alloc | apply Kd.R_drewN | apply Kd.R_drew)); exact HO249.out) hb); have n5_ := Aside0.mk (below_step (by repeat (first | (with_reducible first | exact HB.out | apply below_alloc | apply pw_below_drewN | apply below_drew1) | exact HB.out)) hb); clear HO234; clear HO239; clear HO241; clear HO246; clear HO249; clear HB; have HO234 := n0_; have HO239 := n1_; have HO241 := n2_; have HO246 := n3_; have HO249 := n4_; have HB := n5_; clear n0_ n1_ n2_ n3_ n4_ n5_; (try clear hb); (try clear hb2); (try clear hk); (try clear hi); (try clear A24)))
                  go_meet
                  case rel => exact ⟨_, (false), (by first | rfl | (simp; done) | (simp [*]; done)), H', ⟨by have := HJ5.out; first | omega | exact Nat.le_refl _⟩, ⟨by (with_reducible repeat (first | apply Kd.R_alloc | apply Kd.R_drewN | apply Kd.R_drew)); exact Kd.R_mono HO234.out (fun _ hk => hk.1.2)⟩, ⟨by (with_reducible repeat (first | apply Kd.R_alloc | apply Kd.R_drewN | apply Kd.R_drew)); exact Kd.R_mono HO239.out (fun _ hk => hk.1.2)⟩, ⟨by (with_reducible repeat (first | apply Kd.R_alloc | apply Kd.R_drewN | apply Kd.R_drew)); exact HO249.out⟩, ⟨by repeat (first | (with_reducible first | exact HB.out | apply below_alloc | apply pw_below_drewN | apply below_drew1) | exact HB.out)⟩⟩
              · rw [if_neg c23] at H
                have c23b0 : (t236 == t243) = false := beq_eq_false_iff_ne.mpr c23
                have c23b1 : (t236 != t243) = true := bne_iff_ne.mpr c23
                (first | rw [c23b0] | (simp only [i64_w, i32_w]; rw [c23b0]) | skip)
                have H' := Aside0.mk H
                clear H
                obtain ⟨Ao61, co61, eo61⟩ := Kd.R_slice HO239.out
                subst eo61
                obtain ⟨Ao62, co62, eo62⟩ := Kd.R_slice HO246.out
                subst eo62
                go_wp2_with (first | ((with_reducible refine gate_callee (f := 26) rfl ?_); refine goesL_ (some 51) rfl rfl Tryd.func26 (by kernel_rfl) rfl #[.slice Ao61 t235.length co61, .slice Ao62 t242.length co62] rfl (by (try simp only [List.map_toArray, List.map_cons, List.map_nil]); first | done | rfl | (simp only [List.length_drop, List.length_take]; rfl)) ?_; (with_reducible refine (chatelainelaw0_SameTenants.calls kj5 _ _ t235 _ _ t242 true _ ?side1 ?side2 ?side3 ?side4 A21.out).mono ?_); (case side1 => repeat (first | exact (Kd.R_reads' HO239.out).2.2 | (with_reducible refine Kd.C_alloc ?_ _) | (with_reducible refine Kd.C_drewN ?_ _) | (with_reducible refine Kd.C_drew ?_))); (case side2 => exact (Kd.R_reads' HO239.out).2.1); (case side3 => repeat (first | exact (Kd.R_reads' HO246.out).2.2 | (with_reducible refine Kd.C_alloc ?_ _) | (with_reducible refine Kd.C_drewN ?_ _) | (with_reducible refine Kd.C_drew ?_))); (case side4 => exact (Kd.R_reads' HO246.out).2.1); rintro e w' ⟨rfl, ⟨nd, rfl⟩⟩; refine ⟨_, rfl, ?_⟩))
                go_meet
                case rel => exact ⟨_, (false), (by first | rfl | (simp; done) | (simp [*]; done)), H', ⟨by have := HJ5.out; first | omega | exact Nat.le_refl _⟩, ⟨by (with_reducible repeat (first | apply Kd.R_alloc | apply Kd.R_drewN | apply Kd.R_drew)); exact Kd.R_mono HO234.out (fun _ hk => hk.1.2)⟩, ⟨by (with_reducible repeat (first | apply Kd.R_alloc | apply Kd.R_drewN | apply Kd.R_drew)); exact Kd.R_mono HO239.out (fun _ hk => hk.1.2)⟩, ⟨by (with_reducible repeat (first | apply Kd.R_alloc | apply Kd.R_drewN | apply Kd.R_drew)); exact HO249.out⟩, ⟨by repeat (first | (with_reducible first | exact HB.out | apply below_alloc | apply pw_below_drewN | apply below_drew1) | exact HB.out)⟩⟩
            · replace c22 := Bool.eq_false_iff.mpr c22
              subst c22
              have H1 : (chatelainelaw16_TenantsTell.j1 kj5 l0 y232 t235 t247 false) = some r := by rw [if_neg (show ¬ (false = true) by decide)] at H; exact H
              clear H
              have H := H1
              clear H1
              have H' := Aside0.mk H
              clear H
              obtain ⟨Ao63, co63, eo63⟩ := Kd.R_slice HO239.out
              subst eo63
              obtain ⟨Ao64, co64, eo64⟩ := Kd.R_slice HO246.out
              subst eo64
              go_wp2_with (first | ((with_reducible refine gate_callee (f := 26) rfl ?_); refine goesL_ (some 51) rfl rfl Tryd.func26 (by kernel_rfl) rfl #[.slice Ao63 t235.length co63, .slice Ao64 t242.length co64] rfl (by (try simp only [List.map_toArray, List.map_cons, List.map_nil]); first | done | rfl | (simp only [List.length_drop, List.length_take]; rfl)) ?_; (with_reducible refine (chatelainelaw0_SameTenants.calls kj5 _ _ t235 _ _ t242 false _ ?side1 ?side2 ?side3 ?side4 A21.out).mono ?_); (case side1 => repeat (first | exact (Kd.R_reads' HO239.out).2.2 | (with_reducible refine Kd.C_alloc ?_ _) | (with_reducible refine Kd.C_drewN ?_ _) | (with_reducible refine Kd.C_drew ?_))); (case side2 => exact (Kd.R_reads' HO239.out).2.1); (case side3 => repeat (first | exact (Kd.R_reads' HO246.out).2.2 | (with_reducible refine Kd.C_alloc ?_ _) | (with_reducible refine Kd.C_drewN ?_ _) | (with_reducible refine Kd.C_drew ?_))); (case side4 => exact (Kd.R_reads' HO246.out).2.1); rintro e w' ⟨rfl, ⟨nd, rfl⟩⟩; refine ⟨_, rfl, ?_⟩))
              go_meet
              case rel => exact ⟨_, (false), (by first | rfl | (simp; done) | (simp [*]; done)), H', ⟨by have := HJ5.out; first | omega | exact Nat.le_refl _⟩, ⟨by (with_reducible repeat (first | apply Kd.R_alloc | apply Kd.R_drewN | apply Kd.R_drew)); exact Kd.R_mono HO234.out (fun _ hk => hk.1.2)⟩, ⟨by (with_reducible repeat (first | apply Kd.R_alloc | apply Kd.R_drewN | apply Kd.R_drew)); exact Kd.R_mono HO239.out (fun _ hk => hk.1.2)⟩, ⟨by (with_reducible repeat (first | apply Kd.R_alloc | apply Kd.R_drewN | apply Kd.R_drew)); exact HO249.out⟩, ⟨by repeat (first | (with_reducible first | exact HB.out | apply below_alloc | apply pw_below_drewN | apply below_drew1) | exact HB.out)⟩⟩
          case rest =>
            clear HC16
            try clear c1
            try clear c2
            try clear p2
            try clear c3
            try clear c8
            try clear c9
            try clear c12
            try clear c21
            try clear c22
            try clear c23
            try clear c23b0
            try clear c23b1
            try clear c24
            try clear c25
            try clear c25b0
            try clear c25b1
            try clear c26
            try clear c28
            try clear c31
            try clear c31b0
            try clear c31b1
            try clear c31b2
            try clear p2
            obtain ⟨kq, x19_15, rfl, HA, HJ15, HO_11, HO_12, HO_18, HB⟩ := hcut
            cases kq with
            | zero => exact absurd HA.out (by simp [chatelainelaw16_TenantsTell.j1])
            | succ kj15 =>
              have H := HA.out
              clear HA
              simp only [chatelainelaw16_TenantsTell.j1] at H
              replace H := Option.bind_eq_some_iff.mp H
              obtain ⟨_, A650, H⟩ := H
              replace H : ((chatelainelaw0_OverInts.f kj15 t247).bind fun _ => (if x19_15 = true then ((chatelainelaw0_SameTenants.f kj15 l0 y232).bind fun t260 => (if t260 = true then ((chatelainelaw16_awake.f kj15).bind fun t261 => (some t261)) else (some false))) else (some false))) = some r := H
              have A65 := Aside0.mk A650
              clear A650
              replace H := Option.bind_eq_some_iff.mp H
              obtain ⟨_, A660, H⟩ := H
              replace H : (if x19_15 = true then ((chatelainelaw0_SameTenants.f kj15 l0 y232).bind fun t260 => (if t260 = true then ((chatelainelaw16_awake.f kj15).bind fun t261 => (some t261)) else (some false))) else (some false)) = some r := H
              have A66 := Aside0.mk A660
              clear A660
              by_cases c67 : x19_15 = true
              · subst c67
                have H1 : ((chatelainelaw0_SameTenants.f kj15 l0 y232).bind fun t260 => (if t260 = true then ((chatelainelaw16_awake.f kj15).bind fun t261 => (some t261)) else (some false))) = some r := by rw [if_pos rfl] at H; exact H
                clear H
                have H := H1
                clear H1
                replace H := Option.bind_eq_some_iff.mp H
                obtain ⟨t260, A680, H⟩ := H
                replace H : (if t260 = true then ((chatelainelaw16_awake.f kj15).bind fun t261 => (some t261)) else (some false)) = some r := H
                have A68 := Aside0.mk A680
                clear A680
                by_cases c69 : t260 = true
                · subst c69
                  have H1 : ((chatelainelaw16_awake.f kj15).bind fun t261 => (some t261)) = some r := by rw [if_pos rfl] at H; exact H
                  clear H
                  have H := H1
                  clear H1
                  replace H := Option.bind_eq_some_iff.mp H
                  obtain ⟨t261, A700, H⟩ := H
                  replace H : (some t261) = some r := H
                  have A70 := Aside0.mk A700
                  clear A700
                  obtain rfl := Option.some.inj H
                  obtain ⟨Ao71, co71, eo71⟩ := Kd.R_slice HO_12.out
                  subst eo71
                  go_wp2_with (first | ((with_reducible refine gate_callee (f := 33) rfl ?_); refine goesL_ (some 89) rfl rfl Tryd.func33 (by kernel_rfl) rfl #[.slice Ao71 t235.length co71] rfl (by (try simp only [List.map_toArray, List.map_cons, List.map_nil]); first | done | rfl | (simp only [List.length_drop, List.length_take]; rfl)) ?_; (with_reducible refine (chatelainelaw0_OverTenants.calls kj15 (fun k_ => some k_ = (.slice Ao71 t235.length co71 : Value).ownBlock) (.slice Ao71 t235.length co71) t235  w _ ?side1 ?side2 A65.out).mono ?_); (case side1 => repeat (first | (with_reducible first | exact HB.out | apply below_alloc | apply pw_below_drewN | apply below_drew1) | exact HB.out)); (case side2 => exact Kd.R_tight rfl HO_12.out); rintro e w72 ⟨rfl, hb, hkp⟩; refine ⟨_, rfl, ?_⟩; have n0_ := Aside0.mk (Kd.R_mono (ok' := fun k_ => True) (Kd.R_keptB (HO_11.out) hkp (fun k_ hk_ hs_ => (hk_) hs_)) (fun k_ hk_ => trivial)); have n1_ := Aside0.mk (Kd.R_mono (ok' := fun k_ => True) (Kd.R_keptB ((Kd.R_apart' HO_18.out (Kd.R_typed HO_12.out) (by decide))) hkp (fun k_ hk_ hs_ => (hk_.2) hs_)) (fun k_ hk_ => trivial)); have n2_ := Aside0.mk (hb); clear HO_11; clear HO_18; clear HB; clear HO_12; have HO_11 := n0_; have HO_18 := n1_; have HB := n2_; clear n0_ n1_ n2_; (try clear hb); (try clear hkp); (try clear A65); obtain ⟨Ao73, co73, eo73⟩ := Kd.R_slice HO_18.out; subst eo73) | ((with_reducible refine gate_callee (f := 34) rfl ?_); refine goesL_ (some 91) rfl rfl Tryd.func34 (by kernel_rfl) rfl #[.slice Ao73 t247.length co73] rfl (by (try simp only [List.map_toArray, List.map_cons, List.map_nil]); first | done | rfl | (simp only [List.length_drop, List.length_take]; rfl)) ?_; (with_reducible refine (chatelainelaw0_OverInts.calls kj15 (fun k_ => some k_ = (.slice Ao73 t247.length co73 : Value).ownBlock) (.slice Ao73 t247.length co73) t247  w _ ?side1 ?side2 A66.out).mono ?_); (case side1 => repeat (first | (with_reducible first | exact HB.out | apply below_alloc | apply pw_below_drewN | apply below_drew1) | exact HB.out)); (case side2 => exact Kd.R_tight rfl HO_18.out); rintro e w74 ⟨rfl, hb, hkp⟩; refine ⟨_, rfl, ?_⟩; have n0_ := Aside0.mk (Kd.R_mono (ok' := fun k_ => True) (Kd.R_keptB ((Kd.R_apart' HO_11.out (Kd.R_typed HO_18.out) (by decide))) hkp (fun k_ hk_ hs_ => (hk_.2) hs_)) (fun k_ hk_ => trivial)); have n1_ := Aside0.mk (hb); clear HO_11; clear HB; clear HO_18; have HO_11 := n0_; have HB := n1_; clear n0_ n1_; (try clear hb); (try clear hkp); (try clear A66); obtain ⟨Ao75, co75, eo75⟩ := Kd.R_slice HO_11.out; subst eo75) | (go_at_call 26; (with_reducible refine (chatelainelaw0_SameTenants.calls kj15 _ _ l0 _ _ y232 true _ ?side1 ?side2 ?side3 ?side4 A68.out).mono ?_); (case side1 => repeat (first | exact (Kd.C_below HR0.out HB.out) | (with_reducible refine Kd.C_alloc ?_ _) | (with_reducible refine Kd.C_drewN ?_ _) | (with_reducible refine Kd.C_drew ?_))); (case side2 => exact HC0.out); (case side3 => repeat (first | exact (Kd.R_reads' HO_11.out).2.2 | (with_reducible refine Kd.C_alloc ?_ _) | (with_reducible refine Kd.C_drewN ?_ _) | (with_reducible refine Kd.C_drew ?_))); (case side4 => exact (Kd.R_reads' HO_11.out).2.1); rintro e w' ⟨rfl, ⟨nd, rfl⟩⟩) | (go_at_call 22; (with_reducible refine (chatelainelaw16_awake.calls kj15  t261 _ ?side1 A70.out).mono ?_); (case side1 => exact pw_cell_below (by repeat (first | (with_reducible first | exact HB.out | apply below_alloc | apply pw_below_drewN | apply below_drew1) | exact HB.out)) HG.out); rintro e w76 ⟨rfl, hb⟩; have n0_ := Aside0.mk (Kd.R_below (by (with_reducible repeat (first | apply Kd.R_alloc | apply Kd.R_drewN | apply Kd.R_drew)); exact HO_11.out) hb); have n1_ := Aside0.mk (below_step (by repeat (first | (with_reducible first | exact HB.out | apply below_alloc | apply pw_below_drewN | apply below_drew1) | exact HB.out)) hb); clear HO_11; clear HB; have HO_11 := n0_; have HB := n1_; clear n0_ n1_; (try clear hb); (try clear hb2); (try clear hk); (try clear hi); (try clear A70)))
                  go_ret
                  exact ⟨by first | rfl | (simp [errW_none, errW_some] <;> rfl) | (simp [*, errW_none, errW_some] <;> rfl), by repeat (first | (with_reducible first | exact HB.out | apply below_alloc | apply pw_below_drewN | apply below_drew1) | exact HB.out)⟩
                · replace c69 := Bool.eq_false_iff.mpr c69
                  subst c69
                  have H1 : (some false) = some r := by rw [if_neg (show ¬ (false = true) by decide)] at H; exact H
                  clear H
                  have H := H1
                  clear H1
                  obtain rfl := Option.some.inj H
                  obtain ⟨Ao77, co77, eo77⟩ := Kd.R_slice HO_12.out
                  subst eo77
                  go_wp2_with (first | ((with_reducible refine gate_callee (f := 33) rfl ?_); refine goesL_ (some 89) rfl rfl Tryd.func33 (by kernel_rfl) rfl #[.slice Ao77 t235.length co77] rfl (by (try simp only [List.map_toArray, List.map_cons, List.map_nil]); first | done | rfl | (simp only [List.length_drop, List.length_take]; rfl)) ?_; (with_reducible refine (chatelainelaw0_OverTenants.calls kj15 (fun k_ => some k_ = (.slice Ao77 t235.length co77 : Value).ownBlock) (.slice Ao77 t235.length co77) t235  w _ ?side1 ?side2 A65.out).mono ?_); (case side1 => repeat (first | (with_reducible first | exact HB.out | apply below_alloc | apply pw_below_drewN | apply below_drew1) | exact HB.out)); (case side2 => exact Kd.R_tight rfl HO_12.out); rintro e w78 ⟨rfl, hb, hkp⟩; refine ⟨_, rfl, ?_⟩; have n0_ := Aside0.mk (Kd.R_mono (ok' := fun k_ => True) (Kd.R_keptB (HO_11.out) hkp (fun k_ hk_ hs_ => (hk_) hs_)) (fun k_ hk_ => trivial)); have n1_ := Aside0.mk (Kd.R_mono (ok' := fun k_ => True) (Kd.R_keptB ((Kd.R_apart' HO_18.out (Kd.R_typed HO_12.out) (by decide))) hkp (fun k_ hk_ hs_ => (hk_.2) hs_)) (fun k_ hk_ => trivial)); have n2_ := Aside0.mk (hb); clear HO_11; clear HO_18; clear HB; clear HO_12; have HO_11 := n0_; have HO_18 := n1_; have HB := n2_; clear n0_ n1_ n2_; (try clear hb); (try clear hkp); (try clear A65); obtain ⟨Ao79, co79, eo79⟩ := Kd.R_slice HO_18.out; subst eo79) | ((with_reducible refine gate_callee (f := 34) rfl ?_); refine goesL_ (some 91) rfl rfl Tryd.func34 (by kernel_rfl) rfl #[.slice Ao79 t247.length co79] rfl (by (try simp only [List.map_toArray, List.map_cons, List.map_nil]); first | done | rfl | (simp only [List.length_drop, List.length_take]; rfl)) ?_; (with_reducible refine (chatelainelaw0_OverInts.calls kj15 (fun k_ => some k_ = (.slice Ao79 t247.length co79 : Value).ownBlock) (.slice Ao79 t247.length co79) t247  w _ ?side1 ?side2 A66.out).mono ?_); (case side1 => repeat (first | (with_reducible first | exact HB.out | apply below_alloc | apply pw_below_drewN | apply below_drew1) | exact HB.out)); (case side2 => exact Kd.R_tight rfl HO_18.out); rintro e w80 ⟨rfl, hb, hkp⟩; refine ⟨_, rfl, ?_⟩; have n0_ := Aside0.mk (Kd.R_mono (ok' := fun k_ => True) (Kd.R_keptB ((Kd.R_apart' HO_11.out (Kd.R_typed HO_18.out) (by decide))) hkp (fun k_ hk_ hs_ => (hk_.2) hs_)) (fun k_ hk_ => trivial)); have n1_ := Aside0.mk (hb); clear HO_11; clear HB; clear HO_18; have HO_11 := n0_; have HB := n1_; clear n0_ n1_; (try clear hb); (try clear hkp); (try clear A66); obtain ⟨Ao81, co81, eo81⟩ := Kd.R_slice HO_11.out; subst eo81) | (go_at_call 26; (with_reducible refine (chatelainelaw0_SameTenants.calls kj15 _ _ l0 _ _ y232 false _ ?side1 ?side2 ?side3 ?side4 A68.out).mono ?_); (case side1 => repeat (first | exact (Kd.C_below HR0.out HB.out) | (with_reducible refine Kd.C_alloc ?_ _) | (with_reducible refine Kd.C_drewN ?_ _) | (with_reducible refine Kd.C_drew ?_))); (case side2 => exact HC0.out); (case side3 => repeat (first | exact (Kd.R_reads' HO_11.out).2.2 | (with_reducible refine Kd.C_alloc ?_ _) | (with_reducible refine Kd.C_drewN ?_ _) | (with_reducible refine Kd.C_drew ?_))); (case side4 => exact (Kd.R_reads' HO_11.out).2.1); rintro e w' ⟨rfl, ⟨nd, rfl⟩⟩))
                  go_ret
                  exact ⟨by first | rfl | (simp [errW_none, errW_some] <;> rfl) | (simp [*, errW_none, errW_some] <;> rfl), by repeat (first | (with_reducible first | exact HB.out | apply below_alloc | apply pw_below_drewN | apply below_drew1) | exact HB.out)⟩
              · replace c67 := Bool.eq_false_iff.mpr c67
                subst c67
                have H1 : (some false) = some r := by rw [if_neg (show ¬ (false = true) by decide)] at H; exact H
                clear H
                have H := H1
                clear H1
                obtain rfl := Option.some.inj H
                obtain ⟨Ao82, co82, eo82⟩ := Kd.R_slice HO_12.out
                subst eo82
                go_wp2_with (first | ((with_reducible refine gate_callee (f := 33) rfl ?_); refine goesL_ (some 89) rfl rfl Tryd.func33 (by kernel_rfl) rfl #[.slice Ao82 t235.length co82] rfl (by (try simp only [List.map_toArray, List.map_cons, List.map_nil]); first | done | rfl | (simp only [List.length_drop, List.length_take]; rfl)) ?_; (with_reducible refine (chatelainelaw0_OverTenants.calls kj15 (fun k_ => some k_ = (.slice Ao82 t235.length co82 : Value).ownBlock) (.slice Ao82 t235.length co82) t235  w _ ?side1 ?side2 A65.out).mono ?_); (case side1 => repeat (first | (with_reducible first | exact HB.out | apply below_alloc | apply pw_below_drewN | apply below_drew1) | exact HB.out)); (case side2 => exact Kd.R_tight rfl HO_12.out); rintro e w83 ⟨rfl, hb, hkp⟩; refine ⟨_, rfl, ?_⟩; have n0_ := Aside0.mk (Kd.R_mono (ok' := fun k_ => True) (Kd.R_keptB (HO_11.out) hkp (fun k_ hk_ hs_ => (hk_) hs_)) (fun k_ hk_ => trivial)); have n1_ := Aside0.mk (Kd.R_mono (ok' := fun k_ => True) (Kd.R_keptB ((Kd.R_apart' HO_18.out (Kd.R_typed HO_12.out) (by decide))) hkp (fun k_ hk_ hs_ => (hk_.2) hs_)) (fun k_ hk_ => trivial)); have n2_ := Aside0.mk (hb); clear HO_11; clear HO_18; clear HB; clear HO_12; have HO_11 := n0_; have HO_18 := n1_; have HB := n2_; clear n0_ n1_ n2_; (try clear hb); (try clear hkp); (try clear A65); obtain ⟨Ao84, co84, eo84⟩ := Kd.R_slice HO_18.out; subst eo84) | ((with_reducible refine gate_callee (f := 34) rfl ?_); refine goesL_ (some 91) rfl rfl Tryd.func34 (by kernel_rfl) rfl #[.slice Ao84 t247.length co84] rfl (by (try simp only [List.map_toArray, List.map_cons, List.map_nil]); first | done | rfl | (simp only [List.length_drop, List.length_take]; rfl)) ?_; (with_reducible refine (chatelainelaw0_OverInts.calls kj15 (fun k_ => some k_ = (.slice Ao84 t247.length co84 : Value).ownBlock) (.slice Ao84 t247.length co84) t247  w _ ?side1 ?side2 A66.out).mono ?_); (case side1 => repeat (first | (with_reducible first | exact HB.out | apply below_alloc | apply pw_below_drewN | apply below_drew1) | exact HB.out)); (case side2 => exact Kd.R_tight rfl HO_18.out); rintro e w85 ⟨rfl, hb, hkp⟩; refine ⟨_, rfl, ?_⟩; have n0_ := Aside0.mk (Kd.R_mono (ok' := fun k_ => True) (Kd.R_keptB ((Kd.R_apart' HO_11.out (Kd.R_typed HO_18.out) (by decide))) hkp (fun k_ hk_ hs_ => (hk_.2) hs_)) (fun k_ hk_ => trivial)); have n1_ := Aside0.mk (hb); clear HO_11; clear HB; clear HO_18; have HO_11 := n0_; have HB := n1_; clear n0_ n1_; (try clear hb); (try clear hkp); (try clear A66)))
                go_ret
                exact ⟨by first | rfl | (simp [errW_none, errW_some] <;> rfl) | (simp [*, errW_none, errW_some] <;> rfl), by repeat (first | (with_reducible first | exact HB.out | apply below_alloc | apply pw_below_drewN | apply below_drew1) | exact HB.out)⟩
        · rw [if_neg c12] at H
          exact absurd H (by simp)

def chatelainelaw16_TenantsTell.Q78 (x : S78) : Prop := ((Lit.int .i64 x.f0).wf = true) ∧ ((Lit.int .i64 x.f1).wf = true) ∧ (x.f2.size ≤ 140737488351232)
theorem chatelainelaw16_TenantsTell.opens78 : Opens Tryd.prog k78 chatelainelaw16_TenantsTell.Q78 78 := Opens.iso (fun x : S78 => (x.f0, x.f1, x.f2)) (fun p => (⟨p.1, p.2.1, p.2.2⟩ : S78)) (fun _ => rfl) (Opens.struct Tryd.underlying78 (by kernel_rfl) (show OpensL Tryd.prog _ _ [3, 3, 9] from (OpensL.cons (Opens.int Tryd.underlying3) (OpensL.cons (Opens.int Tryd.underlying3) (OpensL.one (Opens.string Tryd.underlying9))))))
/-- THE ONE PURE STATEMENT of chatelainelaw16_TenantsTell: yours. -/
def chatelainelaw16_TenantsTell.Pure : Prop := ∀ (l0 : List (S78)) (a1 : Int) (a2 : ByteArray) (a3 : Int) (a4 : Int), (l0.length ≤ maxLen ∧ l0.length * 32 ≤ 140737488351232 ∧ ∀ y0_ ∈ l0, chatelainelaw16_TenantsTell.Q78 y0_) → ((Lit.int .i64 a1).wf = true) → (a2.size ≤ 140737488351232) → ((Lit.int .i64 a3).wf = true) → ((Lit.int .i64 a4).wf = true) → ∃ k, chatelainelaw16_TenantsTell.f k l0 a1 a2 a3 a4 = some true
theorem chatelainelaw16_TenantsTell.walk (P_ : chatelainelaw16_TenantsTell.Pure) (A0 : Option Addr) (c0 : Nat) (l0 : List (S78)) (a1 : Int) (a2 : ByteArray) (a3 : Int) (a4 : Int) (w : World) (hr0 : Kd.C k78 w A0 l0.length l0) (hc0 : l0.length ≤ c0) (hg_ : w.cell? ⟨0, 0, none⟩ = some (.iface 117 (.agg #[.pointer (some ⟨1, 24, none⟩)]))) (hq0 : l0.length ≤ maxLen ∧ l0.length * 32 ≤ 140737488351232 ∧ ∀ y0_ ∈ l0, chatelainelaw16_TenantsTell.Q78 y0_) (hq1 : (Lit.int .i64 a1).wf = true) (hq2 : a2.size ≤ 140737488351232) (hq3 : (Lit.int .i64 a3).wf = true) (hq4 : (Lit.int .i64 a4).wf = true) :
    Calls Tryd.prog 8 #[.slice A0 l0.length c0, .int .i64 a1, .string a2, .int .i64 a3, .int .i64 a4] w fun e w' => e = .returned (.bool true) ∧ Below w.heap.size w w' := by
  obtain ⟨k, h⟩ := P_ l0 a1 a2 a3 a4 hq0 hq1 hq2 hq3 hq4
  refine (chatelainelaw16_TenantsTell.calls k A0 c0 l0 a1 a2 a3 a4 true w hr0 hc0 hg_ h).mono ?_
  rintro e w' ⟨rfl, hd⟩
  exact ⟨rfl, hd⟩

end Go.Proofs.YthliabidnboklaaDoor.PTen
