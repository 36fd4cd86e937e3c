-- By a program of this session (wip/myprint.sh) out of the translation; Lean checks it.
import Derived.Test.YthliabidnboklaaDoorPNonx0
import Derived.Test.YthliabidnboklaaDoorPNonx1
import Derived.Test.YthliabidnboklaaDoorPNonx2
import Derived.Test.YthliabidnboklaaDoorPNonx5
import Derived.Test.YthliabidnboklaaDoorPNonx7
namespace Go.Proofs.YthliabidnboklaaDoor.PNon
open Go.RowKit Go.Proofs.YthliabidnboklaaDoorW.PrintWords Go.Proofs.YthliabidnboklaaDoorW.PrintLast Go.Proofs.YthliabidnboklaaDoorW.PrintMore
attribute [local go_sem] max2_int min2_int max_two min_two max_three min_three max_four min_four   -- for this text's walks alone
set_option linter.unusedVariables false
set_option linter.unusedSimpArgs false

/-! ### chatelainelaw18_NoncesWindow: function 6 -/
def chatelainelaw18_NoncesWindow.f (k : Nat) (a0 : Int) (a1 : Int) (a2 : Int) (a3 : Int) : Option (Bool) := (nonces_Use.f k a0 a1 a2).bind fun bt178 => (if bt178.2.2.isEmpty = true then ((chatelainelaw0_Low.f a3 1000).bind fun t183 => ((nonces_Fresh.f k bt178.1 bt178.2.1 (wrap64 ((wrap64 (bt178.1 - 64)) - t183))).bind fun t184 => (if t184 = true then (some false) else ((nonces_Fresh.f k bt178.1 bt178.2.1 (wrap64 ((wrap64 (bt178.1 + 1)) + t183))).bind fun t185 => (if (t185 == (decide ((wrap64 ((wrap64 (bt178.1 + 1)) + t183)) ≤ 1099511627776))) = true then ((nonces_Fresh.f k bt178.1 bt178.2.1 a2).bind fun t186 => (if t186 = true then (some false) else ((nonces_Fresh.f k bt178.1 bt178.2.1 bt178.1).bind fun t187 => (if t187 = true then (some false) else ((chatelainelaw18_awake.f k).bind fun t188 => (some t188)))))) else (some false)))))) else (if bt178.1 = 0 then (if bt178.2.1 = 0 then ((nonces_Fresh.f k a0 a1 a2).bind fun t189 => (if t189 = true then (some false) else ((chatelainelaw18_awake.f k).bind fun t190 => (some t190)))) else (some false)) else (some false)))
theorem chatelainelaw18_NoncesWindow.mono : ∀ a0 a1 a2 a3 k, LeO (chatelainelaw18_NoncesWindow.f k a0 a1 a2 a3) (chatelainelaw18_NoncesWindow.f (k + 1) a0 a1 a2 a3) := by
  intro a0 a1 a2 a3 k
  unfold chatelainelaw18_NoncesWindow.f
  repeat' first
      | (with_reducible exact chatelainelaw18_awake.mono _)
      | (with_reducible exact nonces_Fresh.mono _ _ _ _)
      | (with_reducible exact nonces_Use.mono _ _ _ _)
      | (with_reducible exact LeO.refl _)
      | (with_reducible exact LeO.none _)
      | (with_reducible refine LeO.ite ?_ ?_)
      | (with_reducible refine LeO.bind ?_ (fun _ => ?_))
      | exact chatelainelaw18_awake.mono _
      | exact nonces_Fresh.mono _ _ _ _
      | exact nonces_Use.mono _ _ _ _
      | exact LeO.none _
      | refine LeO.ite ?_ ?_
      | refine LeO.bind ?_ (fun _ => ?_)
set_option maxHeartbeats 8000000 in
set_option maxRecDepth 100000 in
theorem chatelainelaw18_NoncesWindow.calls (k : Nat) (a0 : Int) (a1 : Int) (a2 : Int) (a3 : Int) (r : Bool) (w : World) (hg_ : w.cell? ⟨0, 0, none⟩ = some (.iface 117 (.agg #[.pointer (some ⟨1, 24, none⟩)]))) (h : chatelainelaw18_NoncesWindow.f k a0 a1 a2 a3 = some r) :
    Calls Tryd.prog 6 #[.int .i64 a0, .int .u64 a1, .int .i64 a2, .int .i64 a3] w fun e w' => e = .returned (.bool r) ∧ Below w.heap.size w w' := by
  have HG := Aside0.mk hg_
  clear hg_
  have HB := Aside0.mk (Below.refl w.heap.size w)
  have H : ((nonces_Use.f k a0 a1 a2).bind fun bt178 => (if bt178.2.2.isEmpty = true then ((chatelainelaw0_Low.f a3 1000).bind fun t183 => ((nonces_Fresh.f k bt178.1 bt178.2.1 (wrap64 ((wrap64 (bt178.1 - 64)) - t183))).bind fun t184 => (if t184 = true then (some false) else ((nonces_Fresh.f k bt178.1 bt178.2.1 (wrap64 ((wrap64 (bt178.1 + 1)) + t183))).bind fun t185 => (if (t185 == (decide ((wrap64 ((wrap64 (bt178.1 + 1)) + t183)) ≤ 1099511627776))) = true then ((nonces_Fresh.f k bt178.1 bt178.2.1 a2).bind fun t186 => (if t186 = true then (some false) else ((nonces_Fresh.f k bt178.1 bt178.2.1 bt178.1).bind fun t187 => (if t187 = true then (some false) else ((chatelainelaw18_awake.f k).bind fun t188 => (some t188)))))) else (some false)))))) else (if bt178.1 = 0 then (if bt178.2.1 = 0 then ((nonces_Fresh.f k a0 a1 a2).bind fun t189 => (if t189 = true then (some false) else ((chatelainelaw18_awake.f k).bind fun t190 => (some t190)))) else (some false)) else (some false)))) = some r := h
  clear h
  replace H := Option.bind_eq_some_iff.mp H
  obtain ⟨⟨t178, t179, t180⟩, A50, H⟩ := H
  replace H : (if t180.isEmpty = true then ((chatelainelaw0_Low.f a3 1000).bind fun t183 => ((nonces_Fresh.f k t178 t179 (wrap64 ((wrap64 (t178 - 64)) - t183))).bind fun t184 => (if t184 = true then (some false) else ((nonces_Fresh.f k t178 t179 (wrap64 ((wrap64 (t178 + 1)) + t183))).bind fun t185 => (if (t185 == (decide ((wrap64 ((wrap64 (t178 + 1)) + t183)) ≤ 1099511627776))) = true then ((nonces_Fresh.f k t178 t179 a2).bind fun t186 => (if t186 = true then (some false) else ((nonces_Fresh.f k t178 t179 t178).bind fun t187 => (if t187 = true then (some false) else ((chatelainelaw18_awake.f k).bind fun t188 => (some t188)))))) else (some false)))))) else (if t178 = 0 then (if t179 = 0 then ((nonces_Fresh.f k a0 a1 a2).bind fun t189 => (if t189 = true then (some false) else ((chatelainelaw18_awake.f k).bind fun t190 => (some t190)))) else (some false)) else (some false))) = some r := H
  have A5 := Aside0.mk A50
  clear A50
  by_cases c6 : t180.isEmpty = true
  · rw [if_pos c6] at H
    replace c6 := Aside0.mk c6
    replace H := Option.bind_eq_some_iff.mp H
    obtain ⟨t183, A70, H⟩ := H
    replace H : ((nonces_Fresh.f k t178 t179 (wrap64 ((wrap64 (t178 - 64)) - t183))).bind fun t184 => (if t184 = true then (some false) else ((nonces_Fresh.f k t178 t179 (wrap64 ((wrap64 (t178 + 1)) + t183))).bind fun t185 => (if (t185 == (decide ((wrap64 ((wrap64 (t178 + 1)) + t183)) ≤ 1099511627776))) = true then ((nonces_Fresh.f k t178 t179 a2).bind fun t186 => (if t186 = true then (some false) else ((nonces_Fresh.f k t178 t179 t178).bind fun t187 => (if t187 = true then (some false) else ((chatelainelaw18_awake.f k).bind fun t188 => (some t188)))))) else (some false))))) = some r := H
    have A7 := Aside0.mk A70
    clear A70
    replace H := Option.bind_eq_some_iff.mp H
    obtain ⟨t184, A80, H⟩ := H
    replace H : (if t184 = true then (some false) else ((nonces_Fresh.f k t178 t179 (wrap64 ((wrap64 (t178 + 1)) + t183))).bind fun t185 => (if (t185 == (decide ((wrap64 ((wrap64 (t178 + 1)) + t183)) ≤ 1099511627776))) = true then ((nonces_Fresh.f k t178 t179 a2).bind fun t186 => (if t186 = true then (some false) else ((nonces_Fresh.f k t178 t179 t178).bind fun t187 => (if t187 = true then (some false) else ((chatelainelaw18_awake.f k).bind fun t188 => (some t188)))))) else (some false)))) = some r := H
    have A8 := Aside0.mk A80
    clear A80
    by_cases c9 : t184 = true
    · subst c9
      have H1 : (some false) = some r := by rw [if_pos rfl] at H; exact H
      clear H
      have H := H1
      clear H1
      obtain rfl := Option.some.inj H
      go_enter Tryd.func6, Tryd.ntmps6
      go_wp2_with (first | ((with_reducible refine gate_callee (f := 12) rfl ?_); refine goesL_ (some 16) rfl rfl Tryd.func12 (by kernel_rfl) rfl #[.int .i64 a0, .int .u64 a1, .int .i64 a2] rfl (by (try simp only [List.map_toArray, List.map_cons, List.map_nil]); first | done | rfl | (simp only [List.length_drop, List.length_take]; rfl)) ?_; (with_reducible refine (nonces_Use.calls k a0 a1 a2 t178 t179 t180 _ A5.out).mono ?_); rintro e w10 ⟨v181, rfl, ho0, hb⟩; refine ⟨_, rfl, ?_⟩; have n0_ := Aside0.mk (Kd.R_lower ho0 (below_size (by repeat (first | (with_reducible first | exact HB.out | apply below_alloc | apply pw_below_drewN | apply below_drew1) | exact HB.out)))); have n1_ := Aside0.mk (below_step (by repeat (first | (with_reducible first | exact HB.out | apply below_alloc | apply pw_below_drewN | apply below_drew1) | exact HB.out)) hb); clear HB; have HO182 := n0_; have HB := n1_; clear n0_ n1_; (try clear hb); (try clear hb2); (try clear hk); (try clear hi); (try clear ho0); (try clear A5); obtain rfl := eRow_none HO182.out c6.out) | ((with_reducible refine gate_callee (f := 20) rfl ?_); refine goesL_ (some 39) rfl rfl Tryd.func20 (by kernel_rfl) rfl #[.int .i64 a3, .int .i64 1000] rfl (by (try simp only [List.map_toArray, List.map_cons, List.map_nil]); first | done | rfl | (simp only [List.length_drop, List.length_take]; rfl)) ?_; (with_reducible refine (chatelainelaw0_Low.calls a3 1000 t183 _ A7.out).mono ?_); rintro e w' ⟨rfl, ⟨nd, rfl⟩⟩; refine ⟨_, rfl, ?_⟩) | ((with_reducible refine gate_callee (f := 17) rfl ?_); refine goesL_ (some 46) rfl rfl Tryd.func17 (by kernel_rfl) rfl #[.int .i64 t178, .int .u64 t179, .int .i64 (wrap64 ((wrap64 (t178 - 64)) - t183))] rfl (by (try simp only [List.map_toArray, List.map_cons, List.map_nil]); first | done | rfl | (simp only [List.length_drop, List.length_take]; rfl)) ?_; (with_reducible refine (nonces_Fresh.calls k t178 t179 (wrap64 ((wrap64 (t178 - 64)) - t183)) true _ A8.out).mono ?_); rintro e w' ⟨rfl, ⟨nd, rfl⟩⟩; refine ⟨_, rfl, ?_⟩))
      go_ret
      exact ⟨by first | rfl | (simp [errW_none, errW_some] <;> rfl) | (simp [*, errW_none, errW_some] <;> rfl), by repeat (first | (with_reducible first | exact HB.out | apply below_alloc | apply pw_below_drewN | apply below_drew1) | exact HB.out)⟩
    · replace c9 := Bool.eq_false_iff.mpr c9
      subst c9
      have H1 : ((nonces_Fresh.f k t178 t179 (wrap64 ((wrap64 (t178 + 1)) + t183))).bind fun t185 => (if (t185 == (decide ((wrap64 ((wrap64 (t178 + 1)) + t183)) ≤ 1099511627776))) = true then ((nonces_Fresh.f k t178 t179 a2).bind fun t186 => (if t186 = true then (some false) else ((nonces_Fresh.f k t178 t179 t178).bind fun t187 => (if t187 = true then (some false) else ((chatelainelaw18_awake.f k).bind fun t188 => (some t188)))))) else (some false))) = some r := by rw [if_neg (show ¬ (false = true) by decide)] at H; exact H
      clear H
      have H := H1
      clear H1
      replace H := Option.bind_eq_some_iff.mp H
      obtain ⟨t185, A110, H⟩ := H
      replace H : (if (t185 == (decide ((wrap64 ((wrap64 (t178 + 1)) + t183)) ≤ 1099511627776))) = true then ((nonces_Fresh.f k t178 t179 a2).bind fun t186 => (if t186 = true then (some false) else ((nonces_Fresh.f k t178 t179 t178).bind fun t187 => (if t187 = true then (some false) else ((chatelainelaw18_awake.f k).bind fun t188 => (some t188)))))) else (some false)) = some r := H
      have A11 := Aside0.mk A110
      clear A110
      by_cases c12 : (t185 == (decide ((wrap64 ((wrap64 (t178 + 1)) + t183)) ≤ 1099511627776))) = true
      · rw [if_pos c12] at H
        have c12b0 : (t185 == (decide ((wrap64 ((wrap64 (t178 + 1)) + t183)) ≤ 1099511627776))) = true := c12
        (try (have c12b1 : decide (t185 = (decide ((wrap64 ((wrap64 (t178 + 1)) + t183)) ≤ 1099511627776))) = true := by simpa using c12))
        (try (have c12b2 : (t185 == (decide ((wrap64 ((wrap64 (t178 + 1)) + t183)) ≤ 1099511627776))) = true := by simpa using c12))
        clear c12
        replace H := Option.bind_eq_some_iff.mp H
        obtain ⟨t186, A130, H⟩ := H
        replace H : (if t186 = true then (some false) else ((nonces_Fresh.f k t178 t179 t178).bind fun t187 => (if t187 = true then (some false) else ((chatelainelaw18_awake.f k).bind fun t188 => (some t188))))) = some r := H
        have A13 := Aside0.mk A130
        clear A130
        by_cases c14 : t186 = true
        · subst c14
          have H1 : (some false) = some r := by rw [if_pos rfl] at H; exact H
          clear H
          have H := H1
          clear H1
          obtain rfl := Option.some.inj H
          go_enter Tryd.func6, Tryd.ntmps6
          go_wp2_with (first | ((with_reducible refine gate_callee (f := 12) rfl ?_); refine goesL_ (some 16) rfl rfl Tryd.func12 (by kernel_rfl) rfl #[.int .i64 a0, .int .u64 a1, .int .i64 a2] rfl (by (try simp only [List.map_toArray, List.map_cons, List.map_nil]); first | done | rfl | (simp only [List.length_drop, List.length_take]; rfl)) ?_; (with_reducible refine (nonces_Use.calls k a0 a1 a2 t178 t179 t180 _ A5.out).mono ?_); rintro e w15 ⟨v181, rfl, ho0, hb⟩; refine ⟨_, rfl, ?_⟩; have n0_ := Aside0.mk (Kd.R_lower ho0 (below_size (by repeat (first | (with_reducible first | exact HB.out | apply below_alloc | apply pw_below_drewN | apply below_drew1) | exact HB.out)))); have n1_ := Aside0.mk (below_step (by repeat (first | (with_reducible first | exact HB.out | apply below_alloc | apply pw_below_drewN | apply below_drew1) | exact HB.out)) hb); clear HB; have HO182 := n0_; have HB := n1_; clear n0_ n1_; (try clear hb); (try clear hb2); (try clear hk); (try clear hi); (try clear ho0); (try clear A5); obtain rfl := eRow_none HO182.out c6.out) | ((with_reducible refine gate_callee (f := 20) rfl ?_); refine goesL_ (some 39) rfl rfl Tryd.func20 (by kernel_rfl) rfl #[.int .i64 a3, .int .i64 1000] rfl (by (try simp only [List.map_toArray, List.map_cons, List.map_nil]); first | done | rfl | (simp only [List.length_drop, List.length_take]; rfl)) ?_; (with_reducible refine (chatelainelaw0_Low.calls a3 1000 t183 _ A7.out).mono ?_); rintro e w' ⟨rfl, ⟨nd, rfl⟩⟩; refine ⟨_, rfl, ?_⟩) | ((with_reducible refine gate_callee (f := 17) rfl ?_); refine goesL_ (some 46) rfl rfl Tryd.func17 (by kernel_rfl) rfl #[.int .i64 t178, .int .u64 t179, .int .i64 (wrap64 ((wrap64 (t178 - 64)) - t183))] rfl (by (try simp only [List.map_toArray, List.map_cons, List.map_nil]); first | done | rfl | (simp only [List.length_drop, List.length_take]; rfl)) ?_; (with_reducible refine (nonces_Fresh.calls k t178 t179 (wrap64 ((wrap64 (t178 - 64)) - t183)) false _ A8.out).mono ?_); rintro e w' ⟨rfl, ⟨nd, rfl⟩⟩; refine ⟨_, rfl, ?_⟩) | (go_at_call 17; (with_reducible refine (nonces_Fresh.calls k t178 t179 (wrap64 ((wrap64 (t178 + 1)) + t183)) t185 _ A11.out).mono ?_); rintro e w' ⟨rfl, ⟨nd, rfl⟩⟩) | (go_at_call 17; (with_reducible refine (nonces_Fresh.calls k t178 t179 a2 true _ A13.out).mono ?_); rintro e w' ⟨rfl, ⟨nd, rfl⟩⟩))
          go_ret
          exact ⟨by first | rfl | (simp [errW_none, errW_some] <;> rfl) | (simp [*, errW_none, errW_some] <;> rfl), by repeat (first | (with_reducible first | exact HB.out | apply below_alloc | apply pw_below_drewN | apply below_drew1) | exact HB.out)⟩
        · replace c14 := Bool.eq_false_iff.mpr c14
          subst c14
          have H1 : ((nonces_Fresh.f k t178 t179 t178).bind fun t187 => (if t187 = true then (some false) else ((chatelainelaw18_awake.f k).bind fun t188 => (some t188)))) = some r := by rw [if_neg (show ¬ (false = true) by decide)] at H; exact H
          clear H
          have H := H1
          clear H1
          replace H := Option.bind_eq_some_iff.mp H
          obtain ⟨t187, A160, H⟩ := H
          replace H : (if t187 = true then (some false) else ((chatelainelaw18_awake.f k).bind fun t188 => (some t188))) = some r := H
          have A16 := Aside0.mk A160
          clear A160
          by_cases c17 : t187 = true
          · subst c17
            have H1 : (some false) = some r := by rw [if_pos rfl] at H; exact H
            clear H
            have H := H1
            clear H1
            obtain rfl := Option.some.inj H
            go_enter Tryd.func6, Tryd.ntmps6
            go_wp2_with (first | ((with_reducible refine gate_callee (f := 12) rfl ?_); refine goesL_ (some 16) rfl rfl Tryd.func12 (by kernel_rfl) rfl #[.int .i64 a0, .int .u64 a1, .int .i64 a2] rfl (by (try simp only [List.map_toArray, List.map_cons, List.map_nil]); first | done | rfl | (simp only [List.length_drop, List.length_take]; rfl)) ?_; (with_reducible refine (nonces_Use.calls k a0 a1 a2 t178 t179 t180 _ A5.out).mono ?_); rintro e w18 ⟨v181, rfl, ho0, hb⟩; refine ⟨_, rfl, ?_⟩; have n0_ := Aside0.mk (Kd.R_lower ho0 (below_size (by repeat (first | (with_reducible first | exact HB.out | apply below_alloc | apply pw_below_drewN | apply below_drew1) | exact HB.out)))); have n1_ := Aside0.mk (below_step (by repeat (first | (with_reducible first | exact HB.out | apply below_alloc | apply pw_below_drewN | apply below_drew1) | exact HB.out)) hb); clear HB; have HO182 := n0_; have HB := n1_; clear n0_ n1_; (try clear hb); (try clear hb2); (try clear hk); (try clear hi); (try clear ho0); (try clear A5); obtain rfl := eRow_none HO182.out c6.out) | ((with_reducible refine gate_callee (f := 20) rfl ?_); refine goesL_ (some 39) rfl rfl Tryd.func20 (by kernel_rfl) rfl #[.int .i64 a3, .int .i64 1000] rfl (by (try simp only [List.map_toArray, List.map_cons, List.map_nil]); first | done | rfl | (simp only [List.length_drop, List.length_take]; rfl)) ?_; (with_reducible refine (chatelainelaw0_Low.calls a3 1000 t183 _ A7.out).mono ?_); rintro e w' ⟨rfl, ⟨nd, rfl⟩⟩; refine ⟨_, rfl, ?_⟩) | ((with_reducible refine gate_callee (f := 17) rfl ?_); refine goesL_ (some 46) rfl rfl Tryd.func17 (by kernel_rfl) rfl #[.int .i64 t178, .int .u64 t179, .int .i64 (wrap64 ((wrap64 (t178 - 64)) - t183))] rfl (by (try simp only [List.map_toArray, List.map_cons, List.map_nil]); first | done | rfl | (simp only [List.length_drop, List.length_take]; rfl)) ?_; (with_reducible refine (nonces_Fresh.calls k t178 t179 (wrap64 ((wrap64 (t178 - 64)) - t183)) false _ A8.out).mono ?_); rintro e w' ⟨rfl, ⟨nd, rfl⟩⟩; refine ⟨_, rfl, ?_⟩) | (go_at_call 17; (with_reducible refine (nonces_Fresh.calls k t178 t179 (wrap64 ((wrap64 (t178 + 1)) + t183)) t185 _ A11.out).mono ?_); rintro e w' ⟨rfl, ⟨nd, rfl⟩⟩) | (go_at_call 17; (with_reducible refine (nonces_Fresh.calls k t178 t179 a2 false _ A13.out).mono ?_); rintro e w' ⟨rfl, ⟨nd, rfl⟩⟩) | (go_at_call 17; (with_reducible refine (nonces_Fresh.calls k t178 t179 t178 true _ A16.out).mono ?_); rintro e w' ⟨rfl, ⟨nd, rfl⟩⟩))
            go_ret
            exact ⟨by first | rfl | (simp [errW_none, errW_some] <;> rfl) | (simp [*, errW_none, errW_some] <;> rfl), by repeat (first | (with_reducible first | exact HB.out | apply below_alloc | apply pw_below_drewN | apply below_drew1) | exact HB.out)⟩
          · replace c17 := Bool.eq_false_iff.mpr c17
            subst c17
            have H1 : ((chatelainelaw18_awake.f k).bind fun t188 => (some t188)) = some r := by rw [if_neg (show ¬ (false = true) by decide)] at H; exact H
            clear H
            have H := H1
            clear H1
            replace H := Option.bind_eq_some_iff.mp H
            obtain ⟨t188, A190, H⟩ := H
            replace H : (some t188) = some r := H
            have A19 := Aside0.mk A190
            clear A190
            obtain rfl := Option.some.inj H
            go_enter Tryd.func6, Tryd.ntmps6
            go_wp2_with (first | ((with_reducible refine gate_callee (f := 12) rfl ?_); refine goesL_ (some 16) rfl rfl Tryd.func12 (by kernel_rfl) rfl #[.int .i64 a0, .int .u64 a1, .int .i64 a2] rfl (by (try simp only [List.map_toArray, List.map_cons, List.map_nil]); first | done | rfl | (simp only [List.length_drop, List.length_take]; rfl)) ?_; (with_reducible refine (nonces_Use.calls k a0 a1 a2 t178 t179 t180 _ A5.out).mono ?_); rintro e w20 ⟨v181, rfl, ho0, hb⟩; refine ⟨_, rfl, ?_⟩; have n0_ := Aside0.mk (Kd.R_lower ho0 (below_size (by repeat (first | (with_reducible first | exact HB.out | apply below_alloc | apply pw_below_drewN | apply below_drew1) | exact HB.out)))); have n1_ := Aside0.mk (below_step (by repeat (first | (with_reducible first | exact HB.out | apply below_alloc | apply pw_below_drewN | apply below_drew1) | exact HB.out)) hb); clear HB; have HO182 := n0_; have HB := n1_; clear n0_ n1_; (try clear hb); (try clear hb2); (try clear hk); (try clear hi); (try clear ho0); (try clear A5); obtain rfl := eRow_none HO182.out c6.out) | ((with_reducible refine gate_callee (f := 20) rfl ?_); refine goesL_ (some 39) rfl rfl Tryd.func20 (by kernel_rfl) rfl #[.int .i64 a3, .int .i64 1000] rfl (by (try simp only [List.map_toArray, List.map_cons, List.map_nil]); first | done | rfl | (simp only [List.length_drop, List.length_take]; rfl)) ?_; (with_reducible refine (chatelainelaw0_Low.calls a3 1000 t183 _ A7.out).mono ?_); rintro e w' ⟨rfl, ⟨nd, rfl⟩⟩; refine ⟨_, rfl, ?_⟩) | ((with_reducible refine gate_callee (f := 17) rfl ?_); refine goesL_ (some 46) rfl rfl Tryd.func17 (by kernel_rfl) rfl #[.int .i64 t178, .int .u64 t179, .int .i64 (wrap64 ((wrap64 (t178 - 64)) - t183))] rfl (by (try simp only [List.map_toArray, List.map_cons, List.map_nil]); first | done | rfl | (simp only [List.length_drop, List.length_take]; rfl)) ?_; (with_reducible refine (nonces_Fresh.calls k t178 t179 (wrap64 ((wrap64 (t178 - 64)) - t183)) false _ A8.out).mono ?_); rintro e w' ⟨rfl, ⟨nd, rfl⟩⟩; refine ⟨_, rfl, ?_⟩) | (go_at_call 17; (with_reducible refine (nonces_Fresh.calls k t178 t179 (wrap64 ((wrap64 (t178 + 1)) + t183)) t185 _ A11.out).mono ?_); rintro e w' ⟨rfl, ⟨nd, rfl⟩⟩) | (go_at_call 17; (with_reducible refine (nonces_Fresh.calls k t178 t179 a2 false _ A13.out).mono ?_); rintro e w' ⟨rfl, ⟨nd, rfl⟩⟩) | (go_at_call 17; (with_reducible refine (nonces_Fresh.calls k t178 t179 t178 false _ A16.out).mono ?_); rintro e w' ⟨rfl, ⟨nd, rfl⟩⟩) | (go_at_call 19; (with_reducible refine (chatelainelaw18_awake.calls k  t188 _ ?side1 A19.out).mono ?_); (case side1 => exact pw_cell_below (by repeat (first | (with_reducible first | exact HB.out | apply below_alloc | apply pw_below_drewN | apply below_drew1) | exact HB.out)) HG.out); rintro e w21 ⟨rfl, hb⟩; have n0_ := Aside0.mk (Kd.R_below (by (with_reducible repeat (first | apply Kd.R_alloc | apply Kd.R_drewN | apply Kd.R_drew)); exact HO182.out) hb); have n1_ := Aside0.mk (below_step (by repeat (first | (with_reducible first | exact HB.out | apply below_alloc | apply pw_below_drewN | apply below_drew1) | exact HB.out)) hb); clear HO182; clear HB; have HO182 := n0_; have HB := n1_; clear n0_ n1_; (try clear hb); (try clear hb2); (try clear hk); (try clear hi); (try clear A19)))
            go_ret
            exact ⟨by first | rfl | (simp [errW_none, errW_some] <;> rfl) | (simp [*, errW_none, errW_some] <;> rfl), by repeat (first | (with_reducible first | exact HB.out | apply below_alloc | apply pw_below_drewN | apply below_drew1) | exact HB.out)⟩
      · rw [if_neg c12] at H
        have c12b0 : (t185 == (decide ((wrap64 ((wrap64 (t178 + 1)) + t183)) ≤ 1099511627776))) = false := by simpa using c12
        (try (have c12b1 : decide (t185 = (decide ((wrap64 ((wrap64 (t178 + 1)) + t183)) ≤ 1099511627776))) = false := by simpa using c12))
        (try (have c12b2 : (t185 == (decide ((wrap64 ((wrap64 (t178 + 1)) + t183)) ≤ 1099511627776))) = false := by simpa using c12))
        (try (have c12b3 : ¬ (t185 = (decide ((wrap64 ((wrap64 (t178 + 1)) + t183)) ≤ 1099511627776))) := by simpa using c12))
        clear c12
        obtain rfl := Option.some.inj H
        go_enter Tryd.func6, Tryd.ntmps6
        go_wp2_with (first | ((with_reducible refine gate_callee (f := 12) rfl ?_); refine goesL_ (some 16) rfl rfl Tryd.func12 (by kernel_rfl) rfl #[.int .i64 a0, .int .u64 a1, .int .i64 a2] rfl (by (try simp only [List.map_toArray, List.map_cons, List.map_nil]); first | done | rfl | (simp only [List.length_drop, List.length_take]; rfl)) ?_; (with_reducible refine (nonces_Use.calls k a0 a1 a2 t178 t179 t180 _ A5.out).mono ?_); rintro e w22 ⟨v181, rfl, ho0, hb⟩; refine ⟨_, rfl, ?_⟩; have n0_ := Aside0.mk (Kd.R_lower ho0 (below_size (by repeat (first | (with_reducible first | exact HB.out | apply below_alloc | apply pw_below_drewN | apply below_drew1) | exact HB.out)))); have n1_ := Aside0.mk (below_step (by repeat (first | (with_reducible first | exact HB.out | apply below_alloc | apply pw_below_drewN | apply below_drew1) | exact HB.out)) hb); clear HB; have HO182 := n0_; have HB := n1_; clear n0_ n1_; (try clear hb); (try clear hb2); (try clear hk); (try clear hi); (try clear ho0); (try clear A5); obtain rfl := eRow_none HO182.out c6.out) | ((with_reducible refine gate_callee (f := 20) rfl ?_); refine goesL_ (some 39) rfl rfl Tryd.func20 (by kernel_rfl) rfl #[.int .i64 a3, .int .i64 1000] rfl (by (try simp only [List.map_toArray, List.map_cons, List.map_nil]); first | done | rfl | (simp only [List.length_drop, List.length_take]; rfl)) ?_; (with_reducible refine (chatelainelaw0_Low.calls a3 1000 t183 _ A7.out).mono ?_); rintro e w' ⟨rfl, ⟨nd, rfl⟩⟩; refine ⟨_, rfl, ?_⟩) | ((with_reducible refine gate_callee (f := 17) rfl ?_); refine goesL_ (some 46) rfl rfl Tryd.func17 (by kernel_rfl) rfl #[.int .i64 t178, .int .u64 t179, .int .i64 (wrap64 ((wrap64 (t178 - 64)) - t183))] rfl (by (try simp only [List.map_toArray, List.map_cons, List.map_nil]); first | done | rfl | (simp only [List.length_drop, List.length_take]; rfl)) ?_; (with_reducible refine (nonces_Fresh.calls k t178 t179 (wrap64 ((wrap64 (t178 - 64)) - t183)) false _ A8.out).mono ?_); rintro e w' ⟨rfl, ⟨nd, rfl⟩⟩; refine ⟨_, rfl, ?_⟩) | (go_at_call 17; (with_reducible refine (nonces_Fresh.calls k t178 t179 (wrap64 ((wrap64 (t178 + 1)) + t183)) t185 _ A11.out).mono ?_); rintro e w' ⟨rfl, ⟨nd, rfl⟩⟩))
        go_ret
        exact ⟨by first | rfl | (simp [errW_none, errW_some] <;> rfl) | (simp [*, errW_none, errW_some] <;> rfl), by repeat (first | (with_reducible first | exact HB.out | apply below_alloc | apply pw_below_drewN | apply below_drew1) | exact HB.out)⟩
  · rw [if_neg c6] at H
    replace c6 := Aside0.mk c6
    by_cases c23 : t178 = 0
    · rw [if_pos c23] at H
      have c23b0 : (t178 == 0) = true := beq_iff_eq.mpr c23
      have c23b1 : (t178 != 0) = false := bne_eq_false_iff_eq.mpr c23
      clear c23
      by_cases c24 : t179 = 0
      · rw [if_pos c24] at H
        have c24b0 : (t179 == 0) = true := beq_iff_eq.mpr c24
        have c24b1 : (t179 != 0) = false := bne_eq_false_iff_eq.mpr c24
        clear c24
        replace H := Option.bind_eq_some_iff.mp H
        obtain ⟨t189, A250, H⟩ := H
        replace H : (if t189 = true then (some false) else ((chatelainelaw18_awake.f k).bind fun t190 => (some t190))) = some r := H
        have A25 := Aside0.mk A250
        clear A250
        by_cases c26 : t189 = true
        · subst c26
          have H1 : (some false) = some r := by rw [if_pos rfl] at H; exact H
          clear H
          have H := H1
          clear H1
          obtain rfl := Option.some.inj H
          go_enter Tryd.func6, Tryd.ntmps6
          go_wp2_with (first | ((with_reducible refine gate_callee (f := 12) rfl ?_); refine goesL_ (some 16) rfl rfl Tryd.func12 (by kernel_rfl) rfl #[.int .i64 a0, .int .u64 a1, .int .i64 a2] rfl (by (try simp only [List.map_toArray, List.map_cons, List.map_nil]); first | done | rfl | (simp only [List.length_drop, List.length_take]; rfl)) ?_; (with_reducible refine (nonces_Use.calls k a0 a1 a2 t178 t179 t180 _ A5.out).mono ?_); rintro e w27 ⟨v181, rfl, ho0, hb⟩; refine ⟨_, rfl, ?_⟩; have n0_ := Aside0.mk (Kd.R_lower ho0 (below_size (by repeat (first | (with_reducible first | exact HB.out | apply below_alloc | apply pw_below_drewN | apply below_drew1) | exact HB.out)))); have n1_ := Aside0.mk (below_step (by repeat (first | (with_reducible first | exact HB.out | apply below_alloc | apply pw_below_drewN | apply below_drew1) | exact HB.out)) hb); clear HB; have HO182 := n0_; have HB := n1_; clear n0_ n1_; (try clear hb); (try clear hb2); (try clear hk); (try clear hi); (try clear ho0); (try clear A5); obtain ⟨gec6, rfl⟩ := eRow_some HO182.out c6.out) | (go_at_call 17; (with_reducible refine (nonces_Fresh.calls k a0 a1 a2 true _ A25.out).mono ?_); rintro e w' ⟨rfl, ⟨nd, rfl⟩⟩))
          go_ret
          exact ⟨by first | rfl | (simp [errW_none, errW_some] <;> rfl) | (simp [*, errW_none, errW_some] <;> rfl), by repeat (first | (with_reducible first | exact HB.out | apply below_alloc | apply pw_below_drewN | apply below_drew1) | exact HB.out)⟩
        · replace c26 := Bool.eq_false_iff.mpr c26
          subst c26
          have H1 : ((chatelainelaw18_awake.f k).bind fun t190 => (some t190)) = some r := by rw [if_neg (show ¬ (false = true) by decide)] at H; exact H
          clear H
          have H := H1
          clear H1
          replace H := Option.bind_eq_some_iff.mp H
          obtain ⟨t190, A280, H⟩ := H
          replace H : (some t190) = some r := H
          have A28 := Aside0.mk A280
          clear A280
          obtain rfl := Option.some.inj H
          go_enter Tryd.func6, Tryd.ntmps6
          go_wp2_with (first | ((with_reducible refine gate_callee (f := 12) rfl ?_); refine goesL_ (some 16) rfl rfl Tryd.func12 (by kernel_rfl) rfl #[.int .i64 a0, .int .u64 a1, .int .i64 a2] rfl (by (try simp only [List.map_toArray, List.map_cons, List.map_nil]); first | done | rfl | (simp only [List.length_drop, List.length_take]; rfl)) ?_; (with_reducible refine (nonces_Use.calls k a0 a1 a2 t178 t179 t180 _ A5.out).mono ?_); rintro e w29 ⟨v181, rfl, ho0, hb⟩; refine ⟨_, rfl, ?_⟩; have n0_ := Aside0.mk (Kd.R_lower ho0 (below_size (by repeat (first | (with_reducible first | exact HB.out | apply below_alloc | apply pw_below_drewN | apply below_drew1) | exact HB.out)))); have n1_ := Aside0.mk (below_step (by repeat (first | (with_reducible first | exact HB.out | apply below_alloc | apply pw_below_drewN | apply below_drew1) | exact HB.out)) hb); clear HB; have HO182 := n0_; have HB := n1_; clear n0_ n1_; (try clear hb); (try clear hb2); (try clear hk); (try clear hi); (try clear ho0); (try clear A5); obtain ⟨gec6, rfl⟩ := eRow_some HO182.out c6.out) | (go_at_call 17; (with_reducible refine (nonces_Fresh.calls k a0 a1 a2 false _ A25.out).mono ?_); rintro e w' ⟨rfl, ⟨nd, rfl⟩⟩) | (go_at_call 19; (with_reducible refine (chatelainelaw18_awake.calls k  t190 _ ?side1 A28.out).mono ?_); (case side1 => exact pw_cell_below (by repeat (first | (with_reducible first | exact HB.out | apply below_alloc | apply pw_below_drewN | apply below_drew1) | exact HB.out)) HG.out); rintro e w30 ⟨rfl, hb⟩; have n0_ := Aside0.mk (Kd.R_below (by (with_reducible repeat (first | apply Kd.R_alloc | apply Kd.R_drewN | apply Kd.R_drew)); exact HO182.out) hb); have n1_ := Aside0.mk (below_step (by repeat (first | (with_reducible first | exact HB.out | apply below_alloc | apply pw_below_drewN | apply below_drew1) | exact HB.out)) hb); clear HO182; clear HB; have HO182 := n0_; have HB := n1_; clear n0_ n1_; (try clear hb); (try clear hb2); (try clear hk); (try clear hi); (try clear A28)))
          go_ret
          exact ⟨by first | rfl | (simp [errW_none, errW_some] <;> rfl) | (simp [*, errW_none, errW_some] <;> rfl), by repeat (first | (with_reducible first | exact HB.out | apply below_alloc | apply pw_below_drewN | apply below_drew1) | exact HB.out)⟩
      · rw [if_neg c24] at H
        have c24b0 : (t179 == 0) = false := beq_eq_false_iff_ne.mpr c24
        have c24b1 : (t179 != 0) = true := bne_iff_ne.mpr c24
        obtain rfl := Option.some.inj H
        go_enter Tryd.func6, Tryd.ntmps6
        go_wp2_with (first | ((with_reducible refine gate_callee (f := 12) rfl ?_); refine goesL_ (some 16) rfl rfl Tryd.func12 (by kernel_rfl) rfl #[.int .i64 a0, .int .u64 a1, .int .i64 a2] rfl (by (try simp only [List.map_toArray, List.map_cons, List.map_nil]); first | done | rfl | (simp only [List.length_drop, List.length_take]; rfl)) ?_; (with_reducible refine (nonces_Use.calls k a0 a1 a2 t178 t179 t180 _ A5.out).mono ?_); rintro e w31 ⟨v181, rfl, ho0, hb⟩; refine ⟨_, rfl, ?_⟩; have n0_ := Aside0.mk (Kd.R_lower ho0 (below_size (by repeat (first | (with_reducible first | exact HB.out | apply below_alloc | apply pw_below_drewN | apply below_drew1) | exact HB.out)))); have n1_ := Aside0.mk (below_step (by repeat (first | (with_reducible first | exact HB.out | apply below_alloc | apply pw_below_drewN | apply below_drew1) | exact HB.out)) hb); clear HB; have HO182 := n0_; have HB := n1_; clear n0_ n1_; (try clear hb); (try clear hb2); (try clear hk); (try clear hi); (try clear ho0); (try clear A5); obtain ⟨gec6, rfl⟩ := eRow_some HO182.out c6.out))
        go_ret
        exact ⟨by first | rfl | (simp [errW_none, errW_some] <;> rfl) | (simp [*, errW_none, errW_some] <;> rfl), by repeat (first | (with_reducible first | exact HB.out | apply below_alloc | apply pw_below_drewN | apply below_drew1) | exact HB.out)⟩
    · rw [if_neg c23] at H
      have c23b0 : (t178 == 0) = false := beq_eq_false_iff_ne.mpr c23
      have c23b1 : (t178 != 0) = true := bne_iff_ne.mpr c23
      obtain rfl := Option.some.inj H
      go_enter Tryd.func6, Tryd.ntmps6
      go_wp2_with (first | ((with_reducible refine gate_callee (f := 12) rfl ?_); refine goesL_ (some 16) rfl rfl Tryd.func12 (by kernel_rfl) rfl #[.int .i64 a0, .int .u64 a1, .int .i64 a2] rfl (by (try simp only [List.map_toArray, List.map_cons, List.map_nil]); first | done | rfl | (simp only [List.length_drop, List.length_take]; rfl)) ?_; (with_reducible refine (nonces_Use.calls k a0 a1 a2 t178 t179 t180 _ A5.out).mono ?_); rintro e w32 ⟨v181, rfl, ho0, hb⟩; refine ⟨_, rfl, ?_⟩; have n0_ := Aside0.mk (Kd.R_lower ho0 (below_size (by repeat (first | (with_reducible first | exact HB.out | apply below_alloc | apply pw_below_drewN | apply below_drew1) | exact HB.out)))); have n1_ := Aside0.mk (below_step (by repeat (first | (with_reducible first | exact HB.out | apply below_alloc | apply pw_below_drewN | apply below_drew1) | exact HB.out)) hb); clear HB; have HO182 := n0_; have HB := n1_; clear n0_ n1_; (try clear hb); (try clear hb2); (try clear hk); (try clear hi); (try clear ho0); (try clear A5); obtain ⟨gec6, rfl⟩ := eRow_some HO182.out c6.out))
      go_ret
      exact ⟨by first | rfl | (simp [errW_none, errW_some] <;> rfl) | (simp [*, errW_none, errW_some] <;> rfl), by repeat (first | (with_reducible first | exact HB.out | apply below_alloc | apply pw_below_drewN | apply below_drew1) | exact HB.out)⟩

/-- THE ONE PURE STATEMENT of chatelainelaw18_NoncesWindow: yours. -/
def chatelainelaw18_NoncesWindow.Pure : Prop := ∀ (a0 : Int) (a1 : Int) (a2 : Int) (a3 : Int), (Lit.int .i64 a0).wf = true → (Lit.int .u64 a1).wf = true → (Lit.int .i64 a2).wf = true → (Lit.int .i64 a3).wf = true → ∃ k, chatelainelaw18_NoncesWindow.f k a0 a1 a2 a3 = some true
theorem chatelainelaw18_NoncesWindow.walk (P : chatelainelaw18_NoncesWindow.Pure) (a0 : Int) (a1 : Int) (a2 : Int) (a3 : Int) (w : World) (w0 : (Lit.int .i64 a0).wf = true) (w1 : (Lit.int .u64 a1).wf = true) (w2 : (Lit.int .i64 a2).wf = true) (w3 : (Lit.int .i64 a3).wf = true) (hg_ : w.cell? ⟨0, 0, none⟩ = some (.iface 117 (.agg #[.pointer (some ⟨1, 24, none⟩)]))) :
    Calls Tryd.prog 6 #[.int .i64 a0, .int .u64 a1, .int .i64 a2, .int .i64 a3] w fun e w' => e = .returned (.bool true) ∧ Below w.heap.size w w' := by
  obtain ⟨k, h⟩ := P a0 a1 a2 a3 w0 w1 w2 w3
  refine (chatelainelaw18_NoncesWindow.calls k a0 a1 a2 a3 true w hg_ h).mono ?_
  rintro e w' ⟨rfl, hd⟩
  exact ⟨rfl, hd⟩

end Go.Proofs.YthliabidnboklaaDoor.PNon
