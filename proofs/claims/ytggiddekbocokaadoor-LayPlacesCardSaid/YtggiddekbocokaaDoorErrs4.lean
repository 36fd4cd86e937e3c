/-
  errors.Is, api.Code and Num at an error that is a pointer to an api.Fault.
-/
import Derived.Test.YtggiddekbocokaaDoorErrs3
import Derived.Deep.RegionWith
namespace Go.Proofs.YtggiddekbocokaaDoor.Errs
open Go.RowKit Go.Extern.Stop Go.Stop Go.Extern

theorem run_equalIn_two {P : Program} (w : World) (d : Nat) {ti tn : TypeId} {ms : Array (String × TypeId)} {i : TypeInfo} {k : IntKind} (a b : Int)
    (hi : P.underlying ti = some (.interface ms)) (hn : P.underlying tn = some (.int k)) (hinfo : P.info? tn = some i) (hcomp : i.comparable = true) :
    (Op.equalIn (d + 2) ti (.iface tn (.int k a)) (.iface tn (.int k b))).run P w = .ok (a == b) w := by
  simp [Op.equalIn, run_underlying hi, run_underlying hn, typeInfo, hinfo, hcomp]
theorem run_eql_two {P : Program} (w : World) {ti tn : TypeId} {ms : Array (String × TypeId)} {i : TypeInfo} {k : IntKind} (a b : Int)
    (hi : P.underlying ti = some (.interface ms)) (hn : P.underlying tn = some (.int k)) (hinfo : P.info? tn = some i) (hcomp : i.comparable = true) :
    (binOp .eql ti (.iface tn (.int k a)) (.iface tn (.int k b))).run P w = .ok (.bool (a == b)) w := by
  simp only [binOp]
  simp [Op.equal, Op.maxDepth, run_equalIn_two w 9998 a b hi hn hinfo hcomp]
theorem infoE : (Tryd.prog.info? 61).map (·.comparable) = some true := by kernel_rfl
theorem eqE (c : Int) (W : World) : (binOp .eql 33 (.iface 61 (.int .i64 c)) (.iface 61 (.int .i64 c))).run Tryd.prog W = .ok (.bool true) W := by
  obtain ⟨i, hi, hc⟩ := Option.map_eq_some_iff.1 infoE
  rw [run_eql_two W c c Tryd.underlying33 Tryd.underlying61 hi hc, beq_self_eq_true]

set_option maxHeartbeats 8000000 in
set_option maxRecDepth 100000 in
theorem is_P (g : Nat) (c : Int) (w : World) (hc : w.cell? ⟨g, 0, none⟩ = some (.int .i64 c)) :
    Calls Tryd.prog 31 #[.iface 63 (.pointer (some ⟨g, 0, none⟩)), .iface 61 (.int .i64 c)] w fun ev w' => ev = .returned (.bool true) ∧ w' = w := by
  have h10 := @run_callFunc_extern Tryd.prog 51 _ ReflectliteType.typeOf Tryd.func51 (by kernel_rfl) (by kernel_rfl) (by kernel_rfl) (by kernel_rfl)
  have h36 := @run_callFunc_extern Tryd.prog 88 _ (ReflectliteType.method (fun t => do Rtype.noPackHeld "Comparable" t; pure (.bool (← typeInfo t).comparable))) Tryd.func88 (by kernel_rfl) (by kernel_rfl) (by kernel_rfl) (by kernel_rfl)
  have tO2 := typeOfE
  have mC := methodComparable
  have mU := methodUnwrap
  have cE := comparableE
  have nI := noIs
  have hU := hasUnwrap
  have ne : ∀ (v u : Value) (W : World), (binOp .eql 33 (.iface 63 v) (.iface 61 u)).run Tryd.prog W = .ok (.bool false) W := fun v u W => run_eql_iface_types 63 61 v u Tryd.underlying33 (by decide) W
  have eE := eqE c
  go_enter Tryd.func31, Tryd.ntmps31
  go_wp2
  refine wp_loop_rounds 2 ?_
  rw [rounds_succ]
  go_wp2_with (go_at_call 82; refine (unwrap_P g c _ hc).mono ?_; rintro e w' ⟨rfl, rfl⟩)
  rw [rounds_succ]
  go_wp2
  go_ret
  exact ⟨rfl, rfl⟩
set_option maxHeartbeats 8000000 in
theorem code_P (g : Nat) (c : Int) (w : World) (hg : w.cell? ⟨0, 0, none⟩ = some (.iface 108 (.agg #[.pointer (some ⟨1, 33, none⟩)]))) (hc : w.cell? ⟨g, 0, none⟩ = some (.int .i64 c)) :
    Calls Tryd.prog 32 #[.iface 63 (.pointer (some ⟨g, 0, none⟩))] w fun ev w' => ev = .returned (.int .i64 c) ∧ Below w.heap.size w w' := by
  have hlt : 0 < w.heap.size := by
    rcases Nat.eq_zero_or_pos w.heap.size with h0 | h
    · simp [World.cell?, h0] at hg
    · exact h
  have hgl : g < w.heap.size := by
    rcases Nat.lt_or_ge g w.heap.size with h | h
    · exact h
    · simp [World.cell?, Array.getElem?_eq_none h] at hc
  have h1 : (w.alloc (.cells #[.int .i64 0] 61)).cell? ⟨0, 0, none⟩ = some (.iface 108 (.agg #[.pointer (some ⟨1, 33, none⟩)])) := by rw [World.cell?_alloc_lt _ _ ⟨0, 0, none⟩ hlt]; exact hg
  have h2 : (w.alloc (.cells #[.int .i64 0] 61)).cell? ⟨g, 0, none⟩ = some (.int .i64 c) := by rw [World.cell?_alloc_lt _ _ ⟨g, 0, none⟩ hgl]; exact hc
  have h3 : (w.alloc (.cells #[.int .i64 0] 61)).cell? ⟨w.heap.size, 0, none⟩ = some (.int .i64 0) := by simp
  have h4 : (w.alloc (.cells #[.int .i64 0] 61)).frozen? ⟨w.heap.size, 0, none⟩ = false := by simp
  go_enter Tryd.func32, Tryd.ntmps32
  go_wp2_with (go_at_call 30; refine (as_E g c _ _ _ h1 h2 h3 h4).mono ?_; rintro e w' ⟨rfl, rfl⟩)
  go_ret
  refine ⟨rfl, ?_⟩
  repeat (first | exact Below.refl _ _ | refine Below.alloc ?_ (by first | omega | (simp; done) | (simp; omega)) _)
theorem as_num (g : Nat) (c : Int) (T : Nat) (W : World) (h0 : 0 < T) (hgT : g < T) (hg : W.cell? ⟨0, 0, none⟩ = some (.iface 108 (.agg #[.pointer (some ⟨1, 33, none⟩)]))) (hc : W.cell? ⟨g, 0, none⟩ = some (.int .i64 c)) (ht : W.cell? ⟨T, 0, none⟩ = some (.pointer none)) (hf : W.frozen? ⟨T, 0, none⟩ = false) :
    Calls Tryd.prog 30 #[.iface 63 (.pointer (some ⟨g, 0, none⟩)), .iface 65 (.pointer (some ⟨T, 0, none⟩))] W fun ev w1 => ev = .returned (.bool true) ∧ Below T W w1 ∧ T < w1.heap.size ∧
      w1.cell? ⟨T, 0, none⟩ = some (.pointer (some ⟨g, 0, none⟩)) ∧ w1.cell? ⟨g, 0, none⟩ = some (.int .i64 c) ∧ w1.cell? ⟨0, 0, none⟩ = some (.iface 108 (.agg #[.pointer (some ⟨1, 33, none⟩)])) := by
  have hTl : T < W.heap.size := by
    rcases Nat.lt_or_ge T W.heap.size with h | h
    · exact h
    · simp [World.cell?, Array.getElem?_eq_none h] at ht
  refine (as_P ⟨g, 0, none⟩ ⟨T, 0, none⟩ (.pointer none) W hg ht hf).mono fun e w1 ⟨he, hw⟩ => ?_
  have hB0 : Below T W ((wAs W 65 ⟨T, 0, none⟩).alloc (.cells #[.pointer (some ⟨g, 0, none⟩)] 63)) := by
    repeat (first | exact Below.refl _ _ | refine Below.alloc ?_ (by first | omega | (simp; done) | (simp; omega)) _)
  have hB : Below T W w1 := by
    rw [hw]; exact hB0.setCell (p := ⟨T, 0, none⟩) (Nat.le_refl _) _
  have hs : T < w1.heap.size := Nat.lt_of_lt_of_le hTl hB.size
  refine ⟨he, hB, hs, ?_, (hB.cell (p := ⟨g, 0, none⟩) hgT).trans hc, (hB.cell (p := ⟨0, 0, none⟩) h0).trans hg⟩
  have ht2 : ((wAs W 65 ⟨T, 0, none⟩).alloc (.cells #[.pointer (some ⟨g, 0, none⟩)] 63)).cell? ⟨T, 0, none⟩ = some (.pointer none) := by
    unfold wAs; rw [World.cell?_alloc_lt _ _ ⟨T, 0, none⟩ (by simp; omega), World.cell?_alloc_lt _ _ ⟨T, 0, none⟩ (by simp; omega), World.cell?_alloc_lt _ _ ⟨T, 0, none⟩ (by simp; omega), World.cell?_alloc_lt _ _ ⟨T, 0, none⟩ hTl]; exact ht
  rw [hw]
  exact World.cell?_setCell_same _ _ _ ht2
theorem num_nil (w : World) : Calls Tryd.prog 12 #[.nilIface] w fun ev w' => ev = .returned (.int .i64 0) ∧ Below w.heap.size w w' := by
  go_enter Tryd.func12, Tryd.ntmps12
  go_wp2
  go_ret
  exact ⟨rfl, Below.refl _ _⟩
set_option maxRecDepth 100000 in
set_option maxHeartbeats 8000000 in
theorem num_P (g : Nat) (c : Int) (w : World) (h0 : c ≠ 0) (hg : w.cell? ⟨0, 0, none⟩ = some (.iface 108 (.agg #[.pointer (some ⟨1, 33, none⟩)]))) (hc : w.cell? ⟨g, 0, none⟩ = some (.int .i64 c)) :
    Calls Tryd.prog 12 #[.iface 63 (.pointer (some ⟨g, 0, none⟩))] w fun ev w' => ev = .returned (.int .i64 c) ∧ Below w.heap.size w w' := by
  have hlt : 0 < w.heap.size := by
    rcases Nat.eq_zero_or_pos w.heap.size with h0 | h
    · simp [World.cell?, h0] at hg
    · exact h
  have hgl : g < w.heap.size := by
    rcases Nat.lt_or_ge g w.heap.size with h | h
    · exact h
    · simp [World.cell?, Array.getElem?_eq_none h] at hc
  have hA1 : (w.alloc (.cells #[.pointer none] 63)).cell? ⟨0, 0, none⟩ = some (.iface 108 (.agg #[.pointer (some ⟨1, 33, none⟩)])) := by rw [World.cell?_alloc_lt _ _ ⟨0, 0, none⟩ hlt]; exact hg
  have hA2 : (w.alloc (.cells #[.pointer none] 63)).cell? ⟨g, 0, none⟩ = some (.int .i64 c) := by rw [World.cell?_alloc_lt _ _ ⟨g, 0, none⟩ hgl]; exact hc
  have hA3 : (w.alloc (.cells #[.pointer none] 63)).cell? ⟨w.heap.size, 0, none⟩ = some (.pointer none) := by simp
  have hA4 : (w.alloc (.cells #[.pointer none] 63)).frozen? ⟨w.heap.size, 0, none⟩ = false := by simp
  have hcb1 : (c == 0) = false := beq_eq_false_iff_ne.2 h0
  have hcb2 : (c != 0) = true := bne_iff_ne.2 h0
  have hA5 : Below w.heap.size w (w.alloc (.cells #[.pointer none] 63)) := (Below.refl _ _).alloc (Nat.le_refl _) _
  go_enter Tryd.func12, Tryd.ntmps12
  go_wp2
  go_region_with (first
    | (go_at_call 30; refine (as_num g c w.heap.size _ hlt hgl ?_ ?_ ?_ ?_).mono ?_; exact hA1; exact hA2; exact hA3; exact hA4; rintro e w1 ⟨rfl, hB1, hs1, ht1, hc1, hg1⟩)
    | (go_at_call 31; refine (is_P g c _ hc1).mono ?_; rintro e w' ⟨rfl, rfl⟩)
    | (go_at_call 32; refine (code_P g c _ hg1 hc1).mono ?_; rintro e w2 ⟨rfl, hB2⟩; have ht2 := (hB2.cell (p := ⟨w.heap.size, 0, none⟩) hs1).trans ht1; have hc2 := (hB2.cell (p := ⟨g, 0, none⟩) (Nat.lt_trans hgl hs1)).trans hc1))
  all_goals (try go_wp2)
  all_goals (go_ret; first | exact ⟨rfl, (hA5.drew.trans hB1).trans (hB2.mono (Nat.le_of_lt hs1))⟩ | exact ⟨rfl, (hA5.trans hB1).trans (hB2.mono (Nat.le_of_lt hs1))⟩)
end Go.Proofs.YtggiddekbocokaaDoor.Errs
