-- By a program of this session (wip/myprint.sh) out of the translation; Lean checks it.
import Derived.Test.YtggiddekbocokaaDoorPLPx0
import Derived.Test.YtggiddekbocokaaDoorPLPx13
namespace Go.Proofs.YtggiddekbocokaaDoor.PLP
open Go.RowKit Go.Proofs.YtggiddekbocokaaDoorW.PrintWords Go.Proofs.YtggiddekbocokaaDoorW.PrintLast Go.Proofs.YtggiddekbocokaaDoorW.PrintMore
attribute [local go_sem] max2_int min2_int max_two min_two max_three min_three max_four min_four   -- for this text's walks alone
set_option linter.unusedVariables false
set_option linter.unusedSimpArgs false

section
theorem below_undrew {w w' : World} (h : Below w.drew.heap.size w.drew w') : Below w.heap.size w w' := ⟨h.os, h.tape, h.output, h.size, h.block⟩
/-- A store into a row of a row of rows: what is told ahead of it, and what the whole is behind it. -/
theorem put2 {W : World} {base e e2 n cap : Nat} {ad : Addr} {ws : List (List Int)} (h : Kd.S (Kd.slice e2 (Kd.int .i64)) e W base (fun _ => True) (.slice (some ad) n cap) ws) (i : Nat) (hi : i < n) (j : Nat) (hj : j < (ws.getD i []).length) :
    ∃ g c, W.cell? (ad.add i) = some (.slice (some ⟨g, 0, none⟩) (ws.getD i []).length c) ∧ base ≤ g ∧ (∃ cells, W.heap[g]? = some (.cells cells e2 (0, 0))) ∧ W.cell? ⟨g, j, none⟩ = some (.int .i64 ((ws.getD i []).getD j 0)) ∧ W.frozen? ⟨g, j, none⟩ = false ∧
      ∀ x : Int, Kd.S (Kd.slice e2 (Kd.int .i64)) e (W.setCell ⟨g, j, none⟩ (.int .i64 x)) base (fun _ => True) (.slice (some ad) n cap) (ws.set i ((ws.getD i []).set j x)) := by
  obtain ⟨oki, c, hcl, hM, hcc, hoki, hput⟩ := Kd.S_borrow h ([] : List Int) (i : Int) (by omega) (by omega)
  rw [Int.toNat_natCast] at hM hcc hput
  obtain ⟨v, rfl, hR⟩ := hM
  obtain ⟨g, cc, rfl, hg0, hg1, cells, hgc⟩ := Kd.R_form hR (by omega)
  obtain ⟨q1, q2⟩ := Kd.R_celln 0 hR (j : Int) (by omega) (by omega)
  rw [Int.toNat_natCast] at q1 q2
  refine ⟨g, cc, ?_, hg0, ⟨cells, hgc⟩, ?_, q2, fun x => ?_⟩
  · have := hcc 0 _ rfl
    have h1 : i * (Kd.slice e2 (Kd.int .i64)).sz + 0 = i := by show i * 1 + 0 = i; omega
    rw [h1] at this
    exact this
  · rw [q1]
    unfold rdOf
    rw [Int.toNat_natCast]
  · obtain ⟨p1, p2⟩ := Kd.R_putg hR (j : Int) x
    rw [Int.toNat_natCast] at p1 p2
    refine hput p2 (fun k hk => ?_) ?_
    · obtain rfl := Option.some.inj hk
      exact hR.1 g (by simp [Value.ownBlock])
    · refine ⟨_, rfl, ?_⟩
      have e3 : (Value.slice (some ⟨g, 0, none⟩) (ws.getD i []).length cc) = .slice (some ⟨g, 0, none⟩) (ws.getD i []).length cc := rfl
      exact p1
/-- The same where the inner row is known already. -/
theorem put2w {W : World} {base e e2 n cap gw g c n2 : Nat} {ws : List (List Int)} (h : Kd.S (Kd.slice e2 (Kd.int .i64)) e W base (fun _ => True) (.slice (some ⟨gw, 0, none⟩) n cap) ws) (i : Nat) (hi : i < n) (j : Nat) (hj : j < n2) (hl : (ws.getD i []).length = n2) (hcell : W.cell? ⟨gw, i, none⟩ = some (.slice (some ⟨g, 0, none⟩) n2 c)) :
    base ≤ g ∧ (∃ cells, W.heap[g]? = some (.cells cells e2 (0, 0))) ∧ W.cell? ⟨g, j, none⟩ = some (.int .i64 ((ws.getD i []).getD j 0)) ∧ W.frozen? ⟨g, j, none⟩ = false ∧
      ∀ x : Int, Kd.S (Kd.slice e2 (Kd.int .i64)) e (W.setCell ⟨g, j, none⟩ (.int .i64 x)) base (fun _ => True) (.slice (some ⟨gw, 0, none⟩) n cap) (ws.set i ((ws.getD i []).set j x)) := by
  obtain ⟨g', c', q1, q2, q3, q4, q5, q6⟩ := put2 h i hi j (by omega)
  rw [add_plain, hl, hcell] at q1
  injection q1 with q1
  injection q1 with q1 _ _
  injection q1 with q1
  injection q1 with q1 _ _
  subst q1
  exact ⟨q2, q3, q4, q5, q6⟩
theorem cell2 {W : World} {base e e2 n cap gw n2 : Nat} {ws : List (List Int)} (h : Kd.S (Kd.slice e2 (Kd.int .i64)) e W base (fun _ => True) (.slice (some ⟨gw, 0, none⟩) n cap) ws) (i : Nat) (hi : i < n) (hn : 0 < n2) (hl : (ws.getD i []).length = n2) : ∃ g c, W.cell? ⟨gw, i, none⟩ = some (.slice (some ⟨g, 0, none⟩) n2 c) := by
  obtain ⟨g', c', q1, _⟩ := put2 h i hi 0 (by omega)
  rw [add_plain, hl] at q1
  exact ⟨g', c', q1⟩
theorem far2 {W : World} {base e e2 n cap gw g i j : Nat} {ws : List (List Int)} {v : Value} (h : Kd.S (Kd.slice e2 (Kd.int .i64)) e W base (fun _ => True) (.slice (some ⟨gw, 0, none⟩) n cap) ws) (he : e ≠ e2) (ht : ∃ cells, W.heap[g]? = some (.cells cells e2 (0, 0))) (hc : W.cell? ⟨gw, i, none⟩ = some v) (u : Value) : (W.setCell ⟨g, j, none⟩ u).cell? ⟨gw, i, none⟩ = some v := by
  obtain ⟨cells, hcs⟩ := ht
  obtain ⟨cells', hcs'⟩ := Kd.S_typed h gw (by simp [Value.ownBlock])
  have hne : gw ≠ g := by
    rintro rfl
    rw [hcs] at hcs'
    injection hcs' with q
    injection q with _ q _
    exact he q.symm
  have := Below.heap_setCell W ⟨g, j, none⟩ u gw hne
  simpa [World.cell?, this] using hc
end
/-! ### chatelainelaw11_made: function 14 -/
mutual
def chatelainelaw11_made.l0 : Nat → List Int → List (List Int) → Int → Int → Int → Int → Int → Int → Int → Int → Int → Int → Option ((List (List Int)) × Int)
  | 0, _, _, _, _, _, _, _, _, _, _, _, _ => none
  | k + 1, x1, x6, x7, x218000, x218001, x218002, x218003, x218004, x218005, x218006, x218007, x218008 => if x7 < x218000 then (if 256 ≤ 35184372088832 then (if x6.length < 5864062014805 then (chatelainelaw11_made.l0 k x1 (x6 ++ [(List.replicate 256 0)]) (wrap64 (x7 + 1)) x218000 x218001 x218002 x218003 x218004 x218005 x218006 x218007 x218008) else (none)) else (none)) else (chatelainelaw11_made.l1 k x1 x6 0 0 x218000 x218001 x218002 x218003 x218004 x218005 x218006 x218007 x218008)
def chatelainelaw11_made.l1 : Nat → List Int → List (List Int) → Int → Int → Int → Int → Int → Int → Int → Int → Int → Int → Int → Option ((List (List Int)) × Int)
  | 0, _, _, _, _, _, _, _, _, _, _, _, _, _ => none
  | k + 1, x1, x6, x8, x9, x218000, x218001, x218002, x218003, x218004, x218005, x218006, x218007, x218008 => if x9 < (x1.length : Int) then (if 0 ≤ x9 then ((chatelainelaw0_Low.f (rd x1 x9) x218000).bind fun t225 => ((chatelainelaw0_Low.f (wrap64 (Int.tdiv (rd x1 x9) 8)) 256).bind fun t227 => (if 0 ≤ t225 then (if t225 < (x6.length : Int) then (if 0 ≤ t227 then (if t227 < ((rd_L3 x6 t225).length : Int) then (if (rd (rd_L3 x6 t225) t227) = 0 then (chatelainelaw11_made.l1 k x1 (x6.set (t225 : Int).toNat ((rd_L3 x6 t225).set (t227 : Int).toNat 1)) (wrap64 (x8 + 1)) (wrap64 (x9 + 1)) x218000 x218001 x218002 x218003 x218004 x218005 x218006 x218007 x218008) else (chatelainelaw11_made.l1 k x1 x6 x8 (wrap64 (x9 + 1)) x218000 x218001 x218002 x218003 x218004 x218005 x218006 x218007 x218008)) else (none)) else (none)) else (none)) else (none)))) else (none)) else (some (x6, x8))
end
def chatelainelaw11_made.f (k : Nat) (a0_0 : Int) (a0_1 : Int) (a0_2 : Int) (a0_3 : Int) (a0_4 : Int) (a0_5 : Int) (a0_6 : Int) (a0_7 : Int) (a0_8 : Int) (l1 : List Int) : Option ((List (List Int)) × Int) := chatelainelaw11_made.l0 k l1 ([] : List (List Int)) 0 a0_0 a0_1 a0_2 a0_3 a0_4 a0_5 a0_6 a0_7 a0_8
theorem chatelainelaw11_made.mono_l : ∀ k, (∀ y0 y1 y2 y3 y4 y5 y6 y7 y8 y9 y10 y11, LeO (chatelainelaw11_made.l0 k y0 y1 y2 y3 y4 y5 y6 y7 y8 y9 y10 y11) (chatelainelaw11_made.l0 (k + 1) y0 y1 y2 y3 y4 y5 y6 y7 y8 y9 y10 y11)) ∧ (∀ y0 y1 y2 y3 y4 y5 y6 y7 y8 y9 y10 y11 y12, LeO (chatelainelaw11_made.l1 k y0 y1 y2 y3 y4 y5 y6 y7 y8 y9 y10 y11 y12) (chatelainelaw11_made.l1 (k + 1) y0 y1 y2 y3 y4 y5 y6 y7 y8 y9 y10 y11 y12))
  | 0 => ⟨fun _ _ _ _ _ _ _ _ _ _ _ _ r h => by simp [chatelainelaw11_made.l0] at h, fun _ _ _ _ _ _ _ _ _ _ _ _ _ r h => by simp [chatelainelaw11_made.l1] at h⟩
  | k + 1 => by
    obtain ⟨ih0, ih1⟩ := chatelainelaw11_made.mono_l k
    refine ⟨?_, ?_⟩
    · intro y0 y1 y2 y3 y4 y5 y6 y7 y8 y9 y10 y11
      unfold chatelainelaw11_made.l0
      repeat' first
      | (with_reducible exact ih0 _ _ _ _ _ _ _ _ _ _ _ _)
      | (with_reducible exact ih1 _ _ _ _ _ _ _ _ _ _ _ _ _)
      | (with_reducible exact LeO.refl _)
      | (with_reducible exact LeO.none _)
      | (with_reducible refine LeO.ite ?_ ?_)
      | (with_reducible refine LeO.bind ?_ (fun _ => ?_))
      | exact ih0 _ _ _ _ _ _ _ _ _ _ _ _
      | exact ih1 _ _ _ _ _ _ _ _ _ _ _ _ _
      | exact LeO.none _
      | refine LeO.ite ?_ ?_
      | refine LeO.bind ?_ (fun _ => ?_)
    · intro y0 y1 y2 y3 y4 y5 y6 y7 y8 y9 y10 y11 y12
      unfold chatelainelaw11_made.l1
      repeat' first
      | (with_reducible exact ih0 _ _ _ _ _ _ _ _ _ _ _ _)
      | (with_reducible exact ih1 _ _ _ _ _ _ _ _ _ _ _ _ _)
      | (with_reducible exact LeO.refl _)
      | (with_reducible exact LeO.none _)
      | (with_reducible refine LeO.ite ?_ ?_)
      | (with_reducible refine LeO.bind ?_ (fun _ => ?_))
      | exact ih0 _ _ _ _ _ _ _ _ _ _ _ _
      | exact ih1 _ _ _ _ _ _ _ _ _ _ _ _ _
      | exact LeO.none _
      | refine LeO.ite ?_ ?_
      | refine LeO.bind ?_ (fun _ => ?_)
theorem chatelainelaw11_made.mono : ∀ a0 a1 a2 a3 a4 a5 a6 a7 a8 a9 k, LeO (chatelainelaw11_made.f k a0 a1 a2 a3 a4 a5 a6 a7 a8 a9) (chatelainelaw11_made.f (k + 1) a0 a1 a2 a3 a4 a5 a6 a7 a8 a9) := by
  intro a0 a1 a2 a3 a4 a5 a6 a7 a8 a9 k
  obtain ⟨ih0, ih1⟩ := chatelainelaw11_made.mono_l k
  unfold chatelainelaw11_made.f
  repeat' first
      | (with_reducible exact ih0 _ _ _ _ _ _ _ _ _ _ _ _)
      | (with_reducible exact ih1 _ _ _ _ _ _ _ _ _ _ _ _ _)
      | (with_reducible exact LeO.refl _)
      | (with_reducible exact LeO.none _)
      | (with_reducible refine LeO.ite ?_ ?_)
      | (with_reducible refine LeO.bind ?_ (fun _ => ?_))
      | exact ih0 _ _ _ _ _ _ _ _ _ _ _ _
      | exact ih1 _ _ _ _ _ _ _ _ _ _ _ _ _
      | exact LeO.none _
      | refine LeO.ite ?_ ?_
      | refine LeO.bind ?_ (fun _ => ?_)
set_option maxHeartbeats 8000000 in
set_option maxRecDepth 100000 in
theorem chatelainelaw11_made.calls (k : Nat) (a0_0 : Int) (a0_1 : Int) (a0_2 : Int) (a0_3 : Int) (a0_4 : Int) (a0_5 : Int) (a0_6 : Int) (a0_7 : Int) (a0_8 : Int) (A1 : Option Addr) (c1 : Nat) (l1 : List Int) (r1 : List (List Int)) (r2 : Int) (w : World) (hr1 : Kd.C (Kd.int .i64) w A1 l1.length l1) (hc1 : l1.length ≤ c1) (h : chatelainelaw11_made.f k a0_0 a0_1 a0_2 a0_3 a0_4 a0_5 a0_6 a0_7 a0_8 l1 = some (r1, r2)) :
    Calls Tryd.prog 14 #[.agg #[.int .i64 a0_0, .int .i64 a0_1, .int .i64 a0_2, .int .i64 a0_3, .int .i64 a0_4, .int .i64 a0_5, .int .i64 a0_6, .int .i64 a0_7, .int .i64 a0_8], .slice A1 l1.length c1] w fun e w' => ∃ v0_ : Value, e = .returned (.tuple #[v0_, .int .i64 r2]) ∧ Kd.S (Kd.slice 3 (Kd.int .i64)) 22 w' w.heap.size (fun _ => True) v0_ r1 ∧ Below w.heap.size w w' := by
  have hu39 := Tryd.underlying39
  have HR1 := Aside0.mk hr1
  have HC1 := Aside0.mk hc1
  clear hr1 hc1
  have HB := Aside0.mk (Below.refl w.heap.size w)
  have H : (chatelainelaw11_made.l0 k l1 ([] : List (List Int)) 0 a0_0 a0_1 a0_2 a0_3 a0_4 a0_5 a0_6 a0_7 a0_8) = some (r1, r2) := h
  clear h
  have H' := Aside0.mk H
  clear H
  go_enter Tryd.func14, Tryd.ntmps14
  go_wp2_with (first | ((with_reducible refine gate_dst (N := 2) rfl ?_); refine box_event ?hg (N := 2) ?hd (cs := #[.int .i64 a0_0, .int .i64 a0_1, .int .i64 a0_2, .int .i64 a0_3, .int .i64 a0_4, .int .i64 a0_5, .int .i64 a0_6, .int .i64 a0_7, .int .i64 a0_8]) (t := 39) ?hr ?_; (case hd => rfl); (case hg => rfl); (case hr => first | (go_simp; done) | (go_simp; rfl)); intro gb217 hg w3 hbox hb; have n0_ := Aside0.mk (below_step (by repeat (first | (with_reducible first | exact HB.out | apply below_alloc | apply pw_below_drewN | apply below_drew1) | exact HB.out)) hb); have n1_ := Aside0.mk (hbox); have n2_ := Aside0.mk ((by rw [hg]; exact (below_size (by repeat (first | (with_reducible first | exact HB.out | apply below_alloc | apply pw_below_drewN | apply below_drew1) | exact HB.out))) : w.heap.size ≤ gb217)); have n3_ := Aside0.mk ((by rw [hg]; exact (below_size (by repeat (first | (with_reducible first | exact HB.out | apply below_alloc | apply pw_below_drewN | apply below_drew1) | exact HB.out))) : w.heap.size ≤ gb217)); clear HB; have HB := n0_; have BK217 := n1_; have GW217 := n2_; have GE217 := n3_; clear n0_ n1_ n2_ n3_; clear hb hbox hg))
  repeat (go_quiet (first | ((with_reducible refine gate_dst (N := 2) rfl ?_); refine box_event ?hg (N := 2) ?hd (cs := #[.int .i64 a0_0, .int .i64 a0_1, .int .i64 a0_2, .int .i64 a0_3, .int .i64 a0_4, .int .i64 a0_5, .int .i64 a0_6, .int .i64 a0_7, .int .i64 a0_8]) (t := 39) ?hr ?_; (case hd => rfl); (case hg => rfl); (case hr => first | (go_simp; done) | (go_simp; rfl)); intro gb217 hg w3 hbox hb; have n0_ := Aside0.mk (below_step (by repeat (first | (with_reducible first | exact HB.out | apply below_alloc | apply pw_below_drewN | apply below_drew1) | exact HB.out)) hb); have n1_ := Aside0.mk (hbox); have n2_ := Aside0.mk ((by rw [hg]; exact (below_size (by repeat (first | (with_reducible first | exact HB.out | apply below_alloc | apply pw_below_drewN | apply below_drew1) | exact HB.out))) : w.heap.size ≤ gb217)); have n3_ := Aside0.mk ((by rw [hg]; exact (below_size (by repeat (first | (with_reducible first | exact HB.out | apply below_alloc | apply pw_below_drewN | apply below_drew1) | exact HB.out))) : w.heap.size ≤ gb217)); clear HB; have HB := n0_; have BK217 := n1_; have GW217 := n2_; have GE217 := n3_; clear n0_ n1_ n2_ n3_; clear hb hbox hg)); try go_wp2_with (first | ((with_reducible refine gate_dst (N := 2) rfl ?_); refine box_event ?hg (N := 2) ?hd (cs := #[.int .i64 a0_0, .int .i64 a0_1, .int .i64 a0_2, .int .i64 a0_3, .int .i64 a0_4, .int .i64 a0_5, .int .i64 a0_6, .int .i64 a0_7, .int .i64 a0_8]) (t := 39) ?hr ?_; (case hd => rfl); (case hg => rfl); (case hr => first | (go_simp; done) | (go_simp; rfl)); intro gb217 hg w3 hbox hb; have n0_ := Aside0.mk (below_step (by repeat (first | (with_reducible first | exact HB.out | apply below_alloc | apply pw_below_drewN | apply below_drew1) | exact HB.out)) hb); have n1_ := Aside0.mk (hbox); have n2_ := Aside0.mk ((by rw [hg]; exact (below_size (by repeat (first | (with_reducible first | exact HB.out | apply below_alloc | apply pw_below_drewN | apply below_drew1) | exact HB.out))) : w.heap.size ≤ gb217)); have n3_ := Aside0.mk ((by rw [hg]; exact (below_size (by repeat (first | (with_reducible first | exact HB.out | apply below_alloc | apply pw_below_drewN | apply below_drew1) | exact HB.out))) : w.heap.size ≤ gb217)); clear HB; have HB := n0_; have BK217 := n1_; have GW217 := n2_; have GE217 := n3_; clear n0_ n1_ n2_ n3_; clear hb hbox hg)))
  go_loopg [6, 7] k (fun kq v6 v7 w' => ∃ (x6_1 : List (List Int)) (x7_1 : Int), v7 = .int .i64 x7_1 ∧ Aside0 (chatelainelaw11_made.l0 kq l1 x6_1 x7_1 a0_0 a0_1 a0_2 a0_3 a0_4 a0_5 a0_6 a0_7 a0_8 = some (r1, r2)) ∧ Aside0 (kq ≤ k) ∧ Aside0 (Kd.S (Kd.slice 3 (Kd.int .i64)) 22 w' w.heap.size (fun _ => True) v6 x6_1) ∧ Aside0 (w'.heap[gb217]? = some (.cells #[.int .i64 a0_0, .int .i64 a0_1, .int .i64 a0_2, .int .i64 a0_3, .int .i64 a0_4, .int .i64 a0_5, .int .i64 a0_6, .int .i64 a0_7, .int .i64 a0_8] 39 (0, 0))) ∧ Aside0 (Below w.heap.size w w'))
  case atStart => exact ⟨(([] : List (List Int))), (0), (by first | rfl | (simp; done) | (simp [*]; done)), H', ⟨Nat.le_refl _⟩, ⟨by first | exact Kd.S_nil _ _ _ _ _ | exact Kd.N_nil _ _ _ _ _ | exact Kd.V_nil _ _ _ _ _ | exact Kd.Q_nil _ _ _ _ _ | exact Kd.R_nil _ _ _ _ _⟩, ⟨by (with_reducible repeat (first | refine blk_drewN ?_ _ | refine blk_drew ?_ | refine blk_alloc ?_ _)); exact BK217.out⟩, ⟨by repeat (first | (with_reducible first | exact HB.out | apply below_alloc | apply pw_below_drewN | apply below_drew1 | refine below_set ?_ GE217.out) | exact HB.out)⟩⟩
  case round =>
    clear H'
    try clear c1
    try clear p2
    obtain ⟨x6_1, x7_1, rfl, HA, HK1, HO_6, BK217, HB⟩ := hrel
    cases gk with
    | zero => exact absurd HA.out (by simp [chatelainelaw11_made.l0])
    | succ k1 =>
      have H := HA.out
      clear HA
      simp only [chatelainelaw11_made.l0] at H
      by_cases c4 : x7_1 < a0_0
      · rw [if_pos c4] at H
        have c4b0 : decide (x7_1 < a0_0) = true := decide_eq_true c4
        clear c4
        by_cases c5 : 256 ≤ 35184372088832
        · rw [if_pos c5] at H
          have c5b0 := eq_true c5
          have c5b1 : decide (256 ≤ 35184372088832) = true := decide_eq_true c5
          clear c5
          obtain ⟨y218, hy218⟩ : ∃ y_ : List Int, y_ = (List.replicate 256 0) := ⟨_, rfl⟩
          replace H : (if x6_1.length < 5864062014805 then (chatelainelaw11_made.l0 k1 l1 (x6_1 ++ [y218]) (wrap64 (x7_1 + 1)) a0_0 a0_1 a0_2 a0_3 a0_4 a0_5 a0_6 a0_7 a0_8) else (none)) = some (r1, r2) := by first | (rw [hy218]; with_reducible exact H) | (have H2_ := (Option.bind_some _ _).symm.trans H; rw [hy218]; with_reducible exact H2_) | (have H2_ := (Option.bind_some _ _).symm.trans H; with_reducible exact H2_) | with_reducible exact H | (rw [hy218]; exact H) | exact H
          have Ny218 := Aside0.mk hy218
          clear hy218
          by_cases c6 : x6_1.length < 5864062014805
          · rw [if_pos c6] at H
            have LMc6 := Aside0.mk c6
            clear c6
            obtain ⟨y221, hy221⟩ : ∃ y_ : List (List Int), y_ = (x6_1 ++ [y218]) := ⟨_, rfl⟩
            replace H : (chatelainelaw11_made.l0 k1 l1 y221 (wrap64 (x7_1 + 1)) a0_0 a0_1 a0_2 a0_3 a0_4 a0_5 a0_6 a0_7 a0_8) = some (r1, r2) := by first | (rw [hy221]; with_reducible exact H) | (have H2_ := (Option.bind_some _ _).symm.trans H; rw [hy221]; with_reducible exact H2_) | (have H2_ := (Option.bind_some _ _).symm.trans H; with_reducible exact H2_) | with_reducible exact H | (rw [hy221]; exact H) | exact H
            have Ny221 := Aside0.mk hy221
            clear hy221
            have H' := Aside0.mk H
            clear H
            have hcz7_0 : wr.cell? ⟨gb217, 0, none⟩ = some (.int .i64 a0_0) := (blk_cell BK217.out 0).trans rfl
            have hcz7_1 : wr.cell? ⟨gb217, 1, none⟩ = some (.int .i64 a0_1) := (blk_cell BK217.out 1).trans rfl
            have hcz7_2 : wr.cell? ⟨gb217, 2, none⟩ = some (.int .i64 a0_2) := (blk_cell BK217.out 2).trans rfl
            have hcz7_3 : wr.cell? ⟨gb217, 3, none⟩ = some (.int .i64 a0_3) := (blk_cell BK217.out 3).trans rfl
            have hcz7_4 : wr.cell? ⟨gb217, 4, none⟩ = some (.int .i64 a0_4) := (blk_cell BK217.out 4).trans rfl
            have hcz7_5 : wr.cell? ⟨gb217, 5, none⟩ = some (.int .i64 a0_5) := (blk_cell BK217.out 5).trans rfl
            have hcz7_6 : wr.cell? ⟨gb217, 6, none⟩ = some (.int .i64 a0_6) := (blk_cell BK217.out 6).trans rfl
            have hcz7_7 : wr.cell? ⟨gb217, 7, none⟩ = some (.int .i64 a0_7) := (blk_cell BK217.out 7).trans rfl
            have hcz7_8 : wr.cell? ⟨gb217, 8, none⟩ = some (.int .i64 a0_8) := (blk_cell BK217.out 8).trans rfl
            have hfz7_0 := blk_frozen BK217.out 0
            have hfz7_1 := blk_frozen BK217.out 1
            have hfz7_2 := blk_frozen BK217.out 2
            have hfz7_3 := blk_frozen BK217.out 3
            have hfz7_4 := blk_frozen BK217.out 4
            have hfz7_5 := blk_frozen BK217.out 5
            have hfz7_6 := blk_frozen BK217.out 6
            have hfz7_7 := blk_frozen BK217.out 7
            have hfz7_8 := blk_frozen BK217.out 8
            go_wp2_with (first | ((with_reducible refine gate_dst (N := 19) rfl ?_); refine Kd.R_make (Kd.int .i64) _ 3 rfl (N := 19) rfl 22 _ _ rfl 256 rfl rfl Tryd.underlying22 (.int .i64 0) 8 info3 rfl (by decide) (by omega) 0 (ok := fun _ => True) (okp := fun _ => True) rfl (fun _ hk => hk) trivial (by omega) (by omega) (Below.refl _ _) (Nat.le_refl _) ?_; intro v219 w8 ho9 hb hg_ hnew_; clear hg_ hnew_; (first | rw [← Ny218.out] at ho9 | (simp only [Int.reduceToNat] at ho9; rw [← Ny218.out] at ho9)); have n0_ := Aside0.mk (Kd.S_elder' (by (with_reducible repeat (first | apply Kd.S_alloc | apply Kd.S_drewN | apply Kd.S_drew)); exact HO_6.out) (Kd.R_base ho9) hb); have n1_ := Aside0.mk (Kd.R_lower ho9 (below_size (by repeat (first | (with_reducible first | exact HB.out | apply below_alloc | apply pw_below_drewN | apply below_drew1 | refine below_set ?_ GE217.out) | exact HB.out)))); have n2_ := Aside0.mk (blk_below (g := gb217) (o := .cells #[.int .i64 a0_0, .int .i64 a0_1, .int .i64 a0_2, .int .i64 a0_3, .int .i64 a0_4, .int .i64 a0_5, .int .i64 a0_6, .int .i64 a0_7, .int .i64 a0_8] 39 (0, 0)) (by (with_reducible repeat (first | refine blk_drewN ?_ _ | refine blk_drew ?_ | refine blk_alloc ?_ _)); exact BK217.out) hb); have n3_ := Aside0.mk (below_step (by repeat (first | (with_reducible first | exact HB.out | apply below_alloc | apply pw_below_drewN | apply below_drew1 | refine below_set ?_ GE217.out) | exact HB.out)) hb); clear HO_6; clear BK217; clear HB; have HO_6 := n0_; have HO220 := n1_; have BK217 := n2_; have HB := n3_; clear n0_ n1_ n2_ n3_; clear hb ho9; obtain ⟨Ao11, co11, eo11⟩ := Kd.R_slice HO220.out; subst eo11) | ((with_reducible refine gate_builtin (b := .append) (xs := #[.tmp 18, .tmp 20]) rfl ?_); at_builtin; refine Kd.S_append (Kd.slice 3 (Kd.int .i64)) (w0 := w) w.heap.size rfl (.tmp 18) (.tmp 20) 29 22 (.slice none 0 0) 24 rfl Tryd.underlying29 info22 rfl (by decide) (by omega) u6 x6_1 y218 [.slice Ao11 y218.length co11] (fun _ => True) (fun k_ => some k_ = (.slice Ao11 y218.length co11 : Value).ownBlock) rfl rfl ?aP (fun k_ hk_ => ((Kd.R_mono (ok' := fun k_ => ((fun _ => True)) k_ ∧ some k_ ≠ (u6 : Value).ownBlock) (Kd.R_apart' (HO220.out) (Kd.S_typed HO_6.out) (by decide)) (fun k_ hk => ⟨trivial, hk.2⟩))).1 k_ hk_.symm) ?aF ?aO ?aB ?aS ?aL ?_; (case aP => exact Kd.M_row (Kd.R_mono (Kd.R_tight rfl (Kd.R_mono (ok' := fun k_ => ((fun _ => True)) k_ ∧ some k_ ≠ (u6 : Value).ownBlock) (Kd.R_apart' (HO220.out) (Kd.S_typed HO_6.out) (by decide)) (fun k_ hk => ⟨trivial, hk.2⟩))) (fun _ h_ => h_))); (case aB => exact (by repeat (first | (with_reducible first | exact HB.out | apply below_alloc | apply pw_below_drewN | apply below_drew1 | refine below_set ?_ GE217.out) | exact HB.out))); (case aF => exact (fun _ _ => trivial)); (case aO => exact (by (with_reducible repeat (first | apply Kd.S_alloc | apply Kd.S_drewN | apply Kd.S_drew)); exact Kd.S_mono HO_6.out (fun k_ hk => ⟨trivial, fun e_ => hk.2 e_⟩))); (case aS => exact (below_size (by repeat (first | (with_reducible first | exact HB.out | apply below_alloc | apply pw_below_drewN | apply below_drew1 | refine below_set ?_ GE217.out) | exact HB.out)))); (case aL => have := LMc6.out; omega); intro v222 w10 ho hb hg hat; rw [← Ny221.out] at ho; have n0_ := Aside0.mk (blk_grown (g := gb217) (o := .cells #[.int .i64 a0_0, .int .i64 a0_1, .int .i64 a0_2, .int .i64 a0_3, .int .i64 a0_4, .int .i64 a0_5, .int .i64 a0_6, .int .i64 a0_7, .int .i64 a0_8] 39 (0, 0)) (by (with_reducible repeat (first | refine blk_drewN ?_ _ | refine blk_drew ?_ | refine blk_alloc ?_ _)); exact BK217.out) hg (Kd.S_ne HO_6.out BK217.out (by decide))); have n1_ := Aside0.mk (hb); have n2_ := Aside0.mk (ho); clear BK217; clear HB; clear HO_6; clear HO220; have BK217 := n0_; have HB := n1_; have HO223 := n2_; clear n0_ n1_ n2_; clear ho hb hg hat))
            repeat (go_quiet (first | ((with_reducible refine gate_dst (N := 19) rfl ?_); refine Kd.R_make (Kd.int .i64) _ 3 rfl (N := 19) rfl 22 _ _ rfl 256 rfl rfl Tryd.underlying22 (.int .i64 0) 8 info3 rfl (by decide) (by omega) 0 (ok := fun _ => True) (okp := fun _ => True) rfl (fun _ hk => hk) trivial (by omega) (by omega) (Below.refl _ _) (Nat.le_refl _) ?_; intro v219 w8 ho9 hb hg_ hnew_; clear hg_ hnew_; (first | rw [← Ny218.out] at ho9 | (simp only [Int.reduceToNat] at ho9; rw [← Ny218.out] at ho9)); have n0_ := Aside0.mk (Kd.S_elder' (by (with_reducible repeat (first | apply Kd.S_alloc | apply Kd.S_drewN | apply Kd.S_drew)); exact HO_6.out) (Kd.R_base ho9) hb); have n1_ := Aside0.mk (Kd.R_lower ho9 (below_size (by repeat (first | (with_reducible first | exact HB.out | apply below_alloc | apply pw_below_drewN | apply below_drew1 | refine below_set ?_ GE217.out) | exact HB.out)))); have n2_ := Aside0.mk (blk_below (g := gb217) (o := .cells #[.int .i64 a0_0, .int .i64 a0_1, .int .i64 a0_2, .int .i64 a0_3, .int .i64 a0_4, .int .i64 a0_5, .int .i64 a0_6, .int .i64 a0_7, .int .i64 a0_8] 39 (0, 0)) (by (with_reducible repeat (first | refine blk_drewN ?_ _ | refine blk_drew ?_ | refine blk_alloc ?_ _)); exact BK217.out) hb); have n3_ := Aside0.mk (below_step (by repeat (first | (with_reducible first | exact HB.out | apply below_alloc | apply pw_below_drewN | apply below_drew1 | refine below_set ?_ GE217.out) | exact HB.out)) hb); clear HO_6; clear BK217; clear HB; have HO_6 := n0_; have HO220 := n1_; have BK217 := n2_; have HB := n3_; clear n0_ n1_ n2_ n3_; clear hb ho9; obtain ⟨Ao11, co11, eo11⟩ := Kd.R_slice HO220.out; subst eo11) | ((with_reducible refine gate_builtin (b := .append) (xs := #[.tmp 18, .tmp 20]) rfl ?_); at_builtin; refine Kd.S_append (Kd.slice 3 (Kd.int .i64)) (w0 := w) w.heap.size rfl (.tmp 18) (.tmp 20) 29 22 (.slice none 0 0) 24 rfl Tryd.underlying29 info22 rfl (by decide) (by omega) u6 x6_1 y218 [.slice Ao11 y218.length co11] (fun _ => True) (fun k_ => some k_ = (.slice Ao11 y218.length co11 : Value).ownBlock) rfl rfl ?aP (fun k_ hk_ => ((Kd.R_mono (ok' := fun k_ => ((fun _ => True)) k_ ∧ some k_ ≠ (u6 : Value).ownBlock) (Kd.R_apart' (HO220.out) (Kd.S_typed HO_6.out) (by decide)) (fun k_ hk => ⟨trivial, hk.2⟩))).1 k_ hk_.symm) ?aF ?aO ?aB ?aS ?aL ?_; (case aP => exact Kd.M_row (Kd.R_mono (Kd.R_tight rfl (Kd.R_mono (ok' := fun k_ => ((fun _ => True)) k_ ∧ some k_ ≠ (u6 : Value).ownBlock) (Kd.R_apart' (HO220.out) (Kd.S_typed HO_6.out) (by decide)) (fun k_ hk => ⟨trivial, hk.2⟩))) (fun _ h_ => h_))); (case aB => exact (by repeat (first | (with_reducible first | exact HB.out | apply below_alloc | apply pw_below_drewN | apply below_drew1 | refine below_set ?_ GE217.out) | exact HB.out))); (case aF => exact (fun _ _ => trivial)); (case aO => exact (by (with_reducible repeat (first | apply Kd.S_alloc | apply Kd.S_drewN | apply Kd.S_drew)); exact Kd.S_mono HO_6.out (fun k_ hk => ⟨trivial, fun e_ => hk.2 e_⟩))); (case aS => exact (below_size (by repeat (first | (with_reducible first | exact HB.out | apply below_alloc | apply pw_below_drewN | apply below_drew1 | refine below_set ?_ GE217.out) | exact HB.out)))); (case aL => have := LMc6.out; omega); intro v222 w10 ho hb hg hat; rw [← Ny221.out] at ho; have n0_ := Aside0.mk (blk_grown (g := gb217) (o := .cells #[.int .i64 a0_0, .int .i64 a0_1, .int .i64 a0_2, .int .i64 a0_3, .int .i64 a0_4, .int .i64 a0_5, .int .i64 a0_6, .int .i64 a0_7, .int .i64 a0_8] 39 (0, 0)) (by (with_reducible repeat (first | refine blk_drewN ?_ _ | refine blk_drew ?_ | refine blk_alloc ?_ _)); exact BK217.out) hg (Kd.S_ne HO_6.out BK217.out (by decide))); have n1_ := Aside0.mk (hb); have n2_ := Aside0.mk (ho); clear BK217; clear HB; clear HO_6; clear HO220; have BK217 := n0_; have HB := n1_; have HO223 := n2_; clear n0_ n1_ n2_; clear ho hb hg hat)); try go_wp2_with (first | ((with_reducible refine gate_dst (N := 19) rfl ?_); refine Kd.R_make (Kd.int .i64) _ 3 rfl (N := 19) rfl 22 _ _ rfl 256 rfl rfl Tryd.underlying22 (.int .i64 0) 8 info3 rfl (by decide) (by omega) 0 (ok := fun _ => True) (okp := fun _ => True) rfl (fun _ hk => hk) trivial (by omega) (by omega) (Below.refl _ _) (Nat.le_refl _) ?_; intro v219 w8 ho9 hb hg_ hnew_; clear hg_ hnew_; (first | rw [← Ny218.out] at ho9 | (simp only [Int.reduceToNat] at ho9; rw [← Ny218.out] at ho9)); have n0_ := Aside0.mk (Kd.S_elder' (by (with_reducible repeat (first | apply Kd.S_alloc | apply Kd.S_drewN | apply Kd.S_drew)); exact HO_6.out) (Kd.R_base ho9) hb); have n1_ := Aside0.mk (Kd.R_lower ho9 (below_size (by repeat (first | (with_reducible first | exact HB.out | apply below_alloc | apply pw_below_drewN | apply below_drew1 | refine below_set ?_ GE217.out) | exact HB.out)))); have n2_ := Aside0.mk (blk_below (g := gb217) (o := .cells #[.int .i64 a0_0, .int .i64 a0_1, .int .i64 a0_2, .int .i64 a0_3, .int .i64 a0_4, .int .i64 a0_5, .int .i64 a0_6, .int .i64 a0_7, .int .i64 a0_8] 39 (0, 0)) (by (with_reducible repeat (first | refine blk_drewN ?_ _ | refine blk_drew ?_ | refine blk_alloc ?_ _)); exact BK217.out) hb); have n3_ := Aside0.mk (below_step (by repeat (first | (with_reducible first | exact HB.out | apply below_alloc | apply pw_below_drewN | apply below_drew1 | refine below_set ?_ GE217.out) | exact HB.out)) hb); clear HO_6; clear BK217; clear HB; have HO_6 := n0_; have HO220 := n1_; have BK217 := n2_; have HB := n3_; clear n0_ n1_ n2_ n3_; clear hb ho9; obtain ⟨Ao11, co11, eo11⟩ := Kd.R_slice HO220.out; subst eo11) | ((with_reducible refine gate_builtin (b := .append) (xs := #[.tmp 18, .tmp 20]) rfl ?_); at_builtin; refine Kd.S_append (Kd.slice 3 (Kd.int .i64)) (w0 := w) w.heap.size rfl (.tmp 18) (.tmp 20) 29 22 (.slice none 0 0) 24 rfl Tryd.underlying29 info22 rfl (by decide) (by omega) u6 x6_1 y218 [.slice Ao11 y218.length co11] (fun _ => True) (fun k_ => some k_ = (.slice Ao11 y218.length co11 : Value).ownBlock) rfl rfl ?aP (fun k_ hk_ => ((Kd.R_mono (ok' := fun k_ => ((fun _ => True)) k_ ∧ some k_ ≠ (u6 : Value).ownBlock) (Kd.R_apart' (HO220.out) (Kd.S_typed HO_6.out) (by decide)) (fun k_ hk => ⟨trivial, hk.2⟩))).1 k_ hk_.symm) ?aF ?aO ?aB ?aS ?aL ?_; (case aP => exact Kd.M_row (Kd.R_mono (Kd.R_tight rfl (Kd.R_mono (ok' := fun k_ => ((fun _ => True)) k_ ∧ some k_ ≠ (u6 : Value).ownBlock) (Kd.R_apart' (HO220.out) (Kd.S_typed HO_6.out) (by decide)) (fun k_ hk => ⟨trivial, hk.2⟩))) (fun _ h_ => h_))); (case aB => exact (by repeat (first | (with_reducible first | exact HB.out | apply below_alloc | apply pw_below_drewN | apply below_drew1 | refine below_set ?_ GE217.out) | exact HB.out))); (case aF => exact (fun _ _ => trivial)); (case aO => exact (by (with_reducible repeat (first | apply Kd.S_alloc | apply Kd.S_drewN | apply Kd.S_drew)); exact Kd.S_mono HO_6.out (fun k_ hk => ⟨trivial, fun e_ => hk.2 e_⟩))); (case aS => exact (below_size (by repeat (first | (with_reducible first | exact HB.out | apply below_alloc | apply pw_below_drewN | apply below_drew1 | refine below_set ?_ GE217.out) | exact HB.out)))); (case aL => have := LMc6.out; omega); intro v222 w10 ho hb hg hat; rw [← Ny221.out] at ho; have n0_ := Aside0.mk (blk_grown (g := gb217) (o := .cells #[.int .i64 a0_0, .int .i64 a0_1, .int .i64 a0_2, .int .i64 a0_3, .int .i64 a0_4, .int .i64 a0_5, .int .i64 a0_6, .int .i64 a0_7, .int .i64 a0_8] 39 (0, 0)) (by (with_reducible repeat (first | refine blk_drewN ?_ _ | refine blk_drew ?_ | refine blk_alloc ?_ _)); exact BK217.out) hg (Kd.S_ne HO_6.out BK217.out (by decide))); have n1_ := Aside0.mk (hb); have n2_ := Aside0.mk (ho); clear BK217; clear HB; clear HO_6; clear HO220; have BK217 := n0_; have HB := n1_; have HO223 := n2_; clear n0_ n1_ n2_; clear ho hb hg hat)))
            go_roundg k1
            case measure => have := HK1.out; omega
            case rel => exact ⟨(y221), (wrap64 (x7_1 + 1)), (by first | rfl | (simp; done) | (simp [*]; done)), H', ⟨by have := HK1.out; omega⟩, ⟨by (with_reducible repeat (first | apply Kd.S_alloc | apply Kd.S_drewN | apply Kd.S_drew)); exact HO223.out⟩, ⟨by (with_reducible repeat (first | refine blk_drewN ?_ _ | refine blk_drew ?_ | refine blk_alloc ?_ _)); exact BK217.out⟩, ⟨by repeat (first | (with_reducible first | exact HB.out | apply below_alloc | apply pw_below_drewN | apply below_drew1 | refine below_set ?_ GE217.out) | exact HB.out)⟩⟩
          · rw [if_neg c6] at H
            exact absurd H (by simp)
        · rw [if_neg c5] at H
          exact absurd H (by simp)
      · rw [if_neg c4] at H
        have c4b0 : decide (x7_1 < a0_0) = false := decide_eq_false c4
        clear c4
        have H' := Aside0.mk H
        clear H
        have hcz12_0 : wr.cell? ⟨gb217, 0, none⟩ = some (.int .i64 a0_0) := (blk_cell BK217.out 0).trans rfl
        have hcz12_1 : wr.cell? ⟨gb217, 1, none⟩ = some (.int .i64 a0_1) := (blk_cell BK217.out 1).trans rfl
        have hcz12_2 : wr.cell? ⟨gb217, 2, none⟩ = some (.int .i64 a0_2) := (blk_cell BK217.out 2).trans rfl
        have hcz12_3 : wr.cell? ⟨gb217, 3, none⟩ = some (.int .i64 a0_3) := (blk_cell BK217.out 3).trans rfl
        have hcz12_4 : wr.cell? ⟨gb217, 4, none⟩ = some (.int .i64 a0_4) := (blk_cell BK217.out 4).trans rfl
        have hcz12_5 : wr.cell? ⟨gb217, 5, none⟩ = some (.int .i64 a0_5) := (blk_cell BK217.out 5).trans rfl
        have hcz12_6 : wr.cell? ⟨gb217, 6, none⟩ = some (.int .i64 a0_6) := (blk_cell BK217.out 6).trans rfl
        have hcz12_7 : wr.cell? ⟨gb217, 7, none⟩ = some (.int .i64 a0_7) := (blk_cell BK217.out 7).trans rfl
        have hcz12_8 : wr.cell? ⟨gb217, 8, none⟩ = some (.int .i64 a0_8) := (blk_cell BK217.out 8).trans rfl
        have hfz12_0 := blk_frozen BK217.out 0
        have hfz12_1 := blk_frozen BK217.out 1
        have hfz12_2 := blk_frozen BK217.out 2
        have hfz12_3 := blk_frozen BK217.out 3
        have hfz12_4 := blk_frozen BK217.out 4
        have hfz12_5 := blk_frozen BK217.out 5
        have hfz12_6 := blk_frozen BK217.out 6
        have hfz12_7 := blk_frozen BK217.out 7
        have hfz12_8 := blk_frozen BK217.out 8
        go_wp2
        repeat (go_quiet (fail); try go_wp2)
        go_loopg [8, 9] k1 (fun kq v8 v9 w' => ∃ (x6_2 : List (List Int)) (x8_2 : Int) (x9_2 : Int), v8 = .int .i64 x8_2 ∧ v9 = .int .i64 x9_2 ∧ Aside0 (chatelainelaw11_made.l1 kq l1 x6_2 x8_2 x9_2 a0_0 a0_1 a0_2 a0_3 a0_4 a0_5 a0_6 a0_7 a0_8 = some (r1, r2)) ∧ Aside0 (kq ≤ k1) ∧ Aside0 (Kd.S (Kd.slice 3 (Kd.int .i64)) 22 w' w.heap.size (fun _ => True) u6 x6_2) ∧ Aside0 (w'.heap[gb217]? = some (.cells #[.int .i64 a0_0, .int .i64 a0_1, .int .i64 a0_2, .int .i64 a0_3, .int .i64 a0_4, .int .i64 a0_5, .int .i64 a0_6, .int .i64 a0_7, .int .i64 a0_8] 39 (0, 0))) ∧ Aside0 (Below w.heap.size w w'))
        case atStart => exact ⟨(x6_1), (0), (0), (by first | rfl | (simp; done) | (simp [*]; done)), (by first | rfl | (simp; done) | (simp [*]; done)), H', ⟨Nat.le_refl _⟩, ⟨by (with_reducible repeat (first | apply Kd.S_alloc | apply Kd.S_drewN | apply Kd.S_drew)); exact HO_6.out⟩, ⟨by (with_reducible repeat (first | refine blk_drewN ?_ _ | refine blk_drew ?_ | refine blk_alloc ?_ _)); exact BK217.out⟩, ⟨by repeat (first | (with_reducible first | exact HB.out | apply below_alloc | apply pw_below_drewN | apply below_drew1 | refine below_set ?_ GE217.out) | exact HB.out)⟩⟩
        case round =>
          clear H'
          try clear c1
          try clear p2
          try clear c4
          try clear c4b0
          try clear c5
          try clear c5b0
          try clear c5b1
          try clear c6
          try clear p6
          try clear hcz12_0
          try clear hcz12_1
          try clear hcz12_2
          try clear hcz12_3
          try clear hcz12_4
          try clear hcz12_5
          try clear hcz12_6
          try clear hcz12_7
          try clear hcz12_8
          try clear hcz7_0
          try clear hcz7_1
          try clear hcz7_2
          try clear hcz7_3
          try clear hcz7_4
          try clear hcz7_5
          try clear hcz7_6
          try clear hcz7_7
          try clear hcz7_8
          try clear hfz12_0
          try clear hfz12_1
          try clear hfz12_2
          try clear hfz12_3
          try clear hfz12_4
          try clear hfz12_5
          try clear hfz12_6
          try clear hfz12_7
          try clear hfz12_8
          try clear hfz7_0
          try clear hfz7_1
          try clear hfz7_2
          try clear hfz7_3
          try clear hfz7_4
          try clear hfz7_5
          try clear hfz7_6
          try clear hfz7_7
          try clear hfz7_8
          try clear p2
          obtain ⟨x6_2, x8_2, x9_2, rfl, rfl, HA, HK2, HO_6, BK217, HB⟩ := hrel
          cases gk with
          | zero => exact absurd HA.out (by simp [chatelainelaw11_made.l1])
          | succ k2 =>
            have H := HA.out
            clear HA
            simp only [chatelainelaw11_made.l1] at H
            by_cases c13 : x9_2 < (l1.length : Int)
            · rw [if_pos c13] at H
              have c13b0 : decide (x9_2 < (l1.length : Int)) = true := decide_eq_true c13
              clear c13
              by_cases c14 : 0 ≤ x9_2
              · rw [if_pos c14] at H
                have c14b0 : decide (0 ≤ x9_2) = true := decide_eq_true c14
                clear c14
                replace H := Option.bind_eq_some_iff.mp H
                obtain ⟨t225, A150, H⟩ := H
                replace H : ((chatelainelaw0_Low.f (wrap64 (Int.tdiv (rd l1 x9_2) 8)) 256).bind fun t227 => (if 0 ≤ t225 then (if t225 < (x6_2.length : Int) then (if 0 ≤ t227 then (if t227 < ((rd_L3 x6_2 t225).length : Int) then (if (rd (rd_L3 x6_2 t225) t227) = 0 then (chatelainelaw11_made.l1 k2 l1 (x6_2.set (t225 : Int).toNat ((rd_L3 x6_2 t225).set (t227 : Int).toNat 1)) (wrap64 (x8_2 + 1)) (wrap64 (x9_2 + 1)) a0_0 a0_1 a0_2 a0_3 a0_4 a0_5 a0_6 a0_7 a0_8) else (chatelainelaw11_made.l1 k2 l1 x6_2 x8_2 (wrap64 (x9_2 + 1)) a0_0 a0_1 a0_2 a0_3 a0_4 a0_5 a0_6 a0_7 a0_8)) else (none)) else (none)) else (none)) else (none))) = some (r1, r2) := H
                have A15 := Aside0.mk A150
                clear A150
                replace H := Option.bind_eq_some_iff.mp H
                obtain ⟨t227, A160, H⟩ := H
                replace H : (if 0 ≤ t225 then (if t225 < (x6_2.length : Int) then (if 0 ≤ t227 then (if t227 < ((rd_L3 x6_2 t225).length : Int) then (if (rd (rd_L3 x6_2 t225) t227) = 0 then (chatelainelaw11_made.l1 k2 l1 (x6_2.set (t225 : Int).toNat ((rd_L3 x6_2 t225).set (t227 : Int).toNat 1)) (wrap64 (x8_2 + 1)) (wrap64 (x9_2 + 1)) a0_0 a0_1 a0_2 a0_3 a0_4 a0_5 a0_6 a0_7 a0_8) else (chatelainelaw11_made.l1 k2 l1 x6_2 x8_2 (wrap64 (x9_2 + 1)) a0_0 a0_1 a0_2 a0_3 a0_4 a0_5 a0_6 a0_7 a0_8)) else (none)) else (none)) else (none)) else (none)) = some (r1, r2) := H
                have A16 := Aside0.mk A160
                clear A160
                by_cases c17 : 0 ≤ t225
                · rw [if_pos c17] at H
                  have c17b0 : decide (0 ≤ t225) = true := decide_eq_true c17
                  clear c17
                  by_cases c18 : t225 < (x6_2.length : Int)
                  · rw [if_pos c18] at H
                    have c18b0 : decide (t225 < (x6_2.length : Int)) = true := decide_eq_true c18
                    clear c18
                    by_cases c19 : 0 ≤ t227
                    · rw [if_pos c19] at H
                      have c19b0 : decide (0 ≤ t227) = true := decide_eq_true c19
                      clear c19
                      by_cases c20 : t227 < ((rd_L3 x6_2 t225).length : Int)
                      · rw [if_pos c20] at H
                        have c20b0 : decide (t227 < ((rd_L3 x6_2 t225).length : Int)) = true := decide_eq_true c20
                        clear c20
                        by_cases c21 : (rd (rd_L3 x6_2 t225) t227) = 0
                        · rw [if_pos c21] at H
                          have c21b0 : ((rd (rd_L3 x6_2 t225) t227) == 0) = true := beq_iff_eq.mpr c21
                          have c21b1 : ((rd (rd_L3 x6_2 t225) t227) != 0) = false := bne_eq_false_iff_eq.mpr c21
                          clear c21
                          obtain ⟨y231, hy231⟩ : ∃ y_ : List Int, y_ = ((rd_L3 x6_2 t225).set (t227 : Int).toNat 1) := ⟨_, rfl⟩
                          replace H : (chatelainelaw11_made.l1 k2 l1 (x6_2.set (t225 : Int).toNat y231) (wrap64 (x8_2 + 1)) (wrap64 (x9_2 + 1)) a0_0 a0_1 a0_2 a0_3 a0_4 a0_5 a0_6 a0_7 a0_8) = some (r1, r2) := by first | (rw [hy231]; with_reducible exact H) | (have H2_ := (Option.bind_some _ _).symm.trans H; rw [hy231]; with_reducible exact H2_) | (have H2_ := (Option.bind_some _ _).symm.trans H; with_reducible exact H2_) | with_reducible exact H | (rw [hy231]; exact H) | exact H
                          have Ny231 := Aside0.mk hy231
                          clear hy231
                          obtain ⟨y233, hy233⟩ : ∃ y_ : List (List Int), y_ = (x6_2.set (t225 : Int).toNat y231) := ⟨_, rfl⟩
                          replace H : (chatelainelaw11_made.l1 k2 l1 y233 (wrap64 (x8_2 + 1)) (wrap64 (x9_2 + 1)) a0_0 a0_1 a0_2 a0_3 a0_4 a0_5 a0_6 a0_7 a0_8) = some (r1, r2) := by first | (rw [hy233]; with_reducible exact H) | (have H2_ := (Option.bind_some _ _).symm.trans H; rw [hy233]; with_reducible exact H2_) | (have H2_ := (Option.bind_some _ _).symm.trans H; with_reducible exact H2_) | with_reducible exact H | (rw [hy233]; exact H) | exact H
                          have Ny233 := Aside0.mk hy233
                          clear hy233
                          have H' := Aside0.mk H
                          clear H
                          have p224 : 0 ≤ (x9_2 : Int) := of_decide_eq_true (by first | (with_reducible assumption) | assumption)
                          have q224 : x9_2 < (l1.length : Int) := of_decide_eq_true (by first | (with_reducible assumption) | assumption)
                          obtain ⟨ad224, e224, hx224_0⟩ := Kd.at_int HR1.out x9_2 p224 q224
                          cases e224
                          replace hx224_0 := (HB.out.cell (World.block_lt_of_cell? w _ hx224_0)).trans hx224_0
                          replace p224 := eq_true p224
                          replace q224 := eq_true q224
                          have hcz23_0 : wr.cell? ⟨gb217, 0, none⟩ = some (.int .i64 a0_0) := (blk_cell BK217.out 0).trans rfl
                          have hcz23_1 : wr.cell? ⟨gb217, 1, none⟩ = some (.int .i64 a0_1) := (blk_cell BK217.out 1).trans rfl
                          have hcz23_2 : wr.cell? ⟨gb217, 2, none⟩ = some (.int .i64 a0_2) := (blk_cell BK217.out 2).trans rfl
                          have hcz23_3 : wr.cell? ⟨gb217, 3, none⟩ = some (.int .i64 a0_3) := (blk_cell BK217.out 3).trans rfl
                          have hcz23_4 : wr.cell? ⟨gb217, 4, none⟩ = some (.int .i64 a0_4) := (blk_cell BK217.out 4).trans rfl
                          have hcz23_5 : wr.cell? ⟨gb217, 5, none⟩ = some (.int .i64 a0_5) := (blk_cell BK217.out 5).trans rfl
                          have hcz23_6 : wr.cell? ⟨gb217, 6, none⟩ = some (.int .i64 a0_6) := (blk_cell BK217.out 6).trans rfl
                          have hcz23_7 : wr.cell? ⟨gb217, 7, none⟩ = some (.int .i64 a0_7) := (blk_cell BK217.out 7).trans rfl
                          have hcz23_8 : wr.cell? ⟨gb217, 8, none⟩ = some (.int .i64 a0_8) := (blk_cell BK217.out 8).trans rfl
                          have hfz23_0 := blk_frozen BK217.out 0
                          have hfz23_1 := blk_frozen BK217.out 1
                          have hfz23_2 := blk_frozen BK217.out 2
                          have hfz23_3 := blk_frozen BK217.out 3
                          have hfz23_4 := blk_frozen BK217.out 4
                          have hfz23_5 := blk_frozen BK217.out 5
                          have hfz23_6 := blk_frozen BK217.out 6
                          have hfz23_7 := blk_frozen BK217.out 7
                          have hfz23_8 := blk_frozen BK217.out 8
                          have HS0 := Aside0.mk (And.intro hx224_0 hcz23_0)
                          have A16w : Aside0 (chatelainelaw0_Low.f (IntKind.i64.wrap ((rd l1 x9_2).tdiv 8)) 256 = some t227) := ⟨by rw [i64_w]; exact A16.out⟩
                          obtain ⟨a, rfl⟩ := Int.eq_ofNat_of_zero_le (of_decide_eq_true c17b0)
                          obtain ⟨b, rfl⟩ := Int.eq_ofNat_of_zero_le (of_decide_eq_true c19b0)
                          have ca : a < x6_2.length := by have := of_decide_eq_true c18b0; omega
                          have eL : rd_L3 x6_2 (a : Int) = x6_2.getD a [] := by unfold rd_L3; rw [Int.toNat_natCast]
                          rw [eL] at c20b0 c21b0 c21b1
                          obtain ⟨m, hm⟩ : ∃ m, m = (x6_2.getD a []).length := ⟨_, rfl⟩
                          have cb : b < m := by have := of_decide_eq_true c20b0; omega
                          have ha1 : ((a : Int) < (x6_2.length : Int)) = True := eq_true (by omega)
                          have ha2 : (0 ≤ (a : Int)) = True := eq_true (by omega)
                          have hb1 : ((b : Int) < (m : Int)) = True := eq_true (by omega)
                          have hb2 : (0 ≤ (b : Int)) = True := eq_true (by omega)
                          obtain ⟨gw, cw, rfl, _, _, _⟩ := Kd.S_form HO_6.out (by omega)
                          have HM := Aside0.mk hm
                          clear hm
                          clear hcz23_0 hcz23_1 hcz23_2 hcz23_3 hcz23_4 hcz23_5 hcz23_6 hcz23_7 hcz23_8 hfz23_0 hfz23_1 hfz23_2 hfz23_3 hfz23_4 hfz23_5 hfz23_6 hfz23_7 hfz23_8
                          go_wp2
                          go_region_held3 (fun w' => w'.cell? (ad224.add x9_2.toNat) = some (.int .i64 (rd l1 x9_2)) ∧ w'.cell? ⟨gb217, 0, none⟩ = some (.int .i64 a0_0)) (first | exact HS0.out | exact H3w.out | exact H4w.out | go_keep) (first | (go_at_call 7; (with_reducible refine (chatelainelaw0_Low.calls _ _ _ _ A16w.out).mono ?_); rintro e w4w ⟨rfl, hd⟩; have hb := hd.below; clear hd; have S4w := Aside0.mk (Kd.S_below S3w.out hb); have B4w := Aside0.mk (below_step B3w.out hb); have K4w := Aside0.mk (blk_below K3w.out hb); have H4w := Aside0.mk (And.intro (pw_cell_below hb H3w.out.1) (pw_cell_below hb H3w.out.2)); clear hb) | (go_at_call 7; (with_reducible refine (chatelainelaw0_Low.calls _ _ _ _ A15.out).mono ?_); rintro e w3w ⟨rfl, hd⟩; have hb := below_undrew hd.below; clear hd; have S3w := Aside0.mk (Kd.S_below HO_6.out hb); have B3w := Aside0.mk (below_step HB.out hb); have K3w := Aside0.mk (blk_below BK217.out hb); have H3w := Aside0.mk (And.intro (pw_cell_below hb HS0.out.1) (pw_cell_below hb HS0.out.2)); clear hb))
                          all_goals
                            obtain ⟨g1, c1', hg1⟩ := cell2 S4w.out a ca (n2 := m) (by omega) HM.out.symm
                            obtain ⟨t1, t2, t3, t4, t5⟩ := put2w S4w.out a ca b cb HM.out.symm hg1
                            have hrd : rd (x6_2.getD a []) (b : Int) = (x6_2.getD a []).getD b 0 := by unfold rd; rw [Int.toNat_natCast]
                            rw [hrd] at c21b0 c21b1
                            obtain ⟨y0, hy0⟩ : ∃ y0, y0 = (x6_2.getD a []).getD b 0 := ⟨_, rfl⟩
                            rw [← hy0] at c21b0 c21b1 t3
                            have hgne : gb217 ≠ g1 := by
                              rintro rfl
                              obtain ⟨cells, hcs⟩ := t2
                              rw [K4w.out] at hcs
                              injection hcs with q
                              injection q with _ q _
                              exact absurd q (by decide)
                            have S5w := Aside0.mk (t5 1)
                            have B5w := Aside0.mk (below_set (j := b) (v := .int .i64 1) B4w.out t1)
                            have K5w := Aside0.mk ((Below.heap_setCell w4w ⟨g1, b, none⟩ (.int .i64 1) gb217 hgne).trans K4w.out)
                            clear t1 t2 t5 hgne hy0 hrd
                            go_wp2
                          go_roundg k2
                          case measure => have := HK1.out; have := HK2.out; omega
                          case rel => exact ⟨(y233), (wrap64 (x8_2 + 1)), (wrap64 (x9_2 + 1)), (by first | rfl | (simp; done) | (simp [*]; done)), (by first | rfl | (simp; done) | (simp [*]; done)), H', ⟨by have := HK1.out; have := HK2.out; omega⟩, ⟨by rw [Ny233.out, Ny231.out, eL, Int.toNat_natCast, Int.toNat_natCast]; exact S5w.out⟩, K5w, B5w⟩
                        · rw [if_neg c21] at H
                          have c21b0 : ((rd (rd_L3 x6_2 t225) t227) == 0) = false := beq_eq_false_iff_ne.mpr c21
                          have c21b1 : ((rd (rd_L3 x6_2 t225) t227) != 0) = true := bne_iff_ne.mpr c21
                          have H' := Aside0.mk H
                          clear H
                          have p224 : 0 ≤ (x9_2 : Int) := of_decide_eq_true (by first | (with_reducible assumption) | assumption)
                          have q224 : x9_2 < (l1.length : Int) := of_decide_eq_true (by first | (with_reducible assumption) | assumption)
                          obtain ⟨ad224, e224, hx224_0⟩ := Kd.at_int HR1.out x9_2 p224 q224
                          cases e224
                          replace hx224_0 := (HB.out.cell (World.block_lt_of_cell? w _ hx224_0)).trans hx224_0
                          replace p224 := eq_true p224
                          replace q224 := eq_true q224
                          have hcz27_0 : wr.cell? ⟨gb217, 0, none⟩ = some (.int .i64 a0_0) := (blk_cell BK217.out 0).trans rfl
                          have hcz27_1 : wr.cell? ⟨gb217, 1, none⟩ = some (.int .i64 a0_1) := (blk_cell BK217.out 1).trans rfl
                          have hcz27_2 : wr.cell? ⟨gb217, 2, none⟩ = some (.int .i64 a0_2) := (blk_cell BK217.out 2).trans rfl
                          have hcz27_3 : wr.cell? ⟨gb217, 3, none⟩ = some (.int .i64 a0_3) := (blk_cell BK217.out 3).trans rfl
                          have hcz27_4 : wr.cell? ⟨gb217, 4, none⟩ = some (.int .i64 a0_4) := (blk_cell BK217.out 4).trans rfl
                          have hcz27_5 : wr.cell? ⟨gb217, 5, none⟩ = some (.int .i64 a0_5) := (blk_cell BK217.out 5).trans rfl
                          have hcz27_6 : wr.cell? ⟨gb217, 6, none⟩ = some (.int .i64 a0_6) := (blk_cell BK217.out 6).trans rfl
                          have hcz27_7 : wr.cell? ⟨gb217, 7, none⟩ = some (.int .i64 a0_7) := (blk_cell BK217.out 7).trans rfl
                          have hcz27_8 : wr.cell? ⟨gb217, 8, none⟩ = some (.int .i64 a0_8) := (blk_cell BK217.out 8).trans rfl
                          have hfz27_0 := blk_frozen BK217.out 0
                          have hfz27_1 := blk_frozen BK217.out 1
                          have hfz27_2 := blk_frozen BK217.out 2
                          have hfz27_3 := blk_frozen BK217.out 3
                          have hfz27_4 := blk_frozen BK217.out 4
                          have hfz27_5 := blk_frozen BK217.out 5
                          have hfz27_6 := blk_frozen BK217.out 6
                          have hfz27_7 := blk_frozen BK217.out 7
                          have hfz27_8 := blk_frozen BK217.out 8
                          have HS0 := Aside0.mk (And.intro hx224_0 hcz27_0)
                          have A16w : Aside0 (chatelainelaw0_Low.f (IntKind.i64.wrap ((rd l1 x9_2).tdiv 8)) 256 = some t227) := ⟨by rw [i64_w]; exact A16.out⟩
                          obtain ⟨a, rfl⟩ := Int.eq_ofNat_of_zero_le (of_decide_eq_true c17b0)
                          obtain ⟨b, rfl⟩ := Int.eq_ofNat_of_zero_le (of_decide_eq_true c19b0)
                          have ca : a < x6_2.length := by have := of_decide_eq_true c18b0; omega
                          have eL : rd_L3 x6_2 (a : Int) = x6_2.getD a [] := by unfold rd_L3; rw [Int.toNat_natCast]
                          rw [eL] at c20b0 c21b0 c21b1
                          obtain ⟨m, hm⟩ : ∃ m, m = (x6_2.getD a []).length := ⟨_, rfl⟩
                          have cb : b < m := by have := of_decide_eq_true c20b0; omega
                          have ha1 : ((a : Int) < (x6_2.length : Int)) = True := eq_true (by omega)
                          have ha2 : (0 ≤ (a : Int)) = True := eq_true (by omega)
                          have hb1 : ((b : Int) < (m : Int)) = True := eq_true (by omega)
                          have hb2 : (0 ≤ (b : Int)) = True := eq_true (by omega)
                          obtain ⟨gw, cw, rfl, _, _, _⟩ := Kd.S_form HO_6.out (by omega)
                          have HM := Aside0.mk hm
                          clear hm
                          clear hcz27_0 hcz27_1 hcz27_2 hcz27_3 hcz27_4 hcz27_5 hcz27_6 hcz27_7 hcz27_8 hfz27_0 hfz27_1 hfz27_2 hfz27_3 hfz27_4 hfz27_5 hfz27_6 hfz27_7 hfz27_8
                          go_wp2
                          go_region_held3 (fun w' => w'.cell? (ad224.add x9_2.toNat) = some (.int .i64 (rd l1 x9_2)) ∧ w'.cell? ⟨gb217, 0, none⟩ = some (.int .i64 a0_0)) (first | exact HS0.out | exact H3w.out | exact H4w.out | go_keep) (first | (go_at_call 7; (with_reducible refine (chatelainelaw0_Low.calls _ _ _ _ A16w.out).mono ?_); rintro e w4w ⟨rfl, hd⟩; have hb := hd.below; clear hd; have S4w := Aside0.mk (Kd.S_below S3w.out hb); have B4w := Aside0.mk (below_step B3w.out hb); have K4w := Aside0.mk (blk_below K3w.out hb); have H4w := Aside0.mk (And.intro (pw_cell_below hb H3w.out.1) (pw_cell_below hb H3w.out.2)); clear hb) | (go_at_call 7; (with_reducible refine (chatelainelaw0_Low.calls _ _ _ _ A15.out).mono ?_); rintro e w3w ⟨rfl, hd⟩; have hb := below_undrew hd.below; clear hd; have S3w := Aside0.mk (Kd.S_below HO_6.out hb); have B3w := Aside0.mk (below_step HB.out hb); have K3w := Aside0.mk (blk_below BK217.out hb); have H3w := Aside0.mk (And.intro (pw_cell_below hb HS0.out.1) (pw_cell_below hb HS0.out.2)); clear hb))
                          all_goals
                            obtain ⟨g1, c1', hg1⟩ := cell2 S4w.out a ca (n2 := m) (by omega) HM.out.symm
                            obtain ⟨t1, t2, t3, t4, t5⟩ := put2w S4w.out a ca b cb HM.out.symm hg1
                            have hrd : rd (x6_2.getD a []) (b : Int) = (x6_2.getD a []).getD b 0 := by unfold rd; rw [Int.toNat_natCast]
                            rw [hrd] at c21b0 c21b1
                            obtain ⟨y0, hy0⟩ : ∃ y0, y0 = (x6_2.getD a []).getD b 0 := ⟨_, rfl⟩
                            rw [← hy0] at c21b0 c21b1 t3
                            have hgne : gb217 ≠ g1 := by
                              rintro rfl
                              obtain ⟨cells, hcs⟩ := t2
                              rw [K4w.out] at hcs
                              injection hcs with q
                              injection q with _ q _
                              exact absurd q (by decide)
                            have S5w := Aside0.mk (t5 1)
                            have B5w := Aside0.mk (below_set (j := b) (v := .int .i64 1) B4w.out t1)
                            have K5w := Aside0.mk ((Below.heap_setCell w4w ⟨g1, b, none⟩ (.int .i64 1) gb217 hgne).trans K4w.out)
                            clear t1 t2 t5 hgne hy0 hrd
                            go_wp2
                          go_roundg k2
                          case measure => have := HK1.out; have := HK2.out; omega
                          case rel => exact ⟨(x6_2), (x8_2), (wrap64 (x9_2 + 1)), (by first | rfl | (simp; done) | (simp [*]; done)), (by first | rfl | (simp; done) | (simp [*]; done)), H', ⟨by have := HK1.out; have := HK2.out; omega⟩, S4w, K4w, B4w⟩
                      · rw [if_neg c20] at H
                        exact absurd H (by simp)
                    · rw [if_neg c19] at H
                      exact absurd H (by simp)
                  · rw [if_neg c18] at H
                    exact absurd H (by simp)
                · rw [if_neg c17] at H
                  exact absurd H (by simp)
              · rw [if_neg c14] at H
                exact absurd H (by simp)
            · rw [if_neg c13] at H
              have c13b0 : decide (x9_2 < (l1.length : Int)) = false := decide_eq_false c13
              clear c13
              simp only [Option.some.injEq, Prod.mk.injEq] at H
              obtain ⟨rfl, rfl⟩ := H
              go_wp2
              repeat (go_quiet (fail); try go_wp2)
              go_ret2
              exact ⟨_, by first | rfl | (simp [errW_none, errW_some] <;> rfl) | (simp [*, errW_none, errW_some] <;> rfl), by (with_reducible repeat (first | apply Kd.S_alloc | apply Kd.S_drewN | apply Kd.S_drew)); exact HO_6.out, by repeat (first | (with_reducible first | exact HB.out | apply below_alloc | apply pw_below_drewN | apply below_drew1 | refine below_set ?_ GE217.out) | exact HB.out)⟩

end Go.Proofs.YtggiddekbocokaaDoor.PLP
