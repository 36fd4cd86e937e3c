import Derived.Test.YtagijaijjjaolaaDoorDkO
namespace Go.Proofs.YtagijaijjjaolaaDoor.PBL
open Go.RowKit Go.Proofs.YtagijaijjjaolaaDoorW.PrintWords Go.Proofs.YtagijaijjjaolaaDoorW.PrintLast Go.Proofs.YtagijaijjjaolaaDoorW.PrintMore
attribute [local go_sem] max2_int min2_int max_two min_two max_three min_three max_four min_four
set_option linter.unusedVariables false
set_option linter.unusedSimpArgs false
section
variable {ok ok2 : Nat → Prop}
theorem over_l0 : ∀ (m i k : Nat) (x : List Int), x.length < 140737488355328 → i + m = x.length → m < k → chatelainelaw0_OverBytes.l0 k x (i : Int) = some ()
  | 0, i, k + 1, x, hx, hi, hk => by rw [chatelainelaw0_OverBytes.l0, if_neg (by omega), if_pos (by omega)]
  | m + 1, i, k + 1, x, hx, hi, hk => by
    have hw : wrap64 ((i : Int) + 1) = ((i + 1 : Nat) : Int) := by unfold wrap64; omega
    rw [chatelainelaw0_OverBytes.l0, if_pos (by omega), if_pos (by omega), hw,
      over_l0 m (i + 1) k _ (by rw [List.length_set]; omega) (by rw [List.length_set]; omega) (by omega)]
theorem over_f (x : List Int) (hx : x.length < 1000) : chatelainelaw0_OverBytes.f 2000 x = some () := over_l0 x.length 0 2000 x (by omega) (by omega) (by omega)
/-- What was made since w0 is written over. -/
theorem Ob.calls (w0 w : World) (u : Value) (l : List Int) (base : Nat) (hB : Below w0.heap.size w0 w) (hbase : w0.heap.size ≤ base) (h : Kd.R (Kd.int .u8) 5 w base (fun _ => True) u l) (hl : l.length < 1000) : Calls Tryd.prog 35 #[u] w fun e w' => e = .returned (.tuple #[]) ∧ Below w0.heap.size w0 w' ∧ Kept w w' (fun k => some k = u.ownBlock) :=
  chatelainelaw0_OverBytes.calls 2000 (fun k => some k = u.ownBlock) u l w0 w hB (Kd.R_tight rfl (Kd.R_lower h hbase)) (over_f l hl)
theorem R_after_over {w5 w6 : World} {base2 : Nat} {va vb : Value} {lb : List Int} (hb : Kd.R (Kd.int .u8) 5 w5 base2 (fun _ => True) vb lb) (hk : Kept w5 w6 (fun k => some k = va.ownBlock)) (ha : ∀ k, va.ownBlock = some k → k < base2) : Kd.R (Kd.int .u8) 5 w6 base2 (fun _ => True) vb lb :=
  Kd.R_mono (Kd.R_kept (Kd.R_bound hb) hk (fun k hk1 e => by have := ha k e.symm; have := hk1.2.1; omega)) (fun _ _ => trivial)
theorem St.calls (A : Option Addr) (c : Nat) (l : List Int) (A' : Option Addr) (c' : Nat) (w : World) (h1 : Kd.C (Kd.int .u8) w A l.length l) (hc : l.length ≤ c) (h2 : Kd.C (Kd.int .u8) w A' l.length l) (hc' : l.length ≤ c') (hl : l.length < 100000) : Calls Tryd.prog 16 #[.slice A l.length c, .slice A' l.length c'] w fun e w' => e = .returned (.bool true) ∧ Below w.heap.size w w' :=
  (Sb.calls A c l A' c' l w h1 hc h2 hc' hl).mono fun e w' ⟨q1, q2⟩ => ⟨by rw [q1, decide_eq_true rfl], q2⟩
theorem Dk.el2 {T : TypeId} {w : World} {o : Own} {s : DS} (h : Dk ok T w o s) {i : Nat} (hi : i < s.now.length) {lx ly : List Int} (hx : s.now[i]? = some lx) (hy : s.firm[i]? = some ly) : lx.length = 512 ∧ ly.length = 512 ∧ (∃ q c, lx.length ≤ c ∧ w.cell? ⟨o.bn, i, none⟩ = some (.slice (some ⟨q, 0, none⟩) lx.length c) ∧ Kd.C (Kd.int .u8) w (some ⟨q, 0, none⟩) lx.length lx) ∧ ∃ q c, ly.length ≤ c ∧ w.cell? ⟨o.bf, i, none⟩ = some (.slice (some ⟨q, 0, none⟩) ly.length c) ∧ Kd.C (Kd.int .u8) w (some ⟨q, 0, none⟩) ly.length ly := by
  obtain ⟨vs, r, b⟩ := h.vn
  obtain ⟨vf, rf, bf⟩ := h.vf
  have hi2 : i < s.firm.length := by rw [h.nf]; exact hi
  obtain ⟨u, hu, hb⟩ := b.at hi
  obtain ⟨u', hu', hb'⟩ := bf.at hi2
  rw [List.getElem?_eq_getElem hi] at hx
  rw [List.getElem?_eq_getElem hi2] at hy
  rw [Option.some.inj hx] at hb
  rw [Option.some.inj hy] at hb'
  obtain ⟨q, c, rfl, hc, hC⟩ := hb.reads
  obtain ⟨q', c', rfl, hc', hC'⟩ := hb'.reads
  exact ⟨by obtain ⟨_, _, _, _, _, hl, _⟩ := hb; exact hl, by obtain ⟨_, _, _, _, _, hl, _⟩ := hb'; exact hl, ⟨q, c, hc, r.cell hu, hC⟩, ⟨q', c', hc', rf.cell hu', hC'⟩⟩

set_option maxHeartbeats 8000000 in
set_option maxRecDepth 100000 in
theorem SaBad.calls (o o2 : Own) (s : DS) (w : World) (h : Dk (fun _ => True) 58 w o s) (h2 : Dk (fun _ => True) 64 w o2 s) (hg : w.cell? ⟨0, 0, none⟩ = some (.iface 94 (.agg #[.pointer (some ⟨1, 28, none⟩)]))) (i : Int) (hi : i < 0 ∨ (s.now.length : Int) ≤ i) :
    Calls Tryd.prog 20 #[.pointer (some ⟨o.g, 0, none⟩), .pointer (some ⟨o2.g, 0, none⟩), .int .i64 i] w fun e w' => e = .returned (.bool true) ∧ Below w.heap.size w w' := by
  have R1 : Aside0 (∀ w, Dk (fun _ => True) 58 w o s → Calls Tryd.prog 15 #[.pointer (some ⟨o.g, 0, none⟩), .int .i64 i] w fun e w' => ∃ v, e = .returned (.tuple #[.slice none 0 0, v]) ∧ FaultAt w' v 2 ∧ Below w.heap.size w w') := ⟨fun w h => Dk_ReadBad.calls o s w h i hi⟩
  have R2 : Aside0 (∀ w, Dk (fun _ => True) 58 w o s → Calls Tryd.prog 24 #[.pointer (some ⟨o.g, 0, none⟩), .int .i64 i] w fun e w' => ∃ v, e = .returned (.tuple #[.slice none 0 0, v]) ∧ FaultAt w' v 2 ∧ Below w.heap.size w w') := ⟨fun w h => Dk_FirmBad.calls o s w h i hi⟩
  have R3 : Aside0 (∀ w, Dk (fun _ => True) 64 w o2 s → Calls Tryd.prog 38 #[.pointer (some ⟨o2.g, 0, none⟩), .int .i64 i] w fun e w' => e = .returned (.bool false) ∧ w' = w) := ⟨fun w h => by have := Rk_There.calls o2 s w h i; rw [decide_eq_false (by omega)] at this; exact this⟩
  have HD := Aside0.mk h
  have H2 := Aside0.mk h2
  have HG := Aside0.mk hg
  clear h h2 hi hg
  go_enter Tryd.func20, Tryd.ntmps20
  go_wp2_with (first | (go_at_call 25; with_reducible refine (E5.out.num (by decide) (pw_cell_below B3.out HG.out)).mono ?_; rintro e w4 ⟨rfl, hb4⟩; have B4 := Aside0.mk (below_step B3.out hb4); clear hb4) | (go_at_call 25; with_reducible refine (E1.out.num (by decide) (pw_cell_below B2.out HG.out)).mono ?_; rintro e w3 ⟨rfl, hb3⟩; have B3 := Aside0.mk (below_step B2.out hb3); have E5 := Aside0.mk (E2.out.below hb3); clear hb3) | (go_at_call 38; with_reducible refine (R3.out _ (H2.out.below B2.out)).mono ?_; rintro e w2b ⟨rfl, rfl⟩) | (go_at_call 24; with_reducible refine (R2.out _ (HD.out.below B1.out)).mono ?_; rintro e w2 ⟨v2, rfl, he2, hb2⟩; have B2 := Aside0.mk (below_step B1.out hb2); have E1 := Aside0.mk (E0.out.below hb2); have E2 := Aside0.mk he2; clear hb2 he2) | (go_at_call 15; with_reducible refine (R1.out _ HD.out).mono ?_; rintro e w1 ⟨v1, rfl, he1, hb1⟩; have B1 := Aside0.mk hb1; have E0 := Aside0.mk he1; clear hb1 he1))
  go_ret
  exact ⟨rfl, B4.out⟩

set_option maxHeartbeats 8000000 in
set_option maxRecDepth 100000 in
theorem SaOk.calls (o o2 : Own) (s : DS) (w : World) (h : Dk (fun _ => True) 58 w o s) (h2 : Dk (fun _ => True) 64 w o2 s) (hg : w.cell? ⟨0, 0, none⟩ = some (.iface 94 (.agg #[.pointer (some ⟨1, 28, none⟩)]))) (i : Nat) (hi : i < s.now.length) :
    Calls Tryd.prog 20 #[.pointer (some ⟨o.g, 0, none⟩), .pointer (some ⟨o2.g, 0, none⟩), .int .i64 (i : Int)] w fun e w' => e = .returned (.bool true) ∧ Below w.heap.size w w' := by
  have hi2 : i < s.firm.length := by rw [h.nf]; exact hi
  obtain ⟨lx, hx⟩ : ∃ lx, s.now[i]? = some lx := ⟨_, List.getElem?_eq_getElem hi⟩
  obtain ⟨ly, hy⟩ : ∃ ly, s.firm[i]? = some ly := ⟨_, List.getElem?_eq_getElem hi2⟩
  obtain ⟨hlx, hly, hl7⟩ := h.el2 hi hx hy
  clear hl7
  have R1 : Aside0 (∀ w, Dk (fun _ => True) 58 w o s → Calls Tryd.prog 15 #[.pointer (some ⟨o.g, 0, none⟩), .int .i64 (i : Int)] w fun e w' => ∃ v, e = .returned (.tuple #[v, .nilIface]) ∧ Kd.R (Kd.int .u8) 5 w' w.heap.size (fun _ => True) v lx ∧ Below w.heap.size w w') := ⟨fun w h => Dk_Read.calls o s w h i hi lx hx (clone_f lx (by omega))⟩
  have R2 : Aside0 (∀ w, Dk (fun _ => True) 58 w o s → Calls Tryd.prog 24 #[.pointer (some ⟨o.g, 0, none⟩), .int .i64 (i : Int)] w fun e w' => ∃ v, e = .returned (.tuple #[v, .nilIface]) ∧ Kd.R (Kd.int .u8) 5 w' w.heap.size (fun _ => True) v ly ∧ Below w.heap.size w w') := ⟨fun w h => Dk_Firm.calls o s w h i hi ly hy (clone_f ly (by omega))⟩
  have R3 : Aside0 (∀ w, Dk (fun _ => True) 64 w o2 s → Calls Tryd.prog 38 #[.pointer (some ⟨o2.g, 0, none⟩), .int .i64 (i : Int)] w fun e w' => e = .returned (.bool true) ∧ w' = w) := ⟨fun w h => by have := Rk_There.calls o2 s w h i; rw [decide_eq_true (by omega)] at this; exact this⟩
  have HD := Aside0.mk h
  have H2 := Aside0.mk h2
  have HG := Aside0.mk hg
  have HI := Aside0.mk hi
  have HXY := Aside0.mk (And.intro hx hy)
  have HLX := Aside0.mk hlx
  have HLY := Aside0.mk hly
  have p1 : (0 : Int) ≤ (i : Int) := by omega
  have p2 : (i : Int) < (s.now.length : Int) := by omega
  have ab := add_plain o2.bn i
  have af := add_plain o2.bf i
  clear h h2 hi hi2 hg hx hy hlx hly
  go_enter Tryd.func20, Tryd.ntmps20
  go_wp2_with (first
    | (go_at_call 35; with_reducible refine (Ob.calls w _ _ ly w1.heap.size B5.out B1.out.size RB5.out (by have := HLY.out; omega)).mono ?_; rintro e w6 ⟨rfl, hb6, _⟩; have B6 := Aside0.mk hb6; clear hb6)
    | (go_at_call 35; with_reducible refine (Ob.calls w _ _ lx w.heap.size B4.out (Nat.le_refl _) RA4.out (by have := HLX.out; omega)).mono ?_; rintro e w5 ⟨rfl, hb5, hk5⟩; have B5 := Aside0.mk hb5; have RB5 := Aside0.mk (R_after_over RB4.out hk5 RAL.out); clear hb5 hk5)
    | (go_at_call 16; with_reducible refine (St.calls A2 c2 ly _ _ _ (Kd.R_reads' RB3.out).2.2 (Kd.R_reads' RB3.out).2.1 CY3.out.2 CY3.out.1 (by have := HLY.out; omega)).mono ?_; rintro e w4 ⟨rfl, hb4⟩; have B4 := Aside0.mk (below_step B3.out hb4); have RA4 := Aside0.mk (Kd.R_below RA3.out hb4); have RB4 := Aside0.mk (Kd.R_below RB3.out hb4); clear hb4)
    | (go_at_call 16; with_reducible refine (St.calls A1 c1 lx _ _ _ (Kd.R_reads' RA2.out).2.2 (Kd.R_reads' RA2.out).2.1 CX2.out.2 CX2.out.1 (by have := HLX.out; omega)).mono ?_; rintro e w3 ⟨rfl, hb3⟩; have B3 := Aside0.mk (below_step B2.out hb3); have RA3 := Aside0.mk (Kd.R_below RA2.out hb3); have RB3 := Aside0.mk (Kd.R_below RB2.out hb3); have D3 := Aside0.mk (H2.out.below B3.out); have f0 := D3.out.c0 rfl; have f1 := D3.out.c1 rfl; obtain ⟨hl8, hl9, hl7, qy, cy, hcy, ky, hCy⟩ := D3.out.el2 HI.out HXY.out.1 HXY.out.2; have CY3 := Aside0.mk (And.intro hcy hCy); clear hcy hCy hb3 hl8 hl9 hl7)
    | (go_at_call 38; with_reducible refine (R3.out _ D2.out).mono ?_; rintro e w2b ⟨rfl, rfl⟩)
    | (go_at_call 24; with_reducible refine (R2.out _ (HD.out.below B1.out)).mono ?_; rintro e w2 ⟨v2, rfl, hr2, hb2⟩; have B2 := Aside0.mk (below_step B1.out hb2); have RA2 := Aside0.mk (Kd.R_below RA1.out hb2); obtain ⟨A2, c2, rfl⟩ := Kd.R_slice hr2; have RB2 := Aside0.mk hr2; have D2 := Aside0.mk (H2.out.below B2.out); have f0 := D2.out.c0 rfl; have f1 := D2.out.c1 rfl; obtain ⟨hl8, hl9, ⟨qx, cx, hcx, kx, hCx⟩, hl7⟩ := D2.out.el2 HI.out HXY.out.1 HXY.out.2; have CX2 := Aside0.mk (And.intro hcx hCx); clear hcx hCx hb2 hr2 hl8 hl9 hl7)
    | (go_at_call 15; with_reducible refine (R1.out _ HD.out).mono ?_; rintro e w1 ⟨v1, rfl, hr1, hb1⟩; have B1 := Aside0.mk hb1; obtain ⟨A1, c1, rfl⟩ := Kd.R_slice hr1; have RA1 := Aside0.mk hr1; have RAL := Aside0.mk (Kd.R_lt hr1); clear hb1 hr1))
  go_ret
  exact ⟨rfl, B6.out⟩

theorem Sa.calls (o o2 : Own) (s : DS) (w : World) (h : Dk (fun _ => True) 58 w o s) (h2 : Dk (fun _ => True) 64 w o2 s) (hg : w.cell? ⟨0, 0, none⟩ = some (.iface 94 (.agg #[.pointer (some ⟨1, 28, none⟩)]))) (i : Int) : Calls Tryd.prog 20 #[.pointer (some ⟨o.g, 0, none⟩), .pointer (some ⟨o2.g, 0, none⟩), .int .i64 i] w fun e w' => e = .returned (.bool true) ∧ Below w.heap.size w w' := by
  by_cases h1 : i < 0 ∨ (s.now.length : Int) ≤ i
  · exact SaBad.calls o o2 s w h h2 hg i h1
  · obtain ⟨m, rfl⟩ := Int.eq_ofNat_of_zero_le (show 0 ≤ i by omega)
    exact SaOk.calls o o2 s w h h2 hg m (by omega)

end

end Go.Proofs.YtagijaijjjaolaaDoor.PBL
