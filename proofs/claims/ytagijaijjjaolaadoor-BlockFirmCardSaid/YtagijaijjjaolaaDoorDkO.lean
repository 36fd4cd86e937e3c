import Derived.Test.YtagijaijjjaolaaDoorDkN
namespace Go.Proofs.YtagijaijjjaolaaDoor.PBL
open Go.RowKit Go.Proofs.YtagijaijjjaolaaDoorW.PrintWords Go.Proofs.YtagijaijjjaolaaDoorW.PrintLast Go.Proofs.YtagijaijjjaolaaDoorW.PrintMore
attribute [local go_sem] max2_int min2_int max_two min_two max_three min_three max_four min_four
set_option linter.unusedVariables false
set_option linter.unusedSimpArgs false
section
variable {ok ok2 : Nat → Prop}
theorem below_undrew {w w' : World} (h : Below w.drew.heap.size w.drew w') : Below w.heap.size w w' := ⟨h.os, h.tape, h.output, h.size, h.block⟩
/-- What an act makes of a disk. -/
def DS.play (s : DS) (x : S44) : DS :=
  if x.f0 = 0 then (s.write x.f1 (fullL x.f2 x.f3)).1 else if x.f0 = 2 then (s.crash [true]).1 else if x.f0 = 3 then (s.crash x.f4).1 else s
theorem DS.write_len (s : DS) (i : Int) (l : List Int) : (s.write i l).1.now.length = s.now.length := by
  unfold DS.write; split
  · rfl
  · split
    · rfl
    · exact List.length_set
theorem DS.write_fits {s : DS} (h : s.Fits) (i : Int) (l : List Int) : (s.write i l).1.Fits := by
  unfold DS.write; split
  · exact h
  · split
    · exact h
    · exact ⟨h.nf.trans List.length_set.symm, by show (s.dirty.set _ true).length = (s.now.set _ l).length; rw [List.length_set, List.length_set]; exact h.nd⟩
theorem DS.write_clean {s : DS} (h : s.Fits) (hc : s.Clean) (i : Int) (l : List Int) : (s.write i l).1.Clean := by
  unfold DS.write; split
  · exact hc
  · split
    · exact hc
    · intro j hj
      have hj : (s.dirty.set i.toNat true)[j]? = some false := hj
      by_cases e : i.toNat = j
      · subst e
        by_cases hl : i.toNat < s.dirty.length
        · rw [get_set_eq _ _ _ hl] at hj; cases hj
        · rw [List.getElem?_eq_none (by rw [List.length_set]; omega)] at hj; cases hj
      · rw [get_set_ne _ _ _ _ e] at hj
        show (s.now.set i.toNat l)[j]? = s.firm[j]?
        rw [get_set_ne _ _ _ _ e]
        exact hc j hj
theorem DS.crash_len (s : DS) (keep : List Bool) (h : s.Fits) : (s.crash keep).1.now.length = s.now.length := (crashed keep (dix s.dirty s.now.length) 0 s 0 (dix_nodup _ _) (dix_lt _ _) h).len
theorem DS.crash_fits (s : DS) (keep : List Bool) (h : s.Fits) : (s.crash keep).1.Fits := (crashed keep (dix s.dirty s.now.length) 0 s 0 (dix_nodup _ _) (dix_lt _ _) h).fits
theorem DS.play_len (s : DS) (x : S44) (h : s.Fits) : (s.play x).now.length = s.now.length := by
  unfold DS.play; split
  · exact DS.write_len _ _ _
  · split
    · exact DS.crash_len _ _ h
    · split
      · exact DS.crash_len _ _ h
      · rfl
theorem DS.play_fits (s : DS) (x : S44) (h : s.Fits) : (s.play x).Fits := by
  unfold DS.play; split
  · exact DS.write_fits h _ _
  · split
    · exact DS.crash_fits _ _ h
    · split
      · exact DS.crash_fits _ _ h
      · exact h
theorem DS.play_clean (s : DS) (x : S44) (h : s.Fits) (hc : s.Clean) : (s.play x).Clean := by
  unfold DS.play; split
  · exact DS.write_clean h hc _ _
  · split
    · exact crash_clean s _ h hc
    · split
      · exact crash_clean s _ h hc
      · exact hc

set_option maxHeartbeats 8000000 in
set_option maxRecDepth 100000 in
theorem Pl.calls (o : Own) (s : DS) (w : World) (h : Dk (fun _ => True) 58 w o s) (x : S44) (Ak : Option Addr) (ck : Nat) (hk : Kd.C Kd.bool w Ak x.f4.length x.f4) (hck : x.f4.length ≤ ck) (hA : ∀ ad, Ak = some ad → x.f4 ≠ [] → ¬ o.has ad.block) :
    Calls Tryd.prog 28 #[.pointer (some ⟨o.g, 0, none⟩), .agg #[.int .i64 x.f0, .int .i64 x.f1, .int .u8 x.f2, .int .i64 x.f3, .slice Ak x.f4.length ck]] w fun e w' => e = .returned (.tuple #[]) ∧ Dk (fun _ => True) 58 w' o (s.play x) ∧ Keeps o.has w w' := by
  obtain ⟨x0, x1, x2, x3, x4⟩ := x
  simp only at hk hck ⊢
  have hb0 : Below w.heap.size w (w.alloc (.cells #[.int .i64 x0, .int .i64 x1, .int .u8 x2, .int .i64 x3, .slice Ak x4.length ck] 44 (0, 0))) := (Below.refl _ _).alloc (Nat.le_refl _) _
  have HX := Aside0.mk (blk_new w (.cells #[.int .i64 x0, .int .i64 x1, .int .u8 x2, .int .i64 x3, .slice Ak x4.length ck] 44 (0, 0)))
  have HD := Aside0.mk (h.below hb0)
  have HK := Aside0.mk (Kd.C_below hk hb0)
  have HB := Aside0.mk hb0
  have HA := Aside0.mk hA
  have Hck := Aside0.mk hck
  have HLT := Aside0.mk h.lt
  clear h hk hck hA hb0
  by_cases d0 : x0 = 0
  · subst d0
    have e : s.play ⟨0, x1, x2, x3, x4⟩ = (s.write x1 (fullL x2 x3)).1 := by unfold DS.play; rw [if_pos rfl]
    rw [e]
    have F1 : Aside0 (∀ w : World, Calls Tryd.prog 11 #[.int .u8 x2, .int .i64 x3] w fun e w' => ∃ A c, e = .returned (.slice A (fullL x2 x3).length c) ∧ Kd.R (Kd.int .u8) 5 w' w.heap.size (fun _ => True) (.slice A (fullL x2 x3).length c) (fullL x2 x3) ∧ Below w.heap.size w w') := ⟨fun w => Fu.calls x2 x3 w⟩
    generalize fullL x2 x3 = lx at *
    clear e
    go_enter Tryd.func28, Tryd.ntmps28
    go_wp2
    generalize hgx : w.heap.size = gx at *
    generalize hw1 : w.alloc (.cells #[.int .i64 0, .int .i64 x1, .int .u8 x2, .int .i64 x3, .slice Ak x4.length ck] 44 (0, 0)) = w1 at *
    have k1 := (blk_cell HX.out 1).trans (rfl : _ = some (Value.int .i64 x1))
    have k2 := (blk_cell HX.out 2).trans (rfl : _ = some (Value.int .u8 x2))
    have k3 := (blk_cell HX.out 3).trans (rfl : _ = some (Value.int .i64 x3))
    clear hw1
    go_region_held3 (fun w' => w'.cell? ⟨gx, 1, none⟩ = some (.int .i64 x1) ∧ w'.cell? ⟨gx, 2, none⟩ = some (.int .u8 x2) ∧ w'.cell? ⟨gx, 3, none⟩ = some (.int .i64 x3)) (first | exact S2.out | exact S3.out | go_keep) (first | (go_at_call 10; with_reducible refine (Dk_Write.calls o s _ HD2.out _ _ lx (Kd.R_reads' HR2.out).2.2 (Kd.R_reads' HR2.out).2.1 x1 (fun _ _ => trivial)).mono ?_; rintro e w3 ⟨v3, rfl, _, hd3, hk3⟩; have HD3 := Aside0.mk hd3; have HK3 := Aside0.mk hk3; have HX3 := Aside0.mk ((hk3.far _ (blk_lt HX2.out) (fun h => by have := HLT.out _ h; omega)).trans HX2.out); have S3 : Aside0 (w3.cell? ⟨gx, 1, none⟩ = some (.int .i64 x1) ∧ w3.cell? ⟨gx, 2, none⟩ = some (.int .u8 x2) ∧ w3.cell? ⟨gx, 3, none⟩ = some (.int .i64 x3)) := ⟨(blk_cell HX3.out 1).trans rfl, (blk_cell HX3.out 2).trans rfl, (blk_cell HX3.out 3).trans rfl⟩; clear hd3 hk3) | (go_at_call 11; with_reducible refine (F1.out _).mono ?_; rintro e w2 ⟨A2, c2, rfl, hr2, hb2⟩; have HB2 := Aside0.mk (below_undrew hb2); have HR2 := Aside0.mk hr2; have HD2 := Aside0.mk (HD.out.below HB2.out); have HX2 := Aside0.mk (blk_below HX.out HB2.out); have S2 : Aside0 (w2.cell? ⟨gx, 1, none⟩ = some (.int .i64 x1) ∧ w2.cell? ⟨gx, 2, none⟩ = some (.int .u8 x2) ∧ w2.cell? ⟨gx, 3, none⟩ = some (.int .i64 x3)) := ⟨(blk_cell HX2.out 1).trans rfl, (blk_cell HX2.out 2).trans rfl, (blk_cell HX2.out 3).trans rfl⟩; clear hr2 hb2))
    go_wp2
    go_end0
    exact ⟨rfl, HD3.out, (Keeps.of_below (by rw [hgx]; exact HB.out)).trans ((Keeps.of_below HB2.out).trans HK3.out)⟩
  · have d0b : decide (x0 = 0) = false := decide_eq_false d0
    by_cases d2 : x0 = 2
    · subst d2
      have e : s.play ⟨2, x1, x2, x3, x4⟩ = (crashL [true] (dix s.dirty s.now.length) 0 s 0).1 := by unfold DS.play; rw [if_neg d0, if_pos rfl]; rfl
      rw [e]
      clear e
      go_enter Tryd.func28, Tryd.ntmps28
      go_wp2_with (first | (go_at_call 12; with_reducible refine (Dk_Flush.calls o s _ HD.out).mono ?_; rintro e w3 ⟨rfl, hd3, hk3⟩; have HD3 := Aside0.mk hd3; have HK3 := Aside0.mk hk3; clear hd3 hk3))
      go_end0
      exact ⟨rfl, HD3.out, (Keeps.of_below HB.out).trans HK3.out⟩
    · have d2b : decide (x0 = 2) = false := decide_eq_false d2
      by_cases d3 : x0 = 3
      · subst d3
        have e : s.play ⟨3, x1, x2, x3, x4⟩ = (crashL x4 (dix s.dirty s.now.length) 0 s 0).1 := by unfold DS.play; rw [if_neg d0, if_neg d2, if_pos rfl]; rfl
        rw [e]
        clear e
        go_enter Tryd.func28, Tryd.ntmps28
        go_wp2_with (first | (go_at_call 14; with_reducible refine (Dk_Crash.calls o s _ HD.out Ak ck x4 HK.out Hck.out HA.out).mono ?_; rintro e w3 ⟨rfl, hd3, hk3⟩; have HD3 := Aside0.mk hd3; have HK3 := Aside0.mk hk3; clear hd3 hk3))
        go_end0
        exact ⟨rfl, HD3.out, (Keeps.of_below HB.out).trans HK3.out⟩
      · have d3b : decide (x0 = 3) = false := decide_eq_false d3
        have e : s.play ⟨x0, x1, x2, x3, x4⟩ = s := by unfold DS.play; rw [if_neg d0, if_neg d2, if_neg d3]
        rw [e]
        clear e
        go_enter Tryd.func28, Tryd.ntmps28
        go_wp2
        go_end0
        exact ⟨rfl, HD.out, Keeps.of_below HB.out⟩

end

end Go.Proofs.YtagijaijjjaolaaDoor.PBL
