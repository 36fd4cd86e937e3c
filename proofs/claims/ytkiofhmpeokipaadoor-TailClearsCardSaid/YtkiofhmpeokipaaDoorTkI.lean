import Derived.Test.YtkiofhmpeokipaaDoorTkH
import Derived.Lib.SlBytesConst
namespace Go.Proofs.YtkiofhmpeokipaaDoor.PTA
open Go.RowKit Go.Proofs.YtkiofhmpeokipaaDoorW.PrintWords Go.Proofs.YtkiofhmpeokipaaDoorW.PrintLast Go.Proofs.YtkiofhmpeokipaaDoorW.PrintMore
attribute [local go_sem] max2_int min2_int max_two min_two max_three min_three max_four min_four
set_option linter.unusedVariables false
set_option linter.unusedSimpArgs false
section
/-- A disk of so many blocks of zeros. -/
def newS (n : Nat) : DS := ⟨List.replicate n (List.replicate 512 0), List.replicate n (List.replicate 512 0), List.replicate n false⟩
theorem newS_len (n : Nat) : (newS n).now.length = n := List.length_replicate
theorem newS_AllB (n : Nat) : (newS n).AllB := fun l hl => by
  rw [List.eq_of_mem_replicate hl]
  exact ⟨fun x hx => by rw [List.eq_of_mem_replicate hx]; decide, List.length_replicate⟩
theorem ab_B : IsB [97, 98] := fun x hx => by
  rcases List.mem_cons.mp hx with rfl | hx
  · decide
  · rcases List.mem_cons.mp hx with rfl | hx
    · decide
    · cases hx
theorem prts_ab : prts ([97, 98] : List Int).length = 1 := by decide
/-- awake's disk. -/
def awS : DS := (newS 4).lay 1 2 3 1 [97, 98] 1
theorem awS_AllB : awS.AllB := DS.lay_AllB (newS_AllB 4) 1 2 3 1 ab_B 1
theorem awS_len : awS.now.length = 4 := (DS.lay_len _ _ _ _ _ _ _).trans (newS_len 4)
theorem awS_frame : FrameAt awS.now 1 2 3 [97, 98] := by
  have := lay_frame (newS 4) 1 2 3 [97, 98] (by rw [prts_ab, newS_len]; decide)
  rw [prts_ab] at this
  exact this
theorem awS_yes {r : Option (List Int)} (h : RdIs awS.now 1 4 2 3 r) : r = some [97, 98] := awS_frame.read (by decide) (by decide) (by decide) (by decide) (by decide) (by rw [prts_ab]; decide) h
theorem awS_at : awS.now.getD 1 [] = blkL 2 3 0 1 [97, 98] := by
  have := awS_frame 0 (by rw [prts_ab]; decide)
  rw [prts_ab] at this
  exact this
theorem awS_N : BkN 2 3 0 1 ([97, 98] : List Int).length := ⟨by decide, by decide, by decide, by decide, by decide, by decide, by decide, by decide, by decide⟩
theorem awS_no {r : Option (List Int)} (h : RdIs awS.now 1 4 2 4 r) : r = none := RdIs.other awS_at awS_N (by decide) h
theorem awS_peek : peekF (blkL 2 3 0 1 [97, 98]) = (2, 3, true) := by
  unfold peekF
  rw [if_pos ⟨blk_ok awS_N, blk_W0 awS_N⟩, blk_G awS_N, blk_N awS_N]
theorem Keeps.row1 {o : Own} {w0 w : World} (hge : ∀ k, o.has k → w0.heap.size ≤ k) {A : Option Addr} (hA : ∀ ad, A = some ad → ad.block < w0.heap.size) (l : List Int) : ∀ ad, A = some ad → l ≠ [] → ¬ o.has ad.block := fun ad e _ h => by have := hge _ h; have := hA ad e; omega
set_option maxHeartbeats 8000000 in
set_option maxRecDepth 100000 in
theorem Ak.calls (w : World) :
    Calls Tryd.prog 5 #[] w fun e w' => e = .returned (.bool true) ∧ Below w.heap.size w w' := by
  have P1 : tail_Parts.f 488 = some 1 := parts_f 488 (by decide)
  have P2 : tail_Parts.f 489 = some 2 := parts_f 489 (by decide)
  have HP1 := Aside0.mk P1
  have HP2 := Aside0.mk P2
  clear P1 P2
  have WRT : Aside0 (∀ (o : Own) (w' : World) (A : Option Addr) (c : Nat), Dk (fun _ => True) 49 w' o (newS 4) → Kd.C (Kd.int .u8) w' A 2 [97, 98] → 2 ≤ c → (∀ ad, A = some ad → ¬ o.has ad.block) → Calls Tryd.prog 8 #[.pointer (some ⟨o.g, 0, none⟩), .int .i64 1, .int .i64 4, .int .i64 2, .int .i64 3, .slice A 2 c] w' fun e w'' => e = .returned (.tuple #[.int .i64 2, .nilIface]) ∧ Dk (fun _ => True) 49 w'' o awS ∧ Keeps o.has w' w'') := ⟨fun o w' A c h1 h2 h3 h4 => by
    have := Tw_Ok.calls o (newS 4) w' h1 1 4 2 3 A c [97, 98] h2 h3 (by decide) (fun ad e _ => h4 ad e) (by rw [prts_ab]; decide) (by rw [newS_len]; decide) (by decide) (by decide)
    rw [prts_ab] at this
    exact this⟩
  have RD : Aside0 (∀ (o : Own) (w' : World), Dk (fun _ => True) 49 w' o awS → Calls Tryd.prog 18 #[.pointer (some ⟨o.g, 0, none⟩), .int .i64 1, .int .i64 4, .int .i64 2, .int .i64 3] w' fun e w'' => ∃ v, e = .returned (.tuple #[v, .int .i64 2, .bool true]) ∧ Kd.R (Kd.int .u8) 5 w'' w'.heap.size (fun _ => True) v [97, 98] ∧ Below w'.heap.size w' w'') := ⟨fun o w' h1 => by
    refine (Td.calls o awS w' h1 awS_AllB 1 4 2 3 (by decide) (Nat.le_of_eq awS_len.symm)).mono ?_
    rintro e w'' ⟨v, r, q1, q2, q3, q4⟩
    obtain rfl := awS_yes q4
    exact ⟨v, q1, q2, q3⟩⟩
  have RN : Aside0 (∀ (o : Own) (w' : World), Dk (fun _ => True) 49 w' o awS → Calls Tryd.prog 18 #[.pointer (some ⟨o.g, 0, none⟩), .int .i64 1, .int .i64 4, .int .i64 2, .int .i64 4] w' fun e w'' => ∃ v, e = .returned (.tuple #[v, .int .i64 0, .bool false]) ∧ Kd.R (Kd.int .u8) 5 w'' w'.heap.size (fun _ => True) v [] ∧ Below w'.heap.size w' w'') := ⟨fun o w' h1 => by
    refine (Td.calls o awS w' h1 awS_AllB 1 4 2 4 (by decide) (Nat.le_of_eq awS_len.symm)).mono ?_
    rintro e w'' ⟨v, r, q1, q2, q3, q4⟩
    obtain rfl := awS_no q4
    exact ⟨v, q1, q2, q3⟩⟩
  have PK : Aside0 (∀ (o : Own) (w' : World), Dk (fun _ => True) 49 w' o awS → Calls Tryd.prog 20 #[.pointer (some ⟨o.g, 0, none⟩), .int .i64 1] w' fun e w'' => e = .returned (.tuple #[.int .i64 2, .int .i64 3, .bool true]) ∧ Below w'.heap.size w' w'') := ⟨fun o w' h1 => by
    have h2 : awS.now[1]? = some (blkL 2 3 0 1 [97, 98]) := by
      have := awS_at
      rw [List.getD_eq_getElem?_getD, List.getElem?_eq_getElem (by rw [awS_len]; decide)] at this
      rw [List.getElem?_eq_getElem (by rw [awS_len]; decide)]
      exact congrArg some this
    have := Tk.calls o awS w' h1 awS_AllB 1 _ h2
    rw [awS_peek] at this
    exact this⟩
  have NEW : Aside0 (∀ w', Calls Tryd.prog 6 #[.int .i64 4] w' fun e w'' => ∃ o : Own, e = .returned (.pointer (some ⟨o.g, 0, none⟩)) ∧ Dk (fun _ => True) 49 w'' o (newS 4) ∧ (∀ k, o.has k → w'.heap.size ≤ k) ∧ Below w'.heap.size w' w'') := ⟨fun w' => Dk_New.calls 4 w' (by decide) (by decide)⟩
  have ESTR : strOfNums [97, 98] = (⟨#[97, 98]⟩ : ByteArray) := rfl
  go_enter Tryd.func5, Tryd.ntmps5
  go_upto_region 2 with (first | (go_at_call 6; with_reducible refine (NEW.out _).mono ?_; rintro e w1 ⟨o, rfl, hd1, hge1, hb1⟩; have D1 := Aside0.mk hd1; have GE := Aside0.mk hge1; have B1 := Aside0.mk hb1; clear hd1 hge1 hb1))
  have hblk : (w1.alloc (.cells #[.int .u8 97, .int .u8 98] 5 (2, 3))).heap[w1.heap.size]? = some (.cells #[.int .u8 97, .int .u8 98] 5 (2, 3)) := blk_new _ _
  have HROW : Aside0 (Kd.C (Kd.int .u8) (w1.alloc (.cells #[.int .u8 97, .int .u8 98] 5 (2, 3))) (some ⟨w1.heap.size, 0, none⟩) 2 [97, 98]) := ⟨Kd.C_of_reads (d := (0 : Int)) ⟨rfl, by decide, fun _ => ⟨_, rfl, fun j hj => by
    rw [add_plain]
    show (World.cell? (w1.alloc (.cells #[.int .u8 97, .int .u8 98] 5 (2, 3))) _) = _
    unfold World.cell?
    rw [hblk]
    have hj2 : j < 2 := hj
    rcases (by omega : j = 0 ∨ j = 1) with rfl | rfl <;> rfl⟩⟩⟩
  have HAP : Aside0 (∀ ad : Addr, some (⟨w1.heap.size, 0, none⟩ : Addr) = some ad → ¬ o.has ad.block) := ⟨fun ad e h => by
    obtain rfl := Option.some.inj e
    have := D1.out.lt _ h
    exact Nat.lt_irrefl _ this⟩
  have DA := Aside0.mk (D1.out.below ((Below.refl _ _).alloc (Nat.le_refl _) (.cells #[.int .u8 97, .int .u8 98] 5 (2, 3))))
  have KA := Aside0.mk ((Keeps.refl o.has w1).alloc (.cells #[.int .u8 97, .int .u8 98] 5 (2, 3)))
  clear hblk
  have hcl := Lib.run_convert_bytes_const (P := Tryd.prog) w1 22 5 #[.int .u8 97, .int .u8 98] 2 2 Tryd.underlying22 Tryd.underlying5
  go_upto_region 6 with (first | (go_at_call 20; with_reducible refine (PK.out o _ D4.out).mono ?_; rintro e w5 ⟨rfl, hb5⟩; have D5 := Aside0.mk (D4.out.below hb5); have R5 := Aside0.mk (Kd.R_below R4.out hb5); have B5 := Aside0.mk (below_step B4.out hb5); clear hb5) | (go_at_call 18; with_reducible refine (RN.out o _ D3.out).mono ?_; rintro e w4 ⟨v4, rfl, hr4, hb4⟩; obtain ⟨A4, c4, rfl⟩ := Kd.R_slice hr4; have D4 := Aside0.mk (D3.out.below hb4); have R4 := Aside0.mk (Kd.R_below R3.out hb4); have B4 := Aside0.mk (below_step B3.out hb4); clear hb4 hr4) | (go_at_call 18; with_reducible refine (RD.out o _ D2.out).mono ?_; rintro e w3 ⟨v3, rfl, hr3, hb3⟩; obtain ⟨A3, c3, rfl⟩ := Kd.R_slice hr3; have D3 := Aside0.mk (D2.out.below hb3); have R3 := Aside0.mk hr3; have B3 := Aside0.mk (below_step B2.out hb3); clear hb3 hr3) | (go_at_call 8; with_reducible refine (WRT.out o _ _ _ DA.out HROW.out (Nat.le_refl 2) HAP.out).mono ?_; rintro e w2 ⟨rfl, hd2, hk2⟩; have D2 := Aside0.mk hd2; have B2 : Aside0 (Below w.heap.size w w2) := ⟨(KA.out.trans hk2).below GE.out B1.out.size B1.out⟩; clear hd2 hk2))
  have hcv : (convert 22 9 (.slice A3 2 c3)).run Tryd.prog w5 = .ok (.string (strOfNums [97, 98])) w5 := Kd.C_string (P := Tryd.prog) (A := A3) (c := c3) Tryd.underlying22 Tryd.underlying5 Tryd.underlying9 (Kd.R_reads' R5.out).2.2
  rw [ESTR] at hcv
  go_wp2_with (first | (go_at_call 14; with_reducible refine (tail_Parts.calls _ _ _ HP1.out).mono ?_; rintro e w6 ⟨rfl, hb6⟩; have B6 := Aside0.mk (below_step B5.out hb6); clear hb6) | (go_at_call 14; with_reducible refine (tail_Parts.calls _ _ _ HP2.out).mono ?_; rintro e w7 ⟨rfl, hb7⟩; have B7 := Aside0.mk (below_step B6.out hb7); clear hb7))
  go_ret
  exact ⟨rfl, B7.out⟩
end

end Go.Proofs.YtkiofhmpeokipaaDoor.PTA
