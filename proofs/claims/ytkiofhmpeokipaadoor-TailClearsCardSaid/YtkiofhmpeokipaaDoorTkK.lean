import Derived.Test.YtkiofhmpeokipaaDoorTkJ
namespace Go.Proofs.YtkiofhmpeokipaaDoor.PTA
open Go.RowKit Go.Proofs.YtkiofhmpeokipaaDoorW.PrintWords Go.Proofs.YtkiofhmpeokipaaDoorW.PrintLast Go.Proofs.YtkiofhmpeokipaaDoorW.PrintMore
attribute [local go_sem] max2_int min2_int max_two min_two max_three min_three max_four min_four
set_option linter.unusedVariables false
set_option linter.unusedSimpArgs false
section
theorem LB_keeps {w w' : World} {base : Nat} {v : Value} {l : List Int} {S : Nat → Prop} (h : Kd.LB (Kd.int .u8) 5 w base (fun _ => True) v l) (hk : Keeps S w w') (hS : ∀ k, base ≤ k → ¬ S k) : Kd.LB (Kd.int .u8) 5 w' base (fun _ => True) v l :=
  Kd.LB_mono (Kd.LB_step (Kd.LB_bound h) (fun k hk1 hlt => hk.far k hlt (hS k hk1.2.1))) (fun _ _ => trivial)
theorem own_ad {A : Option Addr} {ad : Addr} {n c : Nat} (e : A = some ad) : (Value.slice A n c).ownBlock = some ad.block := by rw [e]; rfl
theorem DS.AllB.len {s : DS} (h : s.AllB) : ∀ l ∈ s.now, l.length = 512 := fun l hl => (h l hl).2
/-- What a call that writes leaves of a new disk. -/
structure Left (o : Own) (a b g k : Int) (l : List Int) (w' : World) (n : Int) (s : DS) : Prop where
  dk : Dk (fun _ => True) 49 w' o s
  bytes : s.AllB
  l12 : s.now.length = 12
  good : wrC (newS 12) a b g k l.length = 0 → n = a + (prts l.length : Int) ∧ s = (newS 12).lay a.toNat g k (prts l.length) l (prts l.length)
  bad : wrC (newS 12) a b g k l.length ≠ 0 → n = 0 ∧ s = newS 12
theorem wrote_s {o : Own} {a b g k : Int} {l : List Int} {w w' : World} {n : Int} {v : Value} (hl : IsB l) (h : Wrote (newS 12) o a b g k l w w' n v) : ∃ s, Left o a b g k l w' n s := by
  by_cases hc : wrC (newS 12) a b g k l.length = 0
  · obtain ⟨h1, h2⟩ := h.good hc
    exact ⟨_, h2, DS.lay_AllB (newS_AllB 12) _ _ _ _ hl _, (DS.lay_len _ _ _ _ _ _ _).trans (newS_len 12), fun _ => ⟨h1, rfl⟩, fun h => absurd hc h⟩
  · obtain ⟨h1, h2⟩ := h.bad hc
    exact ⟨_, h2, newS_AllB 12, newS_len 12, fun h => absurd h hc, fun _ => ⟨h1, rfl⟩⟩
theorem wrC_2 {a b g k : Int} {n : Nat} (h : g < 1 ∨ k < 1 ∨ a < 0 ∨ b < 0 ∨ 12 < a ∨ 12 < b ∨ b < a) : wrC (newS 12) a b g k n = 2 := by
  unfold wrC
  rw [newS_len]
  exact if_pos (by omega)
theorem wrC_12 {a b g k : Int} {n : Nat} (h : ¬ (g < 1 ∨ k < 1 ∨ a < 0 ∨ b < 0 ∨ 12 < a ∨ 12 < b ∨ b < a)) (h2 : b - a < (prts n : Int)) : wrC (newS 12) a b g k n = 12 := by
  unfold wrC
  rw [newS_len, if_neg (by omega), if_pos h2]
theorem wrC_0 {a b g k : Int} {n : Nat} (h : ¬ (g < 1 ∨ k < 1 ∨ a < 0 ∨ b < 0 ∨ 12 < a ∨ 12 < b ∨ b < a)) (h2 : ¬ b - a < (prts n : Int)) : wrC (newS 12) a b g k n = 0 := by
  unfold wrC
  rw [newS_len, if_neg (by omega), if_neg h2]
set_option maxHeartbeats 8000000 in
set_option maxRecDepth 100000 in
theorem LWgreat.calls (w : World) (a b g k : Int) (A : Option Addr) (c : Nat) (l : List Int) (hl : 3000 < l.length) :
    Calls Tryd.prog 3 #[.int .i64 a, .int .i64 b, .int .i64 g, .int .i64 k, .slice A l.length c] w fun e w' => e = .returned (.bool true) ∧ Below w.heap.size w w' := by
  have d1 : decide (3000 < (l.length : Int)) = true := decide_eq_true (by omega)
  have d2 : decide (3000 < l.length) = true := decide_eq_true hl
  clear hl
  go_enter Tryd.func3, Tryd.ntmps3
  go_wp2_with (first | (go_at_call 5; with_reducible refine (Ak.calls _).mono ?_; rintro e w2 ⟨rfl, hb2⟩))
  go_ret
  exact ⟨rfl, hb2⟩
set_option maxHeartbeats 8000000 in
set_option maxRecDepth 100000 in
theorem LWok.calls (w : World) (hg_ : w.cell? ⟨0, 0, none⟩ = some (.iface 93 (.agg #[.pointer (some ⟨1, 28, none⟩)]))) (a b g k : Int) (A : Option Addr) (c : Nat) (l : List Int) (hC : Kd.C (Kd.int .u8) w A l.length l) (hc : l.length ≤ c) (hl : l.length ≤ 3000) (hIB : IsB l) (hgr : g ≤ 9223372036854775807) (hkr : k ≤ 9223372036854775807) (ha0 : -9223372036854775808 ≤ a) (ha1 : a ≤ 9223372036854775807) (hb0 : -9223372036854775808 ≤ b) (hb1 : b ≤ 9223372036854775807) :
    Calls Tryd.prog 3 #[.int .i64 a, .int .i64 b, .int .i64 g, .int .i64 k, .slice A l.length c] w fun e w' => e = .returned (.bool true) ∧ Below w.heap.size w w' := by
  have d1 : decide (3000 < (l.length : Int)) = false := decide_eq_false (by omega)
  have d2 : decide (3000 < l.length) = false := decide_eq_false (by omega)
  have NEW : Aside0 (∀ w', Calls Tryd.prog 6 #[.int .i64 12] w' fun e w'' => ∃ o : Own, e = .returned (.pointer (some ⟨o.g, 0, none⟩)) ∧ Dk (fun _ => True) 49 w'' o (newS 12) ∧ (∀ k, o.has k → w'.heap.size ≤ k) ∧ Below w'.heap.size w' w'') := ⟨fun w' => Dk_New.calls 12 w' (by decide) (by decide)⟩
  have LF : Aside0 (chatelainelaw0_LendBytes.f l = some l) := ⟨by unfold chatelainelaw0_LendBytes.f; rw [if_pos (by omega)]⟩
  have KF : Aside0 (chatelainelaw0_KeptBytes.f 5000 l l = some true) := ⟨by unfold chatelainelaw0_KeptBytes.f; rw [same_dec 5000 l l (by omega) (by omega), decide_eq_true rfl]⟩
  have HRP := Aside0.mk (rparts_f l.length (by omega))
  have HPF := Aside0.mk (parts_f l.length (by omega))
  have HM7 := prts_le l.length hl
  have HM1 := prts_pos l.length
  have HGR := Aside0.mk (And.intro hgr hkr)
  have HRA := Aside0.mk (And.intro (And.intro ha0 ha1) (And.intro hb0 hb1))
  have HG := Aside0.mk hg_
  have HC := Aside0.mk hC
  have Hc := Aside0.mk hc
  have HL := Aside0.mk hl
  have HIB := Aside0.mk hIB
  have HBF : Aside0 (chatelaineref24_Blocks.f 400 g k l = some (blks g k l (prts l.length))) := ⟨blocks_f g k l (by omega)⟩
  obtain ⟨code, hcode⟩ : ∃ x, wrC (newS 12) a b g k l.length = x := ⟨_, rfl⟩
  have HCODE := Aside0.mk hcode
  obtain ⟨m, hm⟩ : ∃ x, prts l.length = x := ⟨_, rfl⟩
  have HM := Aside0.mk hm
  rw [hm] at HM7 HM1 HRP HPF
  clear hC hc hl hIB hg_ hcode hm hgr hkr ha0 ha1 hb0 hb1
  go_enter Tryd.func3, Tryd.ntmps3
  go_upto_region 11 with (first | (go_at_call 10; with_reducible refine (chatelaineref24_Parts.calls _ _ _ HRP.out).mono ?_; rintro e w5 ⟨rfl, hb5⟩; have R5 := Aside0.mk (Kd.S_below R4.out hb5); have D5 := Aside0.mk (D4.out.below hb5); have LB5 := Aside0.mk (Kd.LB_below LB4.out hb5); have E5 := Aside0.mk (E4.out.below hb5); have B5 := Aside0.mk (below_step B4.out hb5); clear hb5) | (go_at_call 9; with_reducible refine (Al.calls o s3 _ S3.out.dk S3.out.bytes.len).mono ?_; rintro e w4 ⟨v4, rfl, hr4, hb4⟩; have R4 := Aside0.mk (Kd.S_lower hr4 B3.out.size); obtain ⟨A4, c4, rfl⟩ := Kd.S_slice hr4; have D4 := Aside0.mk (S3.out.dk.below hb4); have LB4 := Aside0.mk (Kd.LB_below LB3.out hb4); have E4 := Aside0.mk (W3.out.err.below hb4); have B4 := Aside0.mk (below_step B3.out hb4); clear hr4 hb4) | (go_at_call 8; with_reducible refine (Tw.calls o (newS 12) _ D2.out a b g k A3 c3 l (Kd.LB_reads' LB2.out).2.2 (Kd.LB_reads' LB2.out).2.1 HL.out HAP.out).mono ?_; rintro e w3 ⟨n, v, rfl, hW⟩; have W3 := Aside0.mk hW; obtain ⟨s3, hs3⟩ := wrote_s HIB.out hW; have S3 := Aside0.mk hs3; have LB3 := Aside0.mk (LB_keeps LB2.out hW.keep HO2.out); have B3 : Aside0 (Below w.heap.size w w3) := ⟨hW.keep.below GE.out B2.out.size B2.out⟩; have LN := Aside0.mk hs3.l12; clear hW hs3) | (go_at_call 7; with_reducible refine (chatelainelaw0_LendBytes.calls A c l l _ (Kd.C_below HC.out B1.out) Hc.out LF.out).mono ?_; rintro e w2 ⟨v3, rfl, ho3, hb3⟩; obtain ⟨A3, c3, rfl⟩ := Kd.LB_slice ho3; have LB2 := Aside0.mk ho3; have D2 := Aside0.mk (D1.out.below hb3); have B2 := Aside0.mk (below_step B1.out hb3); have HO2 : Aside0 (∀ k, w1.heap.size ≤ k → ¬ o.has k) := ⟨fun k hk h => absurd (Nat.lt_of_le_of_lt hk (D1.out.lt k h)) (Nat.lt_irrefl _)⟩; have HAP : Aside0 (∀ ad, A3 = some ad → l ≠ [] → ¬ o.has ad.block) := ⟨fun ad e _ => HO2.out _ (Kd.LB_base LB2.out ad.block (own_ad e))⟩; clear ho3 hb3) | (go_at_call 6; with_reducible refine (NEW.out _).mono ?_; rintro e w1 ⟨o, rfl, hd1, hge1, hb1⟩; have D1 := Aside0.mk hd1; have GE := Aside0.mk hge1; have B1 := Aside0.mk hb1; clear hd1 hge1 hb1))
  go_cut [50] (fun v50 wx => v50 = .bool (decide (g < 1 ∨ k < 1 ∨ a < 0 ∨ b < 0 ∨ 12 < a ∨ 12 < b ∨ b < a)) ∧ wx = w5)
  case first =>
    by_cases q1 : g < 1
    · have xq1 : decide (g < 1) = true := decide_eq_true q1
      have HE : Aside0 (decide (g < 1 ∨ k < 1 ∨ a < 0 ∨ b < 0 ∨ 12 < a ∨ 12 < b ∨ b < a) = true) := ⟨decide_eq_true (by omega)⟩
      clear q1
      go_wp2
      go_meet
      case rel => exact ⟨congrArg Value.bool HE.out.symm, rfl⟩
    have xq1 : decide (g < 1) = false := decide_eq_false q1
    by_cases q2 : k < 1
    · have xq2 : decide (k < 1) = true := decide_eq_true q2
      have HE : Aside0 (decide (g < 1 ∨ k < 1 ∨ a < 0 ∨ b < 0 ∨ 12 < a ∨ 12 < b ∨ b < a) = true) := ⟨decide_eq_true (by omega)⟩
      clear q2
      go_wp2
      go_meet
      case rel => exact ⟨congrArg Value.bool HE.out.symm, rfl⟩
    have xq2 : decide (k < 1) = false := decide_eq_false q2
    by_cases q3 : a < 0
    · have xq3 : decide (a < 0) = true := decide_eq_true q3
      have HE : Aside0 (decide (g < 1 ∨ k < 1 ∨ a < 0 ∨ b < 0 ∨ 12 < a ∨ 12 < b ∨ b < a) = true) := ⟨decide_eq_true (by omega)⟩
      clear q3
      go_wp2
      go_meet
      case rel => exact ⟨congrArg Value.bool HE.out.symm, rfl⟩
    have xq3 : decide (a < 0) = false := decide_eq_false q3
    by_cases q4 : b < 0
    · have xq4 : decide (b < 0) = true := decide_eq_true q4
      have HE : Aside0 (decide (g < 1 ∨ k < 1 ∨ a < 0 ∨ b < 0 ∨ 12 < a ∨ 12 < b ∨ b < a) = true) := ⟨decide_eq_true (by omega)⟩
      clear q4
      go_wp2
      go_meet
      case rel => exact ⟨congrArg Value.bool HE.out.symm, rfl⟩
    have xq4 : decide (b < 0) = false := decide_eq_false q4
    by_cases q5 : 12 < a
    · have xq5 : decide (12 < a) = true := decide_eq_true q5
      have HE : Aside0 (decide (g < 1 ∨ k < 1 ∨ a < 0 ∨ b < 0 ∨ 12 < a ∨ 12 < b ∨ b < a) = true) := ⟨decide_eq_true (by omega)⟩
      clear q5
      go_wp2
      go_meet
      case rel => exact ⟨congrArg Value.bool HE.out.symm, rfl⟩
    have xq5 : decide (12 < a) = false := decide_eq_false q5
    by_cases q6 : 12 < b
    · have xq6 : decide (12 < b) = true := decide_eq_true q6
      have HE : Aside0 (decide (g < 1 ∨ k < 1 ∨ a < 0 ∨ b < 0 ∨ 12 < a ∨ 12 < b ∨ b < a) = true) := ⟨decide_eq_true (by omega)⟩
      clear q6
      go_wp2
      go_meet
      case rel => exact ⟨congrArg Value.bool HE.out.symm, rfl⟩
    have xq6 : decide (12 < b) = false := decide_eq_false q6
    by_cases q7 : b < a
    · have xq7 : decide (b < a) = true := decide_eq_true q7
      have HE : Aside0 (decide (g < 1 ∨ k < 1 ∨ a < 0 ∨ b < 0 ∨ 12 < a ∨ 12 < b ∨ b < a) = true) := ⟨decide_eq_true (by omega)⟩
      clear q7
      go_wp2
      go_meet
      case rel => exact ⟨congrArg Value.bool HE.out.symm, rfl⟩
    have xq7 : decide (b < a) = false := decide_eq_false q7
    have HE : Aside0 (decide (g < 1 ∨ k < 1 ∨ a < 0 ∨ b < 0 ∨ 12 < a ∨ 12 < b ∨ b < a) = false) := ⟨decide_eq_false (by omega)⟩
    go_wp2
    go_meet
    case rel => exact ⟨congrArg Value.bool HE.out.symm, rfl⟩
  case rest =>
    obtain ⟨rfl, hwc⟩ := hcut
    subst hwc
    have WH : Aside0 (chatelainelaw24_whole.f 2000 s3.now = some true) := ⟨whole_f s3.now (by rw [LN.out]; decide) S3.out.bytes.len⟩
    have NUM0 : Aside0 (Calls Tryd.prog 11 #[v] wc fun e w' => e = .returned (.int .i64 code) ∧ Below wc.heap.size wc w') := ⟨by rw [← HCODE.out]; exact E5.out.num (pw_cell_below B5.out HG.out)⟩
    have BADP : ∀ c' : Int, code = c' → c' ≠ 0 → n = 0 ∧ s3 = newS 12 := fun c' e h => S3.out.bad (by rw [HCODE.out, e]; exact h)
    have DR0 : ∀ w', Dk (fun _ => True) 49 w' o (newS 12) → Calls Tryd.prog 15 #[.pointer (some ⟨o.g, 0, none⟩)] w' fun e w'' => ∃ A c, e = .returned (.slice A 0 c) ∧ Below w'.heap.size w' w'' := fun w' h => by
      refine (Dk_Dirty.calls o _ w' h).mono ?_
      rintro e w'' ⟨v, q1, q2, q3⟩
      rw [dix_none _ (newS_dirty 12)] at q2
      obtain ⟨A, c, rfl⟩ := Kd.R_slice q2
      exact ⟨A, c, q1, q3⟩
    have DR := Aside0.mk DR0
    clear DR0
    by_cases hB : g < 1 ∨ k < 1 ∨ a < 0 ∨ b < 0 ∨ 12 < a ∨ 12 < b ∨ b < a
    · have e1 : decide (g < 1 ∨ k < 1 ∨ a < 0 ∨ b < 0 ∨ 12 < a ∨ 12 < b ∨ b < a) = true := decide_eq_true hB
      obtain rfl : code = 2 := HCODE.out.symm.trans (wrC_2 hB)
      obtain ⟨rfl, rfl⟩ := BADP 2 rfl (by decide)
      clear hB BADP
      rw [e1]
      clear e1
      have NUM := NUM0
      clear NUM0
      go_upto_region 17 with (first | (go_at_call 14; with_reducible refine (tail_Parts.calls _ _ _ HPF.out).mono ?_; rintro e w9 ⟨rfl, hb9⟩; have R9 := Aside0.mk (Kd.S_below R8.out hb9); have D9 := Aside0.mk (D8.out.below hb9); have B9 := Aside0.mk (below_step B8.out hb9); clear hb9) | (go_at_call 13; with_reducible refine (chatelainelaw24_whole.calls 2000 _ _ _ true _ (Kd.S_reads' R7.out).2.2 (Kd.S_reads' R7.out).2.1 WH.out).mono ?_; rintro e w8 ⟨rfl, hd8⟩; have hb8 := hd8.below; have R8 := Aside0.mk (Kd.S_below R7.out hb8); have D8 := Aside0.mk (D7.out.below hb8); have B8 := Aside0.mk (below_step B7.out hb8); clear hd8 hb8) | (go_at_call 12; with_reducible refine (chatelainelaw0_KeptBytes.calls 5000 A3 c3 l A c l true _ (Kd.LB_reads' LB6.out).2.2 (Kd.LB_reads' LB6.out).2.1 (Kd.C_below HC.out B6.out) Hc.out (Kd.LB_spare LB6.out) KF.out).mono ?_; rintro e w7 ⟨rfl, hd7⟩; have hb7 := hd7.below; have R7 := Aside0.mk (Kd.S_below R6.out hb7); have D7 := Aside0.mk (D6.out.below hb7); have B7 := Aside0.mk (below_step B6.out hb7); clear hd7 hb7) | (go_at_call 11; with_reducible refine (NUM.out).mono ?_; rintro e w6 ⟨rfl, hb6⟩; have R6 := Aside0.mk (Kd.S_below R5.out hb6); have D6 := Aside0.mk (D5.out.below hb6); have LB6 := Aside0.mk (Kd.LB_below LB5.out hb6); have B6 := Aside0.mk (below_step B5.out hb6); clear hb6))
      go_wp2_with (first | (go_at_call 5; with_reducible refine (Ak.calls _).mono ?_; rintro e w11 ⟨rfl, hb11⟩; have B11 := Aside0.mk (below_step B10.out hb11); clear hb11) | (go_at_call 15; with_reducible refine (DR.out _ D9.out).mono ?_; rintro e w10 ⟨A10, c10, rfl, hb10⟩; have B10 := Aside0.mk (below_step B9.out hb10); clear hb10))
      go_ret
      exact ⟨rfl, B11.out⟩
    · have e1 : decide (g < 1 ∨ k < 1 ∨ a < 0 ∨ b < 0 ∨ 12 < a ∨ 12 < b ∨ b < a) = false := decide_eq_false hB
      rw [e1]
      clear e1
      by_cases q8 : b - a < (m : Int)
      · have xq8 : decide (b - a < (m : Int)) = true := decide_eq_true q8
        obtain rfl : code = 12 := HCODE.out.symm.trans (wrC_12 hB (by rw [HM.out]; exact q8))
        obtain ⟨rfl, rfl⟩ := BADP 12 rfl (by decide)
        have hab : 0 ≤ a ∧ a ≤ 12 ∧ 0 ≤ b ∧ b ≤ 12 ∧ a ≤ b := by omega
        obtain ⟨y1, y2, y3, y4, y5⟩ := hab
        clear hB BADP q8
        have NUM := NUM0
        clear NUM0
        go_upto_region 17 with (first | (go_at_call 14; with_reducible refine (tail_Parts.calls _ _ _ HPF.out).mono ?_; rintro e w9 ⟨rfl, hb9⟩; have R9 := Aside0.mk (Kd.S_below R8.out hb9); have D9 := Aside0.mk (D8.out.below hb9); have B9 := Aside0.mk (below_step B8.out hb9); clear hb9) | (go_at_call 13; with_reducible refine (chatelainelaw24_whole.calls 2000 _ _ _ true _ (Kd.S_reads' R7.out).2.2 (Kd.S_reads' R7.out).2.1 WH.out).mono ?_; rintro e w8 ⟨rfl, hd8⟩; have hb8 := hd8.below; have R8 := Aside0.mk (Kd.S_below R7.out hb8); have D8 := Aside0.mk (D7.out.below hb8); have B8 := Aside0.mk (below_step B7.out hb8); clear hd8 hb8) | (go_at_call 12; with_reducible refine (chatelainelaw0_KeptBytes.calls 5000 A3 c3 l A c l true _ (Kd.LB_reads' LB6.out).2.2 (Kd.LB_reads' LB6.out).2.1 (Kd.C_below HC.out B6.out) Hc.out (Kd.LB_spare LB6.out) KF.out).mono ?_; rintro e w7 ⟨rfl, hd7⟩; have hb7 := hd7.below; have R7 := Aside0.mk (Kd.S_below R6.out hb7); have D7 := Aside0.mk (D6.out.below hb7); have B7 := Aside0.mk (below_step B6.out hb7); clear hd7 hb7) | (go_at_call 11; with_reducible refine (NUM.out).mono ?_; rintro e w6 ⟨rfl, hb6⟩; have R6 := Aside0.mk (Kd.S_below R5.out hb6); have D6 := Aside0.mk (D5.out.below hb6); have LB6 := Aside0.mk (Kd.LB_below LB5.out hb6); have B6 := Aside0.mk (below_step B5.out hb6); clear hb6))
        go_wp2_with (first | (go_at_call 5; with_reducible refine (Ak.calls _).mono ?_; rintro e w11 ⟨rfl, hb11⟩; have B11 := Aside0.mk (below_step B10.out hb11); clear hb11) | (go_at_call 15; with_reducible refine (DR.out _ D9.out).mono ?_; rintro e w10 ⟨A10, c10, rfl, hb10⟩; have B10 := Aside0.mk (below_step B9.out hb10); clear hb10))
        go_ret
        exact ⟨rfl, B11.out⟩
      · obtain rfl : code = 0 := HCODE.out.symm.trans (wrC_0 hB (by rw [HM.out]; exact q8))
        obtain ⟨hn, hs⟩ := S3.out.good HCODE.out
        rw [HM.out] at hn hs
        obtain ⟨a, rfl⟩ := Int.eq_ofNat_of_zero_le (show 0 ≤ a by omega)
        obtain ⟨b, rfl⟩ := Int.eq_ofNat_of_zero_le (show 0 ≤ b by omega)
        subst hn
        rw [Int.toNat_natCast] at hs
        have xq8 : decide ((b : Int) - (a : Int) < (m : Int)) = false := decide_eq_false q8
        have hab : a ≤ 12 ∧ b ≤ 12 ∧ a + m ≤ b := by omega
        obtain ⟨y1, y2, y3⟩ := hab
        have hg1 : 1 ≤ g := by omega
        have hk1 : 1 ≤ k := by omega
        have FR : Aside0 (FrameAt s3.now a g k l) := ⟨by rw [hs, ← HM.out]; exact lay_frame (newS 12) a g k l (by rw [HM.out, newS_len]; omega)⟩
        have HDL : Aside0 ((dix s3.dirty s3.now.length).length = m) := ⟨by
          rw [LN.out, hs]
          have e1 : ((newS 12).lay a g k m l m).dirty.length = 12 := (lay_dlen _ _ _ _ _ _ _).trans ((newS_fits 12).trans (newS_len 12))
          have e2 := dix_run ((newS 12).lay a g k m l m).dirty a m (fun x hx => by
            rw [lay_dirty (newS 12) a g k m l (by rw [newS_len]; omega) (newS_fits 12) m (Nat.le_refl _) x (by rw [newS_len]; omega), newS_dirty]
            by_cases c : a ≤ x ∧ x < a + m
            · rw [if_pos c, decide_eq_true c]
            · rw [if_neg c, decide_eq_false c]) 12 (by omega)
          rw [e2]
          omega⟩
        have DRT : Aside0 (∀ w', Dk (fun _ => True) 49 w' o s3 → Calls Tryd.prog 15 #[.pointer (some ⟨o.g, 0, none⟩)] w' fun e w'' => ∃ A c, e = .returned (.slice A m c) ∧ Below w'.heap.size w' w'') := ⟨fun w' h => by
          refine (Dk_Dirty.calls o _ w' h).mono ?_
          rintro e w'' ⟨v, q1, q2, q3⟩
          obtain ⟨A, c, rfl⟩ := Kd.R_slice q2
          refine ⟨A, c, ?_, q3⟩
          rw [q1]
          unfold ints
          rw [List.length_map, HDL.out]⟩
        have HBK : Aside0 (∀ j, j < m → rd_L4 s3.now ((a : Int) + (j : Int)) = blkL g k (j : Int) (m : Int) (partL l j) ∧ rd_L4 (blks g k l m) (j : Int) = blkL g k (j : Int) (m : Int) (partL l j)) := ⟨fun j hj => by
          have h1 := FR.out j (by rw [HM.out]; exact hj)
          have h2 := blks_at g k l m j hj
          rw [HM.out] at h1 h2
          unfold rd_L4
          rw [show ((a : Int) + (j : Int)).toNat = a + j by omega, Int.toNat_natCast]
          exact ⟨h1, h2⟩⟩
        have RDY : Aside0 (∀ w', Dk (fun _ => True) 49 w' o s3 → Calls Tryd.prog 18 #[.pointer (some ⟨o.g, 0, none⟩), .int .i64 (a : Int), .int .i64 (b : Int), .int .i64 g, .int .i64 k] w' fun e w'' => ∃ A c, e = .returned (.tuple #[.slice A l.length c, .int .i64 ((a : Int) + (m : Int)), .bool true]) ∧ Kd.R (Kd.int .u8) 5 w'' w'.heap.size (fun _ => True) (.slice A l.length c) l ∧ Below w'.heap.size w' w'') := ⟨fun w' h1 => by
          refine (Td.calls o s3 w' h1 S3.out.bytes a b g k (by omega) (by rw [LN.out]; omega)).mono ?_
          rintro e w'' ⟨v, r, q1, q2, q3, q4⟩
          obtain rfl := FR.out.read (Nat.le_trans HL.out (by decide)) hg1 HGR.out.1 hk1 HGR.out.2 (by rw [HM.out]; omega) q4
          have q2 : Kd.R (Kd.int .u8) 5 w'' w'.heap.size (fun _ => True) v l := q2
          obtain ⟨A, c, rfl⟩ := Kd.R_slice q2
          refine ⟨A, c, ?_, q2, q3⟩
          rw [q1, ← HM.out]
          rfl⟩
        have RDN : Aside0 (∀ w', Dk (fun _ => True) 49 w' o s3 → Calls Tryd.prog 18 #[.pointer (some ⟨o.g, 0, none⟩), .int .i64 (a : Int), .int .i64 ((a : Int) + (m : Int) - 1), .int .i64 g, .int .i64 k] w' fun e w'' => ∃ v, e = .returned (.tuple #[v, .int .i64 0, .bool false]) ∧ Below w'.heap.size w' w'') := ⟨fun w' h1 => by
          rw [show (a : Int) + (m : Int) - 1 = ((a + m - 1 : Nat) : Int) by omega]
          refine (Td.calls o s3 w' h1 S3.out.bytes a (a + m - 1) g k (by omega) (by rw [LN.out]; omega)).mono ?_
          rintro e w'' ⟨v, r, q1, q2, q3, q4⟩
          obtain rfl := FR.out.short (Nat.le_trans HL.out (by decide)) hg1 HGR.out.1 hk1 HGR.out.2 (by rw [HM.out]; omega) q4
          exact ⟨v, q1, q3⟩⟩
        have HBF : Aside0 (chatelaineref24_Blocks.f 400 g k l = some (blks g k l m)) := ⟨by rw [← HM.out]; exact blocks_f g k l (Nat.le_trans HL.out (by decide))⟩
        have HBL : Aside0 ((blks g k l m).length = m) := ⟨blks_len g k l m⟩
        have NUM := NUM0
        clear NUM0 hB BADP hs hg1 hk1 q8
        go_upto_region 17 with (first | (go_at_call 14; with_reducible refine (tail_Parts.calls _ _ _ HPF.out).mono ?_; rintro e w9 ⟨rfl, hb9⟩; have R9 := Aside0.mk (Kd.S_below R8.out hb9); have D9 := Aside0.mk (D8.out.below hb9); have B9 := Aside0.mk (below_step B8.out hb9); clear hb9) | (go_at_call 13; with_reducible refine (chatelainelaw24_whole.calls 2000 _ _ _ true _ (Kd.S_reads' R7.out).2.2 (Kd.S_reads' R7.out).2.1 WH.out).mono ?_; rintro e w8 ⟨rfl, hd8⟩; have hb8 := hd8.below; have R8 := Aside0.mk (Kd.S_below R7.out hb8); have D8 := Aside0.mk (D7.out.below hb8); have B8 := Aside0.mk (below_step B7.out hb8); clear hd8 hb8) | (go_at_call 12; with_reducible refine (chatelainelaw0_KeptBytes.calls 5000 A3 c3 l A c l true _ (Kd.LB_reads' LB6.out).2.2 (Kd.LB_reads' LB6.out).2.1 (Kd.C_below HC.out B6.out) Hc.out (Kd.LB_spare LB6.out) KF.out).mono ?_; rintro e w7 ⟨rfl, hd7⟩; have hb7 := hd7.below; have R7 := Aside0.mk (Kd.S_below R6.out hb7); have D7 := Aside0.mk (D6.out.below hb7); have B7 := Aside0.mk (below_step B6.out hb7); clear hd7 hb7) | (go_at_call 11; with_reducible refine (NUM.out).mono ?_; rintro e w6 ⟨rfl, hb6⟩; have R6 := Aside0.mk (Kd.S_below R5.out hb6); have D6 := Aside0.mk (D5.out.below hb6); have LB6 := Aside0.mk (Kd.LB_below LB5.out hb6); have B6 := Aside0.mk (below_step B5.out hb6); clear hb6))
        go_wp2_with (first | (go_at_call 16; with_reducible refine (chatelaineref24_Blocks.calls 400 g k A c l _ _ (Kd.C_below HC.out B9.out) Hc.out HBF.out).mono ?_; rintro e w10 ⟨v10, rfl, hr10, hb10⟩; have W10 := Aside0.mk (Kd.S_lower hr10 B9.out.size); obtain ⟨A10, c10, rfl⟩ := Kd.S_slice hr10; have R10 := Aside0.mk (Kd.S_below R9.out hb10); have D10 := Aside0.mk (D9.out.below hb10); have B10 := Aside0.mk (below_step B9.out hb10); clear hr10 hb10))
        generalize blks g k l m = WL at *
        go_loopg [19] m (fun kq v19 w' => ∃ j : Nat, v19 = .int .i64 (j : Int) ∧ Aside0 (j + kq = m) ∧ Aside0 (Kd.S (Kd.slice 5 (Kd.int .u8)) 22 w' w.heap.size (fun _ => True) (.slice A4 s3.now.length c4) s3.now) ∧ Aside0 (Kd.S (Kd.slice 5 (Kd.int .u8)) 22 w' w.heap.size (fun _ => True) (.slice A10 WL.length c10) WL) ∧ Aside0 (Dk (fun _ => True) 49 w' o s3) ∧ Aside0 (Below w.heap.size w w'))
        case atStart => exact ⟨0, (by first | rfl | (simp; done)), ⟨by omega⟩, R10, W10, D10, B10⟩
        case round =>
          clear R10 W10 D10 B10
          obtain ⟨j, rfl, HJ, R10, W10, D10, B10⟩ := hrel
          by_cases cj : j < m
          · have z1 : decide ((j : Int) < (m : Int)) = true := decide_eq_true (by omega)
            have z1' : decide (j < m) = true := decide_eq_true cj
            cases gk with
            | zero => have := HJ.out; omega
            | succ k1 =>
              obtain ⟨f1, f2⟩ := HBK.out j cj
              have i1 : (0 : Int) ≤ (a : Int) + (j : Int) := by omega
              have i2 : (a : Int) + (j : Int) < (s3.now.length : Int) := by rw [LN.out]; omega
              have i3 : (0 : Int) ≤ (j : Int) := by omega
              have i4 : (j : Int) < (WL.length : Int) := by rw [HBL.out]; omega
              obtain ⟨adb, Ab, cb, rfl, hxb, hlb, hCb⟩ := at_L4 (Kd.S_reads' R10.out).2.2 ((a : Int) + (j : Int)) i1 i2
              obtain ⟨adw, Aw, cw, rfl, hxw, hlw, hCw⟩ := at_L4 (Kd.S_reads' W10.out).2.2 (j : Int) i3 i4
              rw [f1] at hxb hlb hCb
              rw [f2] at hxw hlw hCw
              have HX : Aside0 ((blkL g k (j : Int) (m : Int) (partL l j)).length < 100000) := ⟨by rw [blkL_len g k j m _ (partL_le l j)]; decide⟩
              generalize blkL g k (j : Int) (m : Int) (partL l j) = BL at *
              have SBT : Aside0 (∀ w', Below wr.heap.size wr w' → Calls Tryd.prog 17 #[.slice Ab BL.length cb, .slice Aw BL.length cw] w' fun e w'' => e = .returned (.bool true) ∧ Below w'.heap.size w' w'') := ⟨fun w' hb => by
                have := Sb.calls Ab cb BL Aw cw BL w' (Kd.C_below hCb hb) hlb (Kd.C_below hCw hb) hlw HX.out
                rw [decide_eq_true (rfl : BL = BL)] at this
                exact this⟩
              clear f1 f2 hlb hCb hlw hCw
              rw [show ((a : Int) + (j : Int)).toNat = a + j by omega] at hxb
              rw [Int.toNat_natCast] at hxw
              have HS0 := Aside0.mk (And.intro hxb hxw)
              have hwr : IntKind.i64.wrap ((a : Int) + (j : Int)) = (a : Int) + (j : Int) := (i64_w _).trans (w64' (by omega) (by omega))
              have i5 : ((a : Int) + (j : Int)).toNat = a + j := by omega
              go_wp2
              go_region_held3 (fun w' => w'.cell? (adb.add (a + j)) = some (.slice Ab BL.length cb) ∧ w'.cell? (adw.add j) = some (.slice Aw BL.length cw)) (first | exact HS0.out | exact S11.out | go_keep) (first | (go_at_call 17; with_reducible refine (SBT.out _ ?side1).mono ?_; (case side1 => exact (by repeat (first | exact Below.refl _ _ | apply below_drew1 | apply pw_below_drewN))); rintro e w11 ⟨rfl, hb11⟩; have hb11 := below_undrew hb11; have R11 := Aside0.mk (Kd.S_below R10.out hb11); have W11 := Aside0.mk (Kd.S_below W10.out hb11); have D11 := Aside0.mk (D10.out.below hb11); have B11 := Aside0.mk (below_step B10.out hb11); have S11 : Aside0 (w11.cell? (adb.add (a + j)) = some (.slice Ab BL.length cb) ∧ w11.cell? (adw.add j) = some (.slice Aw BL.length cw)) := ⟨pw_cell_below hb11 HS0.out.1, pw_cell_below hb11 HS0.out.2⟩; clear hb11))
              all_goals
                go_wp2
                go_roundg k1
                case measure => omega
                case rel => exact ⟨j + 1, (by
                  have hw : wrap64 ((j : Int) + 1) = ((j + 1 : Nat) : Int) := by unfold wrap64; omega
                  first | rfl | (rw [← hw]; rfl) | (simp [*]; done)), ⟨by have := HJ.out; omega⟩, R11, W11, D11, B11⟩
          · have z1 : decide ((j : Int) < (m : Int)) = false := decide_eq_false (by omega)
            have z1' : decide (j < m) = false := decide_eq_false cj
            have SBX : Aside0 (∀ w' A' c', Kd.C (Kd.int .u8) w' A' l.length l → l.length ≤ c' → Kd.C (Kd.int .u8) w' A l.length l → Calls Tryd.prog 17 #[.slice A' l.length c', .slice A l.length c] w' fun e w'' => e = .returned (.bool true) ∧ Below w'.heap.size w' w'') := ⟨fun w' A' c' h1 h2 h3 => by
              have := Sb.calls A' c' l A c l w' h1 h2 h3 Hc.out (Nat.lt_of_le_of_lt HL.out (by decide))
              rw [decide_eq_true (rfl : l = l)] at this
              exact this⟩
            go_wp2_with (first | (go_at_call 5; with_reducible refine (Ak.calls _).mono ?_; rintro e w16 ⟨rfl, hb16⟩; have B16 := Aside0.mk (below_step B15.out hb16); clear hb16) | (go_at_call 15; with_reducible refine (DRT.out _ D14.out).mono ?_; rintro e w15 ⟨A15, c15, rfl, hb15⟩; have B15 := Aside0.mk (below_step B14.out hb15); clear hb15) | (go_at_call 17; with_reducible refine (SBX.out _ _ _ (Kd.R_reads' X13.out).2.2 (Kd.R_reads' X13.out).2.1 (Kd.C_below HC.out B13.out)).mono ?_; rintro e w14 ⟨rfl, hb14⟩; have D14 := Aside0.mk (D13.out.below hb14); have B14 := Aside0.mk (below_step B13.out hb14); clear hb14) | (go_at_call 18; with_reducible refine (RDN.out _ D12.out).mono ?_; rintro e w13 ⟨v13, rfl, hb13⟩; have X13 := Aside0.mk (Kd.R_below X12.out hb13); have D13 := Aside0.mk (D12.out.below hb13); have B13 := Aside0.mk (below_step B12.out hb13); clear hb13) | (go_at_call 18; with_reducible refine (RDY.out _ D10.out).mono ?_; rintro e w12 ⟨A12, c12, rfl, hr12, hb12⟩; have X12 := Aside0.mk hr12; have D12 := Aside0.mk (D10.out.below hb12); have B12 := Aside0.mk (below_step B10.out hb12); clear hr12 hb12))
            go_ret
            exact ⟨rfl, B16.out⟩
end

end Go.Proofs.YtkiofhmpeokipaaDoor.PTA
