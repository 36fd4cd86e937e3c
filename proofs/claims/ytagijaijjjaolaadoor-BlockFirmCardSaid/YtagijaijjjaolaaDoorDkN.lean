import Derived.Test.YtagijaijjjaolaaDoorDkM
namespace Go.Proofs.YtagijaijjjaolaaDoor.PBL
open Go.RowKit Go.Proofs.YtagijaijjjaolaaDoorW.PrintWords Go.Proofs.YtagijaijjjaolaaDoorW.PrintLast Go.Proofs.YtagijaijjjaolaaDoorW.PrintMore
attribute [local go_sem] max2_int min2_int max_two min_two max_three min_three max_four min_four
set_option linter.unusedVariables false
set_option linter.unusedSimpArgs false
section
variable {ok ok2 : Nat → Prop}
/-- A disk that was made since w0, and nothing else has changed. -/
structure Lv (w0 w : World) (o : Own) (s : DS) : Prop where
  dk : Dk (fun _ => True) 58 w o s
  ge : ∀ k, o.has k → w0.heap.size ≤ k
  bl : Below w0.heap.size w0 w
theorem Lv.step {w0 w w' : World} {o : Own} {s s' : DS} (h : Lv w0 w o s) (hd : Dk (fun _ => True) 58 w' o s') (hk : Keeps o.has w w') : Lv w0 w' o s' := ⟨hd, h.ge, hk.below h.ge h.bl.size h.bl⟩
theorem Lv.far {w0 w w' : World} {o : Own} {s : DS} (h : Lv w0 w o s) (hb : Below w.heap.size w w') : Lv w0 w' o s := ⟨h.dk.below hb, h.ge, below_step h.bl hb⟩
theorem Lv.gc {w0 w : World} {o : Own} {s : DS} (h : Lv w0 w o s) {v : Value} (hg : w0.cell? ⟨0, 0, none⟩ = some v) : w.cell? ⟨0, 0, none⟩ = some v := pw_cell_below h.bl hg
theorem keep_nil (w : World) : Kd.C Kd.bool w none ([] : List Bool).length [] := Kd.C_of_reads (d := false) ⟨rfl, by decide, fun h => absurd h (by decide)⟩
theorem bytes_nil (w : World) : Kd.C (Kd.int .u8) w none ([] : List Int).length [] := Kd.C_of_reads (d := (0 : Int)) ⟨rfl, by decide, fun h => absurd h (by decide)⟩

set_option maxHeartbeats 8000000 in
set_option maxRecDepth 100000 in
theorem Aw.calls (w : World) (hg : w.cell? ⟨0, 0, none⟩ = some (.iface 94 (.agg #[.pointer (some ⟨1, 28, none⟩)]))) :
    Calls Tryd.prog 8 #[] w fun e w' => e = .returned (.bool true) ∧ Below w.heap.size w w' := by
  have hl1 := full_512 1
  have hl2 := full_512 2
  have F1 : Aside0 (∀ w : World, Calls Tryd.prog 11 #[.int .u8 1, .int .i64 512] w fun e w' => ∃ A c, e = .returned (.slice A (fullL 1 512).length c) ∧ Kd.R (Kd.int .u8) 5 w' w.heap.size (fun _ => True) (.slice A (fullL 1 512).length c) (fullL 1 512) ∧ Below w.heap.size w w') := ⟨fun w => Fu.calls 1 512 w⟩
  have F2 : Aside0 (∀ w : World, Calls Tryd.prog 11 #[.int .u8 2, .int .i64 512] w fun e w' => ∃ A c, e = .returned (.slice A (fullL 2 512).length c) ∧ Kd.R (Kd.int .u8) 5 w' w.heap.size (fun _ => True) (.slice A (fullL 2 512).length c) (fullL 2 512) ∧ Below w.heap.size w w') := ⟨fun w => Fu.calls 2 512 w⟩
  generalize fullL 1 512 = L1 at *
  generalize fullL 2 512 = L2 at *
  have HL1 := Aside0.mk hl1
  have HL2 := Aside0.mk hl2
  have N1 : Aside0 (∀ w : World, Calls Tryd.prog 9 #[.int .i64 3] w fun e w' => ∃ o : Own, e = .returned (.pointer (some ⟨o.g, 0, none⟩)) ∧ Dk (fun _ => True) 58 w' o ⟨[(List.replicate 512 0 : List Int), (List.replicate 512 0 : List Int), (List.replicate 512 0 : List Int)], [(List.replicate 512 0 : List Int), (List.replicate 512 0 : List Int), (List.replicate 512 0 : List Int)], [false, false, false]⟩ ∧ (∀ k, o.has k → w.heap.size ≤ k) ∧ Below w.heap.size w w') := ⟨fun w => Dk_New.calls 3 w (by decide) (by decide)⟩
  generalize (List.replicate 512 0 : List Int) = Z0 at *
  have W1 : Aside0 (∀ (o : Own) (A : Option Addr) (c : Nat) (w : World), Dk (fun _ => True) 58 w o ⟨[Z0, Z0, Z0], [Z0, Z0, Z0], [false, false, false]⟩ → Kd.C (Kd.int .u8) w A L1.length L1 → L1.length ≤ c → Calls Tryd.prog 10 #[.pointer (some ⟨o.g, 0, none⟩), .int .i64 0, .slice A L1.length c] w fun e w' => e = .returned .nilIface ∧ Dk (fun _ => True) 58 w' o ⟨[L1, Z0, Z0], [Z0, Z0, Z0], [true, false, false]⟩ ∧ Keeps o.has w w') := ⟨fun o A c w hd hc hcc => Dk_WriteOk.calls o _ w hd A c L1 hc hcc hl1 (clone_f _ (by omega)) 0 (Nat.succ_pos 2) (fun _ _ => trivial)⟩
  have FL : Aside0 (∀ (o : Own) (w : World), Dk (fun _ => True) 58 w o ⟨[L1, Z0, Z0], [Z0, Z0, Z0], [true, false, false]⟩ → Calls Tryd.prog 12 #[.pointer (some ⟨o.g, 0, none⟩)] w fun e w' => e = .returned (.tuple #[]) ∧ Dk (fun _ => True) 58 w' o ⟨[L1, Z0, Z0], [L1, Z0, Z0], [false, false, false]⟩ ∧ Keeps o.has w w') := ⟨fun o w hd => Dk_Flush.calls o _ w hd⟩
  have W2 : Aside0 (∀ (o : Own) (A : Option Addr) (c : Nat) (w : World), Dk (fun _ => True) 58 w o ⟨[L1, Z0, Z0], [L1, Z0, Z0], [false, false, false]⟩ → Kd.C (Kd.int .u8) w A L2.length L2 → L2.length ≤ c → Calls Tryd.prog 10 #[.pointer (some ⟨o.g, 0, none⟩), .int .i64 0, .slice A L2.length c] w fun e w' => e = .returned .nilIface ∧ Dk (fun _ => True) 58 w' o ⟨[L2, Z0, Z0], [L1, Z0, Z0], [true, false, false]⟩ ∧ Keeps o.has w w') := ⟨fun o A c w hd hc hcc => Dk_WriteOk.calls o _ w hd A c L2 hc hcc hl2 (clone_f _ (by omega)) 0 (Nat.succ_pos 2) (fun _ _ => trivial)⟩
  have C1 : Aside0 (∀ (o : Own) (w : World), Dk (fun _ => True) 58 w o ⟨[L2, Z0, Z0], [L1, Z0, Z0], [true, false, false]⟩ → Calls Tryd.prog 14 #[.pointer (some ⟨o.g, 0, none⟩), .slice none 0 0] w fun e w' => e = .returned (.int .i64 0) ∧ Dk (fun _ => True) 58 w' o ⟨[L1, Z0, Z0], [L1, Z0, Z0], [false, false, false]⟩ ∧ Keeps o.has w w') := ⟨fun o w hd => Dk_Crash.calls o _ w hd none 0 [] (keep_nil w) (Nat.le_refl _) (fun ad e _ => by cases e)⟩
  have R1 : Aside0 (∀ (o : Own) (w : World), Dk (fun _ => True) 58 w o ⟨[L1, Z0, Z0], [L1, Z0, Z0], [false, false, false]⟩ → Calls Tryd.prog 15 #[.pointer (some ⟨o.g, 0, none⟩), .int .i64 0] w fun e w' => ∃ v, e = .returned (.tuple #[v, .nilIface]) ∧ Kd.R (Kd.int .u8) 5 w' w.heap.size (fun _ => True) v L1 ∧ Below w.heap.size w w') := ⟨fun o w hd => Dk_Read.calls o _ w hd 0 (Nat.succ_pos 2) L1 rfl (clone_f _ (by omega))⟩
  have LE : Aside0 (∀ (o : Own) (w : World), Dk (fun _ => True) 58 w o ⟨[L1, Z0, Z0], [L1, Z0, Z0], [false, false, false]⟩ → Calls Tryd.prog 23 #[.pointer (some ⟨o.g, 0, none⟩)] w fun e w' => e = .returned (.int .i64 3) ∧ w' = w) := ⟨fun o w hd => Dk_Len.calls o _ w hd⟩
  have NN : Aside0 (∀ (w' : World), (∃ o s, Lv w w' o s) → Calls Tryd.prog 9 #[.int .i64 0] w' fun e w'' => e = .returned (.pointer none) ∧ w'' = w') := ⟨fun w' _ => Dk_NewNo.calls 0 w' (.inl (by decide))⟩
  have W3 : Aside0 (∀ (o : Own) (w : World), Dk (fun _ => True) 58 w o ⟨[L1, Z0, Z0], [L1, Z0, Z0], [false, false, false]⟩ → Calls Tryd.prog 10 #[.pointer (some ⟨o.g, 0, none⟩), .int .i64 0, .slice none 0 0] w fun e w' => ∃ v, e = .returned v ∧ ErrV w' v 3 ∧ Below w.heap.size w w') := ⟨fun o w hd => (Dk_WriteSize.calls o _ w hd none 0 0 0 (Nat.succ_pos 2) (by decide)).mono fun e w' ⟨v, q1, q2, q3⟩ => ⟨v, q1, .inr ⟨by decide, q2⟩, q3⟩⟩
  have HG := Aside0.mk hg
  clear hg hl1 hl2
  go_enter Tryd.func8, Tryd.ntmps8
  go_wp2_with (first | (go_at_call 25; with_reducible refine (HE9.out.num (X8.out.gc HG.out)).mono ?_; rintro e w9 ⟨rfl, hb9⟩; have X9 := Aside0.mk (X8.out.far hb9); clear hb9) | (go_at_call 10; with_reducible refine (W3.out _ _ X7.out.dk).mono ?_; rintro e w8 ⟨v8, rfl, he8, hb8⟩; have X8 := Aside0.mk (X7.out.far hb8); have HE9 := Aside0.mk he8; clear hb8 he8) | (go_at_call 9; with_reducible refine (NN.out _ ⟨_, _, X7.out⟩).mono ?_; rintro e w7b ⟨rfl, rfl⟩; skip) | (go_at_call 23; with_reducible refine (LE.out _ _ X7.out.dk).mono ?_; rintro e w7c ⟨rfl, rfl⟩; skip) | (go_at_call 16; with_reducible refine (Sb.calls AX cX L1 A6 c6 L1 _ (Kd.R_reads' HX.out).2.2 (Kd.R_reads' HX.out).2.1 (Kd.R_reads' HF6.out).2.2 (Kd.R_reads' HF6.out).2.1 (by have := HL1.out; omega)).mono ?_; rintro e w7 ⟨rfl, hb7⟩; have X7 := Aside0.mk (X6.out.far hb7); clear hb7) | (go_at_call 11; with_reducible refine (F1.out w5).mono ?_; rintro e w6 ⟨A6, c6, rfl, hr6, hb6⟩; have X6 := Aside0.mk (X5.out.far hb6); have HF6 := Aside0.mk hr6; have HX := Aside0.mk (Kd.R_below HX0.out hb6); clear hr6 hb6) | (go_at_call 15; with_reducible refine (R1.out _ _ X4.out.dk).mono ?_; rintro e w5 ⟨v5, rfl, hr5, hb5⟩; have X5 := Aside0.mk (X4.out.far hb5); obtain ⟨AX, cX, rfl⟩ := Kd.R_slice hr5; have HX0 := Aside0.mk hr5; clear hr5 hb5) | (go_at_call 14; with_reducible refine (C1.out _ _ X3.out.dk).mono ?_; rintro e w4 ⟨rfl, hd4, hk4⟩; have X4 := Aside0.mk (X3.out.step hd4 hk4); clear hd4 hk4) | (go_at_call 10; with_reducible refine (W2.out _ _ _ _ X2b.out.dk (Kd.R_reads' HF2.out).2.2 (Kd.R_reads' HF2.out).2.1).mono ?_; rintro e w3 ⟨rfl, hd3, hk3⟩; have X3 := Aside0.mk (X2b.out.step hd3 hk3); clear hd3 hk3) | (go_at_call 11; with_reducible refine (F2.out w2).mono ?_; rintro e w2b ⟨A2, c2, rfl, hr2, hb2⟩; have X2b := Aside0.mk (X2.out.far hb2); have HF2 := Aside0.mk hr2; clear hr2 hb2) | (go_at_call 12; with_reducible refine (FL.out _ _ X1.out.dk).mono ?_; rintro e w2 ⟨rfl, hd2, hk2⟩; have X2 := Aside0.mk (X1.out.step hd2 hk2); clear hd2 hk2) | (go_at_call 10; with_reducible refine (W1.out _ _ _ _ X0b.out.dk (Kd.R_reads' HF1.out).2.2 (Kd.R_reads' HF1.out).2.1).mono ?_; rintro e w1 ⟨rfl, hd1, hk1⟩; have X1 := Aside0.mk (X0b.out.step hd1 hk1); clear hd1 hk1) | (go_at_call 11; with_reducible refine (F1.out _).mono ?_; rintro e w0b ⟨A1, c1, rfl, hr1, hb1⟩; have X0b := Aside0.mk (X0.out.far hb1); have HF1 := Aside0.mk hr1; clear hr1 hb1) | (go_at_call 9; with_reducible refine (N1.out _).mono ?_; rintro e w0 ⟨o, rfl, hd0, hge0, hb0⟩; have X0 : Aside0 (Lv w w0 o ⟨[Z0, Z0, Z0], [Z0, Z0, Z0], [false, false, false]⟩) := ⟨hd0, hge0, hb0⟩; clear hd0 hge0 hb0))
  go_ret
  exact ⟨rfl, X9.out.bl⟩

end

end Go.Proofs.YtagijaijjjaolaaDoor.PBL
