import Derived.Test.YtagijaijjjaolaaDoorDkQ
namespace Go.Proofs.YtagijaijjjaolaaDoor.PBL
open Go.RowKit Go.Proofs.YtagijaijjjaolaaDoorW.PrintWords Go.Proofs.YtagijaijjjaolaaDoorW.PrintLast Go.Proofs.YtagijaijjjaolaaDoorW.PrintMore
attribute [local go_sem] max2_int min2_int max_two min_two max_three min_three max_four min_four
set_option linter.unusedVariables false
set_option linter.unusedSimpArgs false
section
variable {ok ok2 : Nat → Prop}
theorem ErrV.one {w : World} {v : Value} {c : Int} (h : c ≠ 0) (hf : FaultAt w v c) : ErrV w v c := Or.inr ⟨h, hf⟩

set_option maxHeartbeats 8000000 in
set_option maxRecDepth 100000 in
theorem BNo.calls (i : Int) (w : World) (hg : w.cell? ⟨0, 0, none⟩ = some (.iface 94 (.agg #[.pointer (some ⟨1, 28, none⟩)]))) :
    Calls Tryd.prog 5 #[.int .i64 i] w fun e w' => e = .returned (.bool true) ∧ Below w.heap.size w w' := by
  have HG := Aside0.mk hg
  clear hg
  go_enter Tryd.func5, Tryd.ntmps5
  go_wp2_with (first | (go_at_call 8; with_reducible refine (Aw.calls _ (pw_cell_below B8.out HG.out)).mono ?_; rintro e w9 ⟨rfl, hb9⟩; have B9 := Aside0.mk (below_step B8.out hb9); clear hb9) | (go_at_call 26; with_reducible refine (Dk_CopyN.calls _).mono ?_; rintro e wc ⟨rfl, hw⟩; replace hw := hw.symm; subst hw) | (go_at_call 14; with_reducible refine (Dk_CrashN.calls none 0 0 _).mono ?_; rintro e wc ⟨rfl, hw⟩; replace hw := hw.symm; subst hw) | (go_at_call 13; with_reducible refine (Dk_DirtyN.calls _).mono ?_; rintro e wc ⟨rfl, hw⟩; replace hw := hw.symm; subst hw) | (go_at_call 23; with_reducible refine (Dk_LenN.calls _).mono ?_; rintro e wc ⟨rfl, hw⟩; replace hw := hw.symm; subst hw) | (go_at_call 25; with_reducible refine (E7.out.num (pw_cell_below B7.out HG.out)).mono ?_; rintro e w8 ⟨rfl, hb8⟩; have B8 := Aside0.mk (below_step B7.out hb8); clear hb8) | (go_at_call 10; with_reducible refine (Dk_WriteN.calls none 0 0 i _).mono ?_; rintro e w7 ⟨v7, rfl, he7, hb7⟩; have E7 : Aside0 (ErrV w7 v7 1) := ⟨ErrV.one (by decide) he7⟩; have B7 := Aside0.mk (below_step B6.out hb7); clear he7 hb7) | (go_at_call 25; with_reducible refine (EB5.out.num (pw_cell_below B5.out HG.out)).mono ?_; rintro e w6 ⟨rfl, hb6⟩; have B6 := Aside0.mk (below_step B5.out hb6); clear hb6) | (go_at_call 25; with_reducible refine (EA3.out.num (pw_cell_below B3.out HG.out)).mono ?_; rintro e w5 ⟨rfl, hb5⟩; have B5 := Aside0.mk (below_step B3.out hb5); have EB5 := Aside0.mk (EB3.out.below hb5); clear hb5) | (go_at_call 24; with_reducible refine (Dk_FirmN.calls i _).mono ?_; rintro e w3 ⟨v3, rfl, he3, hb3⟩; have EB3 : Aside0 (ErrV w3 v3 1) := ⟨ErrV.one (by decide) he3⟩; have EA3 := Aside0.mk (EA2.out.below hb3); have B3 := Aside0.mk (below_step B2.out hb3); clear he3 hb3) | (go_at_call 15; with_reducible refine (Dk_ReadN.calls i _).mono ?_; rintro e w2 ⟨v2, rfl, he2, hb2⟩; have EA2 : Aside0 (ErrV w2 v2 1) := ⟨ErrV.one (by decide) he2⟩; have B2 := Aside0.mk (below_step B1.out hb2); clear he2 hb2) | (go_at_call 12; with_reducible refine (Dk_FlushN.calls _).mono ?_; rintro e w1 ⟨rfl, hb1⟩; have B1 := Aside0.mk hb1; clear hb1))
  go_ret
  exact ⟨rfl, B9.out⟩

end

end Go.Proofs.YtagijaijjjaolaaDoor.PBL
