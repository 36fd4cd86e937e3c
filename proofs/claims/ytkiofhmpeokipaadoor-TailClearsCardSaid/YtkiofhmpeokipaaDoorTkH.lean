import Derived.Test.YtkiofhmpeokipaaDoorTkG
namespace Go.Proofs.YtkiofhmpeokipaaDoor.PTA
open Go.RowKit Go.Proofs.YtkiofhmpeokipaaDoorW.PrintWords Go.Proofs.YtkiofhmpeokipaaDoorW.PrintLast Go.Proofs.YtkiofhmpeokipaaDoorW.PrintMore
attribute [local go_sem] max2_int min2_int max_two min_two max_three min_three max_four min_four
set_option linter.unusedVariables false
set_option linter.unusedSimpArgs false
section
variable {ok ok2 : Nat → Prop}
set_option maxHeartbeats 8000000 in
set_option maxRecDepth 100000 in
theorem Al.calls (o : Own) (s : DS) (w : World) (h : Dk ok 49 w o s) (hL : ∀ l ∈ s.now, l.length = 512) :
    Calls Tryd.prog 9 #[.pointer (some ⟨o.g, 0, none⟩)] w fun e w' => ∃ v, e = .returned v ∧ Kd.S (Kd.slice 5 (Kd.int .u8)) 22 w' w.heap.size (fun _ => True) v s.now ∧ Below w.heap.size w w' := by
  have hn1 : s.now.length ≤ 256 := h.n1
  have HD := Aside0.mk h
  have HL := Aside0.mk hL
  clear h hL
  go_enter Tryd.func9, Tryd.ntmps9
  go_wp2
  go_loopg [3, 4] s.now.length (fun kq v3 v4 w' => ∃ (i : Nat), v4 = .int .i64 (i : Int) ∧ Aside0 (i + kq = s.now.length) ∧ Aside0 (Kd.S (Kd.slice 5 (Kd.int .u8)) 22 w' w.heap.size (fun _ => True) v3 (s.now.take i)) ∧ Aside0 (Below w.heap.size w w'))
  case atStart => exact ⟨0, (by first | rfl | (simp; done)), ⟨by omega⟩, ⟨by rw [List.take_zero]; exact Kd.S_nil _ _ _ _ _⟩, ⟨Below.refl _ _⟩⟩
  case round =>
    obtain ⟨i, rfl, HJ, HO_8, HB⟩ := hrel
    by_cases ci : i < s.now.length
    · have d1 : decide ((i : Int) < (s.now.length : Int)) = true := decide_eq_true (by omega)
      have d1' : decide (i < s.now.length) = true := decide_eq_true ci
      cases gk with
      | zero => have := HJ.out; omega
      | succ k1 =>
        obtain ⟨l, hl⟩ : ∃ l, s.now[i]? = some l := ⟨_, List.getElem?_eq_getElem ci⟩
        have hll : l.length = 512 := HL.out l (List.mem_of_getElem? hl)
        have RD : Aside0 (∀ w', Below w.heap.size w w' → Calls Tryd.prog 26 #[.pointer (some ⟨o.g, 0, none⟩), .int .i64 (i : Int)] w' fun e w'' => ∃ v, e = .returned (.tuple #[v, .nilIface]) ∧ Kd.R (Kd.int .u8) 5 w'' w'.heap.size (fun _ => True) v l ∧ Below w'.heap.size w' w'') := ⟨fun w' hb => Dk_Read.calls o s w' (HD.out.below hb) i ci l hl (clone_f l (by omega))⟩
        have LN : Aside0 (∀ w', Below w.heap.size w w' → Calls Tryd.prog 25 #[.pointer (some ⟨o.g, 0, none⟩)] w' fun e w'' => e = .returned (.int .i64 (s.now.length : Int)) ∧ w'' = w') := ⟨fun w' hb => Dk_Len.calls o s w' (HD.out.below hb)⟩
        have HT : Aside0 (s.now.take (i + 1) = s.now.take i ++ [l]) := ⟨by rw [List.take_add_one, hl]; rfl⟩
        have HLT : Aside0 ((s.now.take i).length ≤ 256) := ⟨by rw [List.length_take]; omega⟩
        generalize hX1 : s.now.take (i + 1) = X1 at *
        have HX1 := Aside0.mk hX1
        generalize s.now.take i = X0 at *
        clear hl hll hX1
        go_wp2_with (first | ((with_reducible refine gate_builtin (b := .append) (xs := #[.tmp 19, .tmp 21]) rfl ?_); at_builtin; refine Kd.S_append (Kd.slice 5 (Kd.int .u8)) (w0 := w) w.heap.size rfl (.tmp 19) (.tmp 21) 31 22 (.slice none 0 0) 24 rfl Tryd.underlying31 info22 rfl (by decide) (by omega) u3 X0 l [.slice A1 l.length c1] (fun _ => True) (fun k_ => some k_ = (.slice A1 l.length c1 : Value).ownBlock) rfl rfl ?aP (fun k_ hk_ => ((Kd.R_mono (ok' := fun k_ => ((fun _ => True)) k_ ∧ some k_ ≠ (u3 : Value).ownBlock) (Kd.R_apart' (R1.out) (Kd.S_typed HO_8.out) (by decide)) (fun k_ hk => ⟨trivial, hk.2⟩))).1 k_ hk_.symm) ?aF ?aO ?aB ?aS ?aL ?_; (case aP => exact Kd.M_row (Kd.R_mono (Kd.R_tight rfl (Kd.R_mono (ok' := fun k_ => ((fun _ => True)) k_ ∧ some k_ ≠ (u3 : Value).ownBlock) (Kd.R_apart' (R1.out) (Kd.S_typed HO_8.out) (by decide)) (fun k_ hk => ⟨trivial, hk.2⟩))) (fun _ h_ => h_))); (case aB => exact (by repeat (first | (with_reducible first | exact HB.out | apply below_alloc | apply pw_below_drewN | apply below_drew1) | exact HB.out))); (case aF => exact (fun _ _ => trivial)); (case aO => exact (by (with_reducible repeat (first | apply Kd.S_alloc | apply Kd.S_drewN | apply Kd.S_drew)); exact Kd.S_mono HO_8.out (fun k_ hk => ⟨trivial, fun e_ => Nat.not_le.2 hk.2 (RB.out k_ e_.symm)⟩))); (case aS => exact (below_size (by repeat (first | (with_reducible first | exact HB.out | apply below_alloc | apply pw_below_drewN | apply below_drew1) | exact HB.out)))); (case aL => have := HLT.out; omega); intro v189 w38 ho hb hg hat; rw [← HT.out] at ho; have B4 := Aside0.mk hb; have O4 := Aside0.mk ho; clear ho hb hg hat) | (go_at_call 26; with_reducible refine (RD.out _ HB.out).mono ?_; rintro e w1 ⟨v1, rfl, hr1, hb1⟩; have RB := Aside0.mk (Kd.R_base hr1); have R1 := Aside0.mk (Kd.R_lower hr1 HB.out.size); obtain ⟨A1, c1, rfl⟩ := Kd.R_slice hr1; have n0_ := Aside0.mk (below_step HB.out hb1); have n1_ := Aside0.mk (Kd.S_old HO_8.out hb1); clear hr1 hb1 HB HO_8; have HB := n0_; have HO_8 := n1_; clear n0_ n1_) | (go_at_call 25; with_reducible refine (LN.out _ HB.out).mono ?_; rintro e wc ⟨rfl, hw⟩; replace hw := hw.symm; subst hw))
        go_roundg k1
        case measure => omega
        case rel => exact ⟨i + 1, (by
          have hw : wrap64 ((i : Int) + 1) = ((i + 1 : Nat) : Int) := by unfold wrap64; omega
          first | rfl | (rw [← hw]; rfl) | (simp [*]; done)), ⟨by have := HJ.out; omega⟩, ⟨by rw [HX1.out]; exact O4.out⟩, B4⟩
    · have d1 : decide ((i : Int) < (s.now.length : Int)) = false := decide_eq_false (by omega)
      have d1' : decide (i < s.now.length) = false := decide_eq_false ci
      have LN : Aside0 (∀ w', Below w.heap.size w w' → Calls Tryd.prog 25 #[.pointer (some ⟨o.g, 0, none⟩)] w' fun e w'' => e = .returned (.int .i64 (s.now.length : Int)) ∧ w'' = w') := ⟨fun w' hb => Dk_Len.calls o s w' (HD.out.below hb)⟩
      have HF : Aside0 (s.now.take i = s.now) := ⟨List.take_of_length_le (by omega)⟩
      go_wp2_with (first | (go_at_call 25; with_reducible refine (LN.out _ HB.out).mono ?_; rintro e wc ⟨rfl, hw⟩; replace hw := hw.symm; subst hw))
      go_ret
      exact ⟨_, rfl, by have := HO_8.out; rw [HF.out] at this; exact this, HB.out⟩
end

end Go.Proofs.YtkiofhmpeokipaaDoor.PTA
