import Derived.Test.YtkiofhmpeokipaaDoorDkZ
import Derived.Test.YtkiofhmpeokipaaDoorTkB
namespace Go.Proofs.YtkiofhmpeokipaaDoor.PTA
open Go.RowKit Go.Proofs.YtkiofhmpeokipaaDoorW.PrintWords Go.Proofs.YtkiofhmpeokipaaDoorW.PrintLast Go.Proofs.YtkiofhmpeokipaaDoorW.PrintMore
attribute [local go_sem] max2_int min2_int max_two min_two max_three min_three max_four min_four
set_option linter.unusedVariables false
set_option linter.unusedSimpArgs false
section
variable {ok ok2 : Nat → Prop}
set_option maxHeartbeats 8000000 in
set_option maxRecDepth 100000 in
theorem Tp_N.calls (a b : Int) (w : World) :
    Calls Tryd.prog 21 #[.pointer none, .int .i64 a, .int .i64 b] w fun e w' => ∃ v, e = .returned v ∧ FaultAt w' v 1 ∧ Below w.heap.size w w' := by
  go_enter Tryd.func21, Tryd.ntmps21
  go_wp2_with (go_in)
  go_ret
  exact ⟨_, rfl, ⟨_, _, rfl, blk_new _ _⟩, (Below.refl _ _).alloc (Nat.le_refl _) _⟩
set_option maxHeartbeats 8000000 in
set_option maxRecDepth 100000 in
theorem Tp_Ok.calls (o : Own) (s : DS) (w : World) (h : Dk ok 49 w o s) (a b : Int) (h0 : 0 ≤ a) (h1 : a ≤ b) (h2 : b ≤ (s.now.length : Int)) :
    Calls Tryd.prog 21 #[.pointer (some ⟨o.g, 0, none⟩), .int .i64 a, .int .i64 b] w fun e w' => e = .returned .nilIface ∧ w' = w := by
  have c1 : decide (a < 0) = false := decide_eq_false (by omega)
  have c2 : decide (b < a) = false := decide_eq_false (by omega)
  have c3 : decide ((s.now.length : Int) < b) = false := decide_eq_false (by omega)
  have HD := Aside0.mk h
  clear h h0 h1 h2
  go_enter Tryd.func21, Tryd.ntmps21
  go_wp2_with (first | (go_at_call 25; with_reducible refine (Dk_Len.calls o s _ HD.out).mono ?_; rintro e wc ⟨rfl, hw⟩; replace hw := hw.symm; subst hw))
  go_ret
  exact ⟨rfl, rfl⟩
set_option maxHeartbeats 8000000 in
set_option maxRecDepth 100000 in
theorem Tp_B1.calls (g : Nat) (a b : Int) (w : World) (h0 : a < 0) :
    Calls Tryd.prog 21 #[.pointer (some ⟨g, 0, none⟩), .int .i64 a, .int .i64 b] w fun e w' => ∃ v, e = .returned v ∧ FaultAt w' v 2 ∧ Below w.heap.size w w' := by
  have c1 : decide (a < 0) = true := decide_eq_true (by omega)
  clear h0
  go_enter Tryd.func21, Tryd.ntmps21
  go_wp2_with (go_in)
  go_ret
  exact ⟨_, rfl, ⟨_, _, rfl, blk_new _ _⟩, (Below.refl _ _).alloc (Nat.le_refl _) _⟩
set_option maxHeartbeats 8000000 in
set_option maxRecDepth 100000 in
theorem Tp_B2.calls (g : Nat) (a b : Int) (w : World) (h0 : 0 ≤ a) (h1 : b < a) :
    Calls Tryd.prog 21 #[.pointer (some ⟨g, 0, none⟩), .int .i64 a, .int .i64 b] w fun e w' => ∃ v, e = .returned v ∧ FaultAt w' v 2 ∧ Below w.heap.size w w' := by
  have c1 : decide (a < 0) = false := decide_eq_false (by omega)
  have c2 : decide (b < a) = true := decide_eq_true (by omega)
  clear h0 h1
  go_enter Tryd.func21, Tryd.ntmps21
  go_wp2_with (go_in)
  go_ret
  exact ⟨_, rfl, ⟨_, _, rfl, blk_new _ _⟩, (Below.refl _ _).alloc (Nat.le_refl _) _⟩
set_option maxHeartbeats 8000000 in
set_option maxRecDepth 100000 in
theorem Tp_B3.calls (o : Own) (s : DS) (w : World) (h : Dk ok 49 w o s) (a b : Int) (h0 : 0 ≤ a) (h1 : a ≤ b) (h2 : (s.now.length : Int) < b) :
    Calls Tryd.prog 21 #[.pointer (some ⟨o.g, 0, none⟩), .int .i64 a, .int .i64 b] w fun e w' => ∃ v, e = .returned v ∧ FaultAt w' v 2 ∧ Below w.heap.size w w' := by
  have c1 : decide (a < 0) = false := decide_eq_false (by omega)
  have c2 : decide (b < a) = false := decide_eq_false (by omega)
  have c3 : decide ((s.now.length : Int) < b) = true := decide_eq_true (by omega)
  have HD := Aside0.mk h
  clear h h0 h1 h2
  go_enter Tryd.func21, Tryd.ntmps21
  go_wp2_with (first | (go_at_call 25; with_reducible refine (Dk_Len.calls o s _ HD.out).mono ?_; rintro e wc ⟨rfl, hw⟩; replace hw := hw.symm; subst hw) | go_in)
  go_ret
  exact ⟨_, rfl, ⟨_, _, rfl, blk_new _ _⟩, (Below.refl _ _).alloc (Nat.le_refl _) _⟩
/-- Where there is no frame. -/
def OffP (s : DS) (a b : Int) : Prop := a < 0 ∨ b < a ∨ (s.now.length : Int) < b
theorem Tp_Bad.calls (o : Own) (s : DS) (w : World) (h : Dk ok 49 w o s) (a b : Int) (hb : OffP s a b) :
    Calls Tryd.prog 21 #[.pointer (some ⟨o.g, 0, none⟩), .int .i64 a, .int .i64 b] w fun e w' => ∃ v, e = .returned v ∧ FaultAt w' v 2 ∧ Below w.heap.size w w' := by
  by_cases h0 : a < 0
  · exact Tp_B1.calls o.g a b w h0
  · by_cases h1 : b < a
    · exact Tp_B2.calls o.g a b w (by omega) h1
    · exact Tp_B3.calls o s w h a b (by omega) (by omega) ((hb.resolve_left h0).resolve_left h1)
/-- All blocks are bytes. -/
def DS.AllB (s : DS) : Prop := ∀ l ∈ s.now, IsB l ∧ l.length = 512
theorem DS.AllB.at {s : DS} (h : s.AllB) {i : Nat} {l : List Int} (e : s.now[i]? = some l) : IsB l ∧ l.length = 512 := h l (List.mem_of_getElem? e)
/-- What is peeked at. -/
def peekF (l : List Int) : Int × Int × Bool := if hOk l = true ∧ hW l 0 = 0 then (hG l, hN l, true) else (0, 0, false)
set_option maxHeartbeats 8000000 in
set_option maxRecDepth 100000 in
theorem Tk_no.calls (o : Own) (s : DS) (w : World) (h : Dk ok 49 w o s) (hB : s.AllB) (i : Nat) (l : List Int) (hl : s.now[i]? = some l) (hk : hOk l = false) :
    Calls Tryd.prog 20 #[.pointer (some ⟨o.g, 0, none⟩), .int .i64 (i : Int)] w fun e w' => e = .returned (.tuple #[.int .i64 0, .int .i64 0, .bool false]) ∧ Below w.heap.size w w' := by
  have hi : i < s.now.length := (List.getElem?_eq_some_iff.mp hl).1
  obtain ⟨hIB, hL⟩ := hB.at hl
  have HRD := Aside0.mk (Dk_Read.calls o s w h i hi l hl (clone_f l (by omega)))
  have TR : Aside0 (∀ A c w', Kd.C (Kd.int .u8) w' A l.length l → l.length ≤ c → Calls Tryd.prog 31 #[.slice A l.length c] w' fun e w'' => e = .returned (.tuple #[.agg #[.int .i64 (hG l), .int .i64 (hN l), .int .i64 (hW l 0), .int .i64 (hW l 1), .int .i64 (hW l 2)], .bool false]) ∧ Below w'.heap.size w' w'') := ⟨fun A c w' h1 h2 => by have := Tr.calls A c l w' h1 h2 hL hIB; rw [hk] at this; exact this⟩
  clear h hB hl hk hIB hL hi
  go_enter Tryd.func20, Tryd.ntmps20
  go_wp2_with (first | (go_at_call 31; (with_reducible refine (TR.out _ _ _ (Kd.R_reads' R1.out).2.2 (Kd.R_reads' R1.out).2.1).mono ?_); rintro e w2 ⟨rfl, hb2⟩; have B2 := Aside0.mk (below_step B1.out hb2); clear hb2) | (go_at_call 26; with_reducible refine HRD.out.mono ?_; rintro e w1 ⟨v, rfl, hr, hb⟩; have R1 := Aside0.mk hr; obtain ⟨A1, c1, rfl⟩ := Kd.R_slice hr; have B1 := Aside0.mk hb; clear hr hb))
  go_ret3
  exact ⟨rfl, (B2.out.alloc B2.out.size _)⟩
set_option maxHeartbeats 8000000 in
set_option maxRecDepth 100000 in
theorem Tk_part.calls (o : Own) (s : DS) (w : World) (h : Dk ok 49 w o s) (hB : s.AllB) (i : Nat) (l : List Int) (hl : s.now[i]? = some l) (hk : hOk l = true) (hp : hW l 0 ≠ 0) :
    Calls Tryd.prog 20 #[.pointer (some ⟨o.g, 0, none⟩), .int .i64 (i : Int)] w fun e w' => e = .returned (.tuple #[.int .i64 0, .int .i64 0, .bool false]) ∧ Below w.heap.size w w' := by
  have hi : i < s.now.length := (List.getElem?_eq_some_iff.mp hl).1
  obtain ⟨hIB, hL⟩ := hB.at hl
  have HRD := Aside0.mk (Dk_Read.calls o s w h i hi l hl (clone_f l (by omega)))
  have TR : Aside0 (∀ A c w', Kd.C (Kd.int .u8) w' A l.length l → l.length ≤ c → Calls Tryd.prog 31 #[.slice A l.length c] w' fun e w'' => e = .returned (.tuple #[.agg #[.int .i64 (hG l), .int .i64 (hN l), .int .i64 (hW l 0), .int .i64 (hW l 1), .int .i64 (hW l 2)], .bool true]) ∧ Below w'.heap.size w' w'') := ⟨fun A c w' h1 h2 => by have := Tr.calls A c l w' h1 h2 hL hIB; rw [hk] at this; exact this⟩
  clear h hB hl hk hIB hL hi
  have p1 : (hW l 0 != 0) = true := bne_iff_ne.mpr hp
  clear hp
  go_enter Tryd.func20, Tryd.ntmps20
  go_wp2_with (first | (go_at_call 31; (with_reducible refine (TR.out _ _ _ (Kd.R_reads' R1.out).2.2 (Kd.R_reads' R1.out).2.1).mono ?_); rintro e w2 ⟨rfl, hb2⟩; have B2 := Aside0.mk (below_step B1.out hb2); clear hb2) | (go_at_call 26; with_reducible refine HRD.out.mono ?_; rintro e w1 ⟨v, rfl, hr, hb⟩; have R1 := Aside0.mk hr; obtain ⟨A1, c1, rfl⟩ := Kd.R_slice hr; have B1 := Aside0.mk hb; clear hr hb))
  go_ret3
  exact ⟨rfl, (B2.out.alloc B2.out.size _)⟩
set_option maxHeartbeats 8000000 in
set_option maxRecDepth 100000 in
theorem Tk_ok.calls (o : Own) (s : DS) (w : World) (h : Dk ok 49 w o s) (hB : s.AllB) (i : Nat) (l : List Int) (hl : s.now[i]? = some l) (hk : hOk l = true) (hp : hW l 0 = 0) :
    Calls Tryd.prog 20 #[.pointer (some ⟨o.g, 0, none⟩), .int .i64 (i : Int)] w fun e w' => e = .returned (.tuple #[.int .i64 (hG l), .int .i64 (hN l), .bool true]) ∧ Below w.heap.size w w' := by
  have hi : i < s.now.length := (List.getElem?_eq_some_iff.mp hl).1
  obtain ⟨hIB, hL⟩ := hB.at hl
  have HRD := Aside0.mk (Dk_Read.calls o s w h i hi l hl (clone_f l (by omega)))
  have TR : Aside0 (∀ A c w', Kd.C (Kd.int .u8) w' A l.length l → l.length ≤ c → Calls Tryd.prog 31 #[.slice A l.length c] w' fun e w'' => e = .returned (.tuple #[.agg #[.int .i64 (hG l), .int .i64 (hN l), .int .i64 (hW l 0), .int .i64 (hW l 1), .int .i64 (hW l 2)], .bool true]) ∧ Below w'.heap.size w' w'') := ⟨fun A c w' h1 h2 => by have := Tr.calls A c l w' h1 h2 hL hIB; rw [hk] at this; exact this⟩
  clear h hB hl hk hIB hL hi
  have p1 : (hW l 0 != 0) = false := bne_eq_false_iff_eq.mpr hp
  clear hp
  go_enter Tryd.func20, Tryd.ntmps20
  go_wp2_with (first | (go_at_call 31; (with_reducible refine (TR.out _ _ _ (Kd.R_reads' R1.out).2.2 (Kd.R_reads' R1.out).2.1).mono ?_); rintro e w2 ⟨rfl, hb2⟩; have B2 := Aside0.mk (below_step B1.out hb2); clear hb2) | (go_at_call 26; with_reducible refine HRD.out.mono ?_; rintro e w1 ⟨v, rfl, hr, hb⟩; have R1 := Aside0.mk hr; obtain ⟨A1, c1, rfl⟩ := Kd.R_slice hr; have B1 := Aside0.mk hb; clear hr hb))
  go_quiet (fail)
  go_wp2
  go_ret3
  exact ⟨rfl, (pw_below_drewN (B2.out.alloc B2.out.size _) _)⟩
theorem Tk.calls (o : Own) (s : DS) (w : World) (h : Dk ok 49 w o s) (hB : s.AllB) (i : Nat) (l : List Int) (hl : s.now[i]? = some l) :
    Calls Tryd.prog 20 #[.pointer (some ⟨o.g, 0, none⟩), .int .i64 (i : Int)] w fun e w' => e = .returned (.tuple #[.int .i64 (peekF l).1, .int .i64 (peekF l).2.1, .bool (peekF l).2.2]) ∧ Below w.heap.size w w' := by
  unfold peekF
  by_cases hk : hOk l = true
  · by_cases hp : hW l 0 = 0
    · rw [if_pos ⟨hk, hp⟩]
      exact Tk_ok.calls o s w h hB i l hl hk hp
    · rw [if_neg (fun e => hp e.2)]
      exact Tk_part.calls o s w h hB i l hl hk hp
  · rw [if_neg (fun e => hk e.1)]
    exact Tk_no.calls o s w h hB i l hl (by cases h : hOk l with | true => exact absurd h hk | false => rfl)
end

end Go.Proofs.YtkiofhmpeokipaaDoor.PTA
