import Derived.Test.YtkiofhmpeokipaaTkB
import Derived.Test.YtkiofhmpeokipaaPTAx6
import Derived.Lib.SlBytesConst
namespace Go.Proofs.Ytkiofhmpeokipaa.PTA
open Go.RowKit Go.Proofs.YtkiofhmpeokipaaW.PrintWords Go.Proofs.YtkiofhmpeokipaaW.PrintLast Go.Proofs.YtkiofhmpeokipaaW.PrintMore
attribute [local go_sem] max2_int min2_int max_two min_two max_three min_three max_four min_four
set_option linter.unusedVariables false
set_option linter.unusedSimpArgs false
section
variable {ok ok2 : Nat → Prop}
set_option maxHeartbeats 8000000 in
set_option maxRecDepth 100000 in
theorem Tp_N.calls (a b : Int) (w : World) :
    Calls Try.prog 22 #[.pointer none, .int .i64 a, .int .i64 b] w fun e w' => ∃ v, e = .returned v ∧ FaultAt w' v 1 ∧ Below w.heap.size w w' := by
  go_enter Try.func22, Try.ntmps22
  go_wp2_with (go_in)
  go_ret
  exact ⟨_, rfl, ⟨_, _, rfl, blk_new _ _⟩, (Below.refl _ _).alloc (Nat.le_refl _) _⟩
set_option maxHeartbeats 8000000 in
set_option maxRecDepth 100000 in
theorem Tp_Ok.calls (o : Own) (s : DS) (w : World) (h : Dk ok 52 w o s) (a b : Int) (h0 : 0 ≤ a) (h1 : a ≤ b) (h2 : b ≤ (s.now.length : Int)) :
    Calls Try.prog 22 #[.pointer (some ⟨o.g, 0, none⟩), .int .i64 a, .int .i64 b] w fun e w' => e = .returned .nilIface ∧ w' = w := by
  have c1 : decide (a < 0) = false := decide_eq_false (by omega)
  have c2 : decide (b < a) = false := decide_eq_false (by omega)
  have c3 : decide ((s.now.length : Int) < b) = false := decide_eq_false (by omega)
  have HD := Aside0.mk h
  clear h h0 h1 h2
  go_enter Try.func22, Try.ntmps22
  go_wp2_with (first | (go_at_call 28; with_reducible refine (Dk_Len.calls o s _ HD.out).mono ?_; rintro e wc ⟨rfl, hw⟩; replace hw := hw.symm; subst hw))
  go_ret
  exact ⟨rfl, rfl⟩
set_option maxHeartbeats 8000000 in
set_option maxRecDepth 100000 in
theorem Tp_B1.calls (g : Nat) (a b : Int) (w : World) (h0 : a < 0) :
    Calls Try.prog 22 #[.pointer (some ⟨g, 0, none⟩), .int .i64 a, .int .i64 b] w fun e w' => ∃ v, e = .returned v ∧ FaultAt w' v 2 ∧ Below w.heap.size w w' := by
  have c1 : decide (a < 0) = true := decide_eq_true (by omega)
  clear h0
  go_enter Try.func22, Try.ntmps22
  go_wp2_with (go_in)
  go_ret
  exact ⟨_, rfl, ⟨_, _, rfl, blk_new _ _⟩, (Below.refl _ _).alloc (Nat.le_refl _) _⟩
set_option maxHeartbeats 8000000 in
set_option maxRecDepth 100000 in
theorem Tp_B2.calls (g : Nat) (a b : Int) (w : World) (h0 : 0 ≤ a) (h1 : b < a) :
    Calls Try.prog 22 #[.pointer (some ⟨g, 0, none⟩), .int .i64 a, .int .i64 b] w fun e w' => ∃ v, e = .returned v ∧ FaultAt w' v 2 ∧ Below w.heap.size w w' := by
  have c1 : decide (a < 0) = false := decide_eq_false (by omega)
  have c2 : decide (b < a) = true := decide_eq_true (by omega)
  clear h0 h1
  go_enter Try.func22, Try.ntmps22
  go_wp2_with (go_in)
  go_ret
  exact ⟨_, rfl, ⟨_, _, rfl, blk_new _ _⟩, (Below.refl _ _).alloc (Nat.le_refl _) _⟩
set_option maxHeartbeats 8000000 in
set_option maxRecDepth 100000 in
theorem Tp_B3.calls (o : Own) (s : DS) (w : World) (h : Dk ok 52 w o s) (a b : Int) (h0 : 0 ≤ a) (h1 : a ≤ b) (h2 : (s.now.length : Int) < b) :
    Calls Try.prog 22 #[.pointer (some ⟨o.g, 0, none⟩), .int .i64 a, .int .i64 b] w fun e w' => ∃ v, e = .returned v ∧ FaultAt w' v 2 ∧ Below w.heap.size w w' := by
  have c1 : decide (a < 0) = false := decide_eq_false (by omega)
  have c2 : decide (b < a) = false := decide_eq_false (by omega)
  have c3 : decide ((s.now.length : Int) < b) = true := decide_eq_true (by omega)
  have HD := Aside0.mk h
  clear h h0 h1 h2
  go_enter Try.func22, Try.ntmps22
  go_wp2_with (first | (go_at_call 28; with_reducible refine (Dk_Len.calls o s _ HD.out).mono ?_; rintro e wc ⟨rfl, hw⟩; replace hw := hw.symm; subst hw) | go_in)
  go_ret
  exact ⟨_, rfl, ⟨_, _, rfl, blk_new _ _⟩, (Below.refl _ _).alloc (Nat.le_refl _) _⟩
/-- Where there is no frame. -/
def OffP (s : DS) (a b : Int) : Prop := a < 0 ∨ b < a ∨ (s.now.length : Int) < b
theorem Tp_Bad.calls (o : Own) (s : DS) (w : World) (h : Dk ok 52 w o s) (a b : Int) (hb : OffP s a b) :
    Calls Try.prog 22 #[.pointer (some ⟨o.g, 0, none⟩), .int .i64 a, .int .i64 b] w fun e w' => ∃ v, e = .returned v ∧ FaultAt w' v 2 ∧ Below w.heap.size w w' := by
  by_cases h0 : a < 0
  · exact Tp_B1.calls o.g a b w h0
  · by_cases h1 : b < a
    · exact Tp_B2.calls o.g a b w (by omega) h1
    · exact Tp_B3.calls o s w h a b (by omega) (by omega) ((hb.resolve_left h0).resolve_left h1)
/-- All blocks are bytes. -/
def DS.AllB (s : DS) : Prop := ∀ l ∈ s.now, IsB l ∧ l.length = 512
theorem DS.AllB.at {s : DS} (h : s.AllB) {i : Nat} {l : List Int} (e : s.now[i]? = some l) : IsB l ∧ l.length = 512 := h l (List.mem_of_getElem? e)
/-- What is peeked at. -/
def peekF (l : List Int) : Int × Int × Bool := if hOk l = true ∧ hW l 0 = 0 then (hG l, hN l, true) else (0, 0, false)
set_option maxHeartbeats 8000000 in
set_option maxRecDepth 100000 in
theorem Tk_no.calls (o : Own) (s : DS) (w : World) (h : Dk ok 52 w o s) (hB : s.AllB) (i : Nat) (l : List Int) (hl : s.now[i]? = some l) (hk : hOk l = false) :
    Calls Try.prog 20 #[.pointer (some ⟨o.g, 0, none⟩), .int .i64 (i : Int)] w fun e w' => e = .returned (.tuple #[.int .i64 0, .int .i64 0, .bool false]) ∧ Below w.heap.size w w' := by
  have hi : i < s.now.length := (List.getElem?_eq_some_iff.mp hl).1
  obtain ⟨hIB, hL⟩ := hB.at hl
  have HRD := Aside0.mk (Dk_Read.calls o s w h i hi l hl (clone_f l (by omega)))
  have TR : Aside0 (∀ A c w', Kd.C (Kd.int .u8) w' A l.length l → l.length ≤ c → Calls Try.prog 29 #[.slice A l.length c] w' fun e w'' => e = .returned (.tuple #[.agg #[.int .i64 (hG l), .int .i64 (hN l), .int .i64 (hW l 0), .int .i64 (hW l 1), .int .i64 (hW l 2)], .bool false]) ∧ Below w'.heap.size w' w'') := ⟨fun A c w' h1 h2 => by have := Tr.calls A c l w' h1 h2 hL hIB; rw [hk] at this; exact this⟩
  clear h hB hl hk hIB hL hi
  go_enter Try.func20, Try.ntmps20
  go_wp2_with (first | (go_at_call 29; (with_reducible refine (TR.out _ _ _ (Kd.R_reads' R1.out).2.2 (Kd.R_reads' R1.out).2.1).mono ?_); rintro e w2 ⟨rfl, hb2⟩; have B2 := Aside0.mk (below_step B1.out hb2); clear hb2) | (go_at_call 10; with_reducible refine HRD.out.mono ?_; rintro e w1 ⟨v, rfl, hr, hb⟩; have R1 := Aside0.mk hr; obtain ⟨A1, c1, rfl⟩ := Kd.R_slice hr; have B1 := Aside0.mk hb; clear hr hb))
  go_ret3
  exact ⟨rfl, (B2.out.alloc B2.out.size _)⟩
set_option maxHeartbeats 8000000 in
set_option maxRecDepth 100000 in
theorem Tk_part.calls (o : Own) (s : DS) (w : World) (h : Dk ok 52 w o s) (hB : s.AllB) (i : Nat) (l : List Int) (hl : s.now[i]? = some l) (hk : hOk l = true) (hp : hW l 0 ≠ 0) :
    Calls Try.prog 20 #[.pointer (some ⟨o.g, 0, none⟩), .int .i64 (i : Int)] w fun e w' => e = .returned (.tuple #[.int .i64 0, .int .i64 0, .bool false]) ∧ Below w.heap.size w w' := by
  have hi : i < s.now.length := (List.getElem?_eq_some_iff.mp hl).1
  obtain ⟨hIB, hL⟩ := hB.at hl
  have HRD := Aside0.mk (Dk_Read.calls o s w h i hi l hl (clone_f l (by omega)))
  have TR : Aside0 (∀ A c w', Kd.C (Kd.int .u8) w' A l.length l → l.length ≤ c → Calls Try.prog 29 #[.slice A l.length c] w' fun e w'' => e = .returned (.tuple #[.agg #[.int .i64 (hG l), .int .i64 (hN l), .int .i64 (hW l 0), .int .i64 (hW l 1), .int .i64 (hW l 2)], .bool true]) ∧ Below w'.heap.size w' w'') := ⟨fun A c w' h1 h2 => by have := Tr.calls A c l w' h1 h2 hL hIB; rw [hk] at this; exact this⟩
  clear h hB hl hk hIB hL hi
  have p1 : (hW l 0 != 0) = true := bne_iff_ne.mpr hp
  clear hp
  go_enter Try.func20, Try.ntmps20
  go_wp2_with (first | (go_at_call 29; (with_reducible refine (TR.out _ _ _ (Kd.R_reads' R1.out).2.2 (Kd.R_reads' R1.out).2.1).mono ?_); rintro e w2 ⟨rfl, hb2⟩; have B2 := Aside0.mk (below_step B1.out hb2); clear hb2) | (go_at_call 10; with_reducible refine HRD.out.mono ?_; rintro e w1 ⟨v, rfl, hr, hb⟩; have R1 := Aside0.mk hr; obtain ⟨A1, c1, rfl⟩ := Kd.R_slice hr; have B1 := Aside0.mk hb; clear hr hb))
  go_ret3
  exact ⟨rfl, (B2.out.alloc B2.out.size _)⟩
set_option maxHeartbeats 8000000 in
set_option maxRecDepth 100000 in
theorem Tk_ok.calls (o : Own) (s : DS) (w : World) (h : Dk ok 52 w o s) (hB : s.AllB) (i : Nat) (l : List Int) (hl : s.now[i]? = some l) (hk : hOk l = true) (hp : hW l 0 = 0) :
    Calls Try.prog 20 #[.pointer (some ⟨o.g, 0, none⟩), .int .i64 (i : Int)] w fun e w' => e = .returned (.tuple #[.int .i64 (hG l), .int .i64 (hN l), .bool true]) ∧ Below w.heap.size w w' := by
  have hi : i < s.now.length := (List.getElem?_eq_some_iff.mp hl).1
  obtain ⟨hIB, hL⟩ := hB.at hl
  have HRD := Aside0.mk (Dk_Read.calls o s w h i hi l hl (clone_f l (by omega)))
  have TR : Aside0 (∀ A c w', Kd.C (Kd.int .u8) w' A l.length l → l.length ≤ c → Calls Try.prog 29 #[.slice A l.length c] w' fun e w'' => e = .returned (.tuple #[.agg #[.int .i64 (hG l), .int .i64 (hN l), .int .i64 (hW l 0), .int .i64 (hW l 1), .int .i64 (hW l 2)], .bool true]) ∧ Below w'.heap.size w' w'') := ⟨fun A c w' h1 h2 => by have := Tr.calls A c l w' h1 h2 hL hIB; rw [hk] at this; exact this⟩
  clear h hB hl hk hIB hL hi
  have p1 : (hW l 0 != 0) = false := bne_eq_false_iff_eq.mpr hp
  clear hp
  go_enter Try.func20, Try.ntmps20
  go_wp2_with (first | (go_at_call 29; (with_reducible refine (TR.out _ _ _ (Kd.R_reads' R1.out).2.2 (Kd.R_reads' R1.out).2.1).mono ?_); rintro e w2 ⟨rfl, hb2⟩; have B2 := Aside0.mk (below_step B1.out hb2); clear hb2) | (go_at_call 10; with_reducible refine HRD.out.mono ?_; rintro e w1 ⟨v, rfl, hr, hb⟩; have R1 := Aside0.mk hr; obtain ⟨A1, c1, rfl⟩ := Kd.R_slice hr; have B1 := Aside0.mk hb; clear hr hb))
  go_quiet (fail)
  go_wp2
  go_ret3
  exact ⟨rfl, (pw_below_drewN (B2.out.alloc B2.out.size _) _)⟩
theorem Tk.calls (o : Own) (s : DS) (w : World) (h : Dk ok 52 w o s) (hB : s.AllB) (i : Nat) (l : List Int) (hl : s.now[i]? = some l) :
    Calls Try.prog 20 #[.pointer (some ⟨o.g, 0, none⟩), .int .i64 (i : Int)] w fun e w' => e = .returned (.tuple #[.int .i64 (peekF l).1, .int .i64 (peekF l).2.1, .bool (peekF l).2.2]) ∧ Below w.heap.size w w' := by
  unfold peekF
  by_cases hk : hOk l = true
  · by_cases hp : hW l 0 = 0
    · rw [if_pos ⟨hk, hp⟩]
      exact Tk_ok.calls o s w h hB i l hl hk hp
    · rw [if_neg (fun e => hp e.2)]
      exact Tk_part.calls o s w h hB i l hl hk hp
  · rw [if_neg (fun e => hk e.1)]
    exact Tk_no.calls o s w h hB i l hl (by cases h : hOk l with | true => exact absurd h hk | false => rfl)
end
section
variable {ok ok2 : Nat → Prop}
/-- How many parts so many bytes have. -/
def prts (n : Nat) : Nat := max ((n + 487) / 488) 1
theorem parts_f (n : Nat) (h : n ≤ 1048576) : tail_Parts.f (n : Int) = some (prts n : Int) := by
  unfold tail_Parts.f prts
  have e1 : wrap64 (wrap64 ((n : Int) + 488) - 1) = ((n + 487 : Nat) : Int) := by rw [w64' (n := (n : Int) + 488) (by omega) (by omega), w64' (by omega) (by omega)]; omega
  have e2 : Int.tdiv ((n + 487 : Nat) : Int) 488 = (((n + 487) / 488 : Nat) : Int) := by rw [Int.tdiv_eq_ediv_of_nonneg (by omega)]; omega
  rw [if_neg (by omega), if_neg (by omega), e1, e2, w64' (by omega) (by omega)]
  congr 1
  unfold mx
  omega
theorem prts_pos (n : Nat) : 1 ≤ prts n := by unfold prts; omega
theorem prts_le (n : Nat) (h : n ≤ 3000) : prts n ≤ 7 := by unfold prts; omega
/-- One part of a frame. -/
def partL (l : List Int) (j : Nat) : List Int := (l.take (min l.length (488 * (j + 1)))).drop (488 * j)
theorem partL_len (l : List Int) (j : Nat) : (partL l j).length = min l.length (488 * (j + 1)) - 488 * j := by unfold partL; rw [List.length_drop, List.length_take]; omega
theorem partL_le (l : List Int) (j : Nat) : (partL l j).length ≤ 488 := by rw [partL_len]; omega
theorem partL_B {l : List Int} (h : IsB l) (j : Nat) : IsB (partL l j) := (h.take _).drop _
theorem blkL_B {g n i m : Int} {p : List Int} (h : IsB p) : IsB (blkL g n i m p) := by
  unfold blkL
  refine IsB.append (IsB.append (IsB.append (IsB.append (IsB.append (IsB.append (IsB.append (beN_B _ _) (beN_B _ _)) (beN_B _ _)) (beN_B _ _)) (beN_B _ _)) (beN_B _ _)) h) ?_
  intro x hx
  rw [List.eq_of_mem_replicate hx]
  decide
/-- The disk when so many blocks of a frame are written. -/
def DS.lay (s : DS) (a : Nat) (g k : Int) (m : Nat) (l : List Int) : Nat → DS
  | 0 => s
  | j + 1 => ((s.lay a g k m l j).write ((a + j : Nat) : Int) (blkL g k (j : Int) (m : Int) (partL l j))).1
theorem DS.lay_len (s : DS) (a : Nat) (g k : Int) (m : Nat) (l : List Int) : ∀ j, (s.lay a g k m l j).now.length = s.now.length
  | 0 => rfl
  | j + 1 => by rw [DS.lay, DS.write_len]; exact s.lay_len a g k m l j
theorem DS.write_AllB {s : DS} (h : s.AllB) (i : Int) {l : List Int} (hl : IsB l) : (s.write i l).1.AllB := by
  unfold DS.write
  split
  · exact h
  · split
    · exact h
    · rename_i h2
      intro x hx
      rcases List.mem_or_eq_of_mem_set hx with hx | rfl
      · exact h x hx
      · exact ⟨hl, by omega⟩
theorem DS.lay_AllB {s : DS} (h : s.AllB) (a : Nat) (g k : Int) (m : Nat) {l : List Int} (hl : IsB l) : ∀ j, (s.lay a g k m l j).AllB
  | 0 => h
  | j + 1 => by rw [DS.lay]; exact DS.write_AllB (DS.lay_AllB h a g k m hl j) _ (blkL_B (partL_B hl j))
theorem Keeps.cellS {S : Nat → Prop} {w w' : World} (hk : Keeps S w w') {p : Addr} {v : Value} (h : w.cell? p = some v) (hn : ¬ S p.block) : w'.cell? p = some v := by
  rw [← h]; unfold World.cell?; rw [hk.far _ (World.block_lt_of_cell? w _ h) hn]
/-- A row that lies elsewhere stays. -/
theorem Keeps.row {S : Nat → Prop} {w w' : World} (hk : Keeps S w w') {A : Option Addr} {l : List Int} (hC : Kd.C (Kd.int .u8) w A l.length l) (hA : ∀ ad, A = some ad → l ≠ [] → ¬ S ad.block) : Kd.C (Kd.int .u8) w' A l.length l := by
  obtain ⟨h1, h2, h3⟩ := Kd.reads_of_C (d := (0 : Int)) hC
  refine Kd.C_of_reads (d := (0 : Int)) ⟨h1, h2, fun hn => ?_⟩
  obtain ⟨ad, e, hc⟩ := h3 hn
  refine ⟨ad, e, fun j hj => ?_⟩
  refine hk.cellS (hc j hj) ?_
  have hbl : (ad.add j).block = ad.block := by unfold Addr.add; split <;> rfl
  rw [hbl]
  exact hA ad e (List.length_pos_iff.mp hn)
/-- One part, cut out. -/
theorem cutP (A : Option Addr) (c : Nat) (l : List Int) (j : Nat) (hi : Int) (hc : l.length ≤ c) (h0 : 488 * j ≤ l.length) (hh : hi = ((min l.length (488 * (j + 1)) : Nat) : Int)) :
    ∃ A' c', (∀ W : World, (Instr.slice 27 (.slice A l.length c) (some (.int .i64 ((j : Int) * 488))) (some (.int .i64 hi)) none).run Try.prog W = .ok (.slice A' (partL l j).length c') W) ∧ (∀ w, Kd.C (Kd.int .u8) w A l.length l → Kd.C (Kd.int .u8) w A' (partL l j).length (partL l j)) ∧ (partL l j).length ≤ c' := by
  subst hh
  obtain ⟨i0, hi0, _, hsz, _⟩ := info_parts info5
  obtain ⟨A', h1, h2, h3⟩ := print_mid_of (P := Try.prog) (Value.int .u8) 0 27 5 .i64 .i64 Try.underlying27 hi0 hsz A c l ((j : Int) * 488) ((min l.length (488 * (j + 1)) : Nat) : Int) (by omega) (by omega) (by omega) hc
  have e : (l.take ((min l.length (488 * (j + 1)) : Nat) : Int).toNat).drop ((j : Int) * 488).toNat = partL l j := by
    unfold partL
    rw [Int.toNat_natCast, show ((j : Int) * 488).toNat = 488 * j by omega]
  rw [e] at h1 h2 h3
  exact ⟨A', _, h1, fun w hw => Kd.C_of_reads (h1 := fun _ => rfl) (h2 w (Kd.reads_of_C hw)), h3⟩
set_option maxHeartbeats 8000000 in
set_option maxRecDepth 100000 in
theorem Tw_Ok.calls (o : Own) (s : DS) (w : World) (h : Dk (fun _ => True) 52 w o s) (a b : Nat) (g k : Int) (A : Option Addr) (c : Nat) (l : List Int) (hC : Kd.C (Kd.int .u8) w A l.length l) (hc : l.length ≤ c) (hl : l.length ≤ 3000) (hA : ∀ ad, A = some ad → l ≠ [] → ¬ o.has ad.block) (h1 : a + prts l.length ≤ b) (h2 : b ≤ s.now.length) (hg : 1 ≤ g) (hk : 1 ≤ k) :
    Calls Try.prog 8 #[.pointer (some ⟨o.g, 0, none⟩), .int .i64 (a : Int), .int .i64 (b : Int), .int .i64 g, .int .i64 k, .slice A l.length c] w fun e w' => e = .returned (.tuple #[.int .i64 ((a + prts l.length : Nat) : Int), .nilIface]) ∧ Dk (fun _ => True) 52 w' o (s.lay a g k (prts l.length) l (prts l.length)) ∧ Keeps o.has w w' := by
  have hn1 := h.n1
  have hp := prts_pos l.length
  have hq := prts_le l.length hl
  have HPF := Aside0.mk (parts_f l.length (by omega))
  have hOK := Aside0.mk (Tp_Ok.calls o s w h (a : Int) (b : Int) (by omega) (by omega) (by omega))
  generalize hm : prts l.length = m at *
  have hs2 : s.now.length ≤ 256 := hn1
  have d1 : decide (g < 1) = false := decide_eq_false (by omega)
  have d2 : decide (k < 1) = false := decide_eq_false (by omega)
  have d3 : ((m : Int) == 0) = false := by rw [beq_eq_false_iff_ne]; omega
  have d4 : decide ((b : Int) - (a : Int) < (m : Int)) = false := decide_eq_false (by omega)
  have d5 : b ≤ 256 := by omega
  have d6 : a ≤ 256 := by omega
  have HM : Aside0 (m = prts l.length) := ⟨hm.symm⟩
  have HC := Aside0.mk hC
  have Hc := Aside0.mk hc
  have HD := Aside0.mk h
  have HA := Aside0.mk hA
  have H12 := Aside0.mk (And.intro h1 h2)
  clear h hC hc hA h1 h2 hn1 hs2 hm
  go_enter Try.func8, Try.ntmps8
  go_wp2_with (first | (go_at_call 17; with_reducible refine (tail_Parts.calls _ _ _ HPF.out).mono ?_; rintro e w1 ⟨rfl, hb1⟩; have B1 := Aside0.mk hb1; clear hb1) | (go_at_call 22; with_reducible refine hOK.out.mono ?_; rintro e wc ⟨rfl, hw⟩; replace hw := hw.symm; subst hw))
  go_loopg [47] m (fun kq v47 w' => ∃ (j : Nat), v47 = .int .i64 (j : Int) ∧ Aside0 (j + kq = m) ∧ Aside0 (Dk (fun _ => True) 52 w' o (s.lay a g k m l j)) ∧ Aside0 (Keeps o.has w w'))
  case atStart => exact ⟨0, (by first | rfl | (simp; done)), ⟨by omega⟩, ⟨HD.out.below B1.out⟩, ⟨Keeps.of_below B1.out⟩⟩
  case round =>
    obtain ⟨j, rfl, HJ, D0, K0⟩ := hrel
    by_cases cj : j < m
    · have c1 : decide ((j : Int) < (m : Int)) = true := decide_eq_true (by omega)
      have c1' : decide (j < m) = true := decide_eq_true (by omega)
      cases gk with
      | zero => have := HJ.out; omega
      | succ k1 =>
        have HL0 : Aside0 ((s.lay a g k m l j).now.length = s.now.length) := ⟨s.lay_len a g k m l j⟩
        have h488 : 488 * j ≤ l.length := by have := HM.out; unfold prts at this; omega
        have HROW := Aside0.mk (K0.out.row HC.out HA.out)
        obtain ⟨hi, hhi⟩ : ∃ hi : Int, hi = ((min l.length (488 * (j + 1)) : Nat) : Int) := ⟨_, rfl⟩
        obtain ⟨A', c', hcut, hrow, hlen⟩ := cutP A c l j hi Hc.out h488 hhi
        have HP := Aside0.mk (partL_le l j)
        have HLAY : Aside0 (tail_head_lay.f 100 g k (j : Int) (m : Int) ((partL l j).length : Int) (partL l j) = some (blkL g k (j : Int) (m : Int) (partL l j))) := ⟨lay_f g k j m _ (partL l j) rfl HP.out⟩
        have HR' := Aside0.mk (hrow wr HROW.out)
        have HL' := Aside0.mk hlen
        have HBL := Aside0.mk (blkL_len g k (j : Int) (m : Int) (partL l j) HP.out)
        have HWR : Aside0 ((s.lay a g k m l (j + 1)) = ⟨(s.lay a g k m l j).now.set (a + j) (blkL g k (j : Int) (m : Int) (partL l j)), (s.lay a g k m l j).firm, (s.lay a g k m l j).dirty.set (a + j) true⟩) := ⟨by
          rw [DS.lay, DS.write, if_neg (by have := HL0.out; have := H12.out; omega), if_neg (by rw [HBL.out]; omega), Int.toNat_natCast]⟩
        have HAJ : Aside0 (a + j < (s.lay a g k m l j).now.length) := ⟨by have := HL0.out; have := H12.out; omega⟩
        generalize hs2 : s.lay a g k m l (j + 1) = s2 at *
        have HS2 := Aside0.mk hs2
        clear hs2
        generalize s.lay a g k m l j = s1 at *
        generalize hP : partL l j = P at *
        generalize hB : blkL g k (j : Int) (m : Int) P = BL at *
        clear hP hB hrow hlen
        have WRT : Aside0 (∀ w' A2 c2, Dk (fun _ => True) 52 w' o s1 → Kd.C (Kd.int .u8) w' A2 BL.length BL → BL.length ≤ c2 → Calls Try.prog 11 #[.pointer (some ⟨o.g, 0, none⟩), .int .i64 ((a : Int) + (j : Int)), .slice A2 BL.length c2] w' fun e w'' => e = .returned .nilIface ∧ Dk (fun _ => True) 52 w'' o s2 ∧ Keeps o.has w' w'') := ⟨fun w' A2 c2 h1 h2 h3 => by
          have := Dk_WriteOk.calls o s1 w' h1 A2 c2 BL h2 h3 HBL.out (clone_f BL (by rw [HBL.out]; omega)) (a + j) HAJ.out (fun _ _ => trivial)
          rw [HWR.out]
          rw [show ((a + j : Nat) : Int) = (a : Int) + (j : Int) by omega] at this
          exact this⟩
        have HHI := Aside0.mk hhi
        clear hhi h488
        by_cases cl : (l.length : Int) ≤ ((j : Int) + 1) * 488
        case' pos => obtain rfl : hi = (l.length : Int) := by have := HHI.out; omega
        case' neg => obtain rfl : hi = ((j : Int) + 1) * 488 := by have := HHI.out; omega
        all_goals
          go_wp2_with (first | (go_at_call 11; with_reducible refine (WRT.out _ _ _ D1.out (Kd.R_reads' R1.out).2.2 (Kd.R_reads' R1.out).2.1).mono ?_; rintro e w2 ⟨rfl, hd2, hk2⟩; have D2 := Aside0.mk hd2; have K2 := Aside0.mk (K1.out.trans hk2); clear hd2 hk2) | (go_at_call 24; with_reducible refine (tail_head_lay.calls 100 g k (j : Int) (m : Int) (P.length : Int) A' c' P BL _ HR'.out HL'.out HLAY.out).mono ?_; rintro e w1b ⟨v1, rfl, hr1, hb1⟩; have R1 := Aside0.mk hr1; obtain ⟨A2, c2, rfl⟩ := Kd.R_slice hr1; have D1 := Aside0.mk (D0.out.below hb1); have K1 := Aside0.mk (K0.out.trans (Keeps.of_below hb1)); clear hr1 hb1))
          go_roundg k1
          case measure => omega
          case rel => exact ⟨j + 1, (by
            have hw : wrap64 ((j : Int) + 1) = ((j + 1 : Nat) : Int) := by unfold wrap64; omega
            first | rfl | (rw [← hw]; rfl) | (simp [*]; done)), ⟨by have := HJ.out; omega⟩, ⟨by rw [HS2.out]; exact D2.out⟩, K2⟩
    · have c1 : decide ((j : Int) < (m : Int)) = false := decide_eq_false (by omega)
      have c1' : decide (j < m) = false := decide_eq_false (by omega)
      obtain rfl : j = m := by have := HJ.out; omega
      go_wp2
      go_ret2
      exact ⟨by first | rfl | (simp; done), D0.out, K0.out⟩
end
section
variable {ok ok2 : Nat → Prop}
set_option maxHeartbeats 8000000 in
set_option maxRecDepth 100000 in
theorem Tw_N.calls (a b g k : Int) (A : Option Addr) (n c : Nat) (w : World) :
    Calls Try.prog 8 #[.pointer none, .int .i64 a, .int .i64 b, .int .i64 g, .int .i64 k, .slice A n c] w fun e w' => ∃ v, e = .returned (.tuple #[.int .i64 0, v]) ∧ FaultAt w' v 1 ∧ Below w.heap.size w w' := by
  have HA := Aside0.mk (Tp_N.calls a b w)
  go_enter Try.func8, Try.ntmps8
  go_wp2_with (first | (go_at_call 22; refine HA.out.mono ?_; rintro e w2 ⟨v, rfl, hv, hb⟩; have HV := Aside0.mk hv; obtain ⟨gf, cs, rfl, hv⟩ := hv))
  go_ret2
  exact ⟨_, rfl, HV.out, hb⟩
set_option maxHeartbeats 8000000 in
set_option maxRecDepth 100000 in
theorem Tw_Bad.calls (o : Own) (s : DS) (a b g k : Int) (A : Option Addr) (n c : Nat) (w : World) (h : Dk ok 52 w o s) (hb : OffP s a b) :
    Calls Try.prog 8 #[.pointer (some ⟨o.g, 0, none⟩), .int .i64 a, .int .i64 b, .int .i64 g, .int .i64 k, .slice A n c] w fun e w' => ∃ v, e = .returned (.tuple #[.int .i64 0, v]) ∧ FaultAt w' v 2 ∧ Below w.heap.size w w' := by
  have HA := Aside0.mk (Tp_Bad.calls o s w h a b hb)
  clear h hb
  go_enter Try.func8, Try.ntmps8
  go_wp2_with (first | (go_at_call 22; refine HA.out.mono ?_; rintro e w2 ⟨v, rfl, hv, hb⟩; have HV := Aside0.mk hv; obtain ⟨gf, cs, rfl, hv⟩ := hv))
  go_ret2
  exact ⟨_, rfl, HV.out, hb⟩
set_option maxHeartbeats 8000000 in
set_option maxRecDepth 100000 in
theorem Tw_g.calls (o : Own) (s : DS) (a b g k : Int) (A : Option Addr) (n c : Nat) (w : World) (h : Dk ok 52 w o s) (hb : ¬ OffP s a b) (hg : g < 1) :
    Calls Try.prog 8 #[.pointer (some ⟨o.g, 0, none⟩), .int .i64 a, .int .i64 b, .int .i64 g, .int .i64 k, .slice A n c] w fun e w' => ∃ v, e = .returned (.tuple #[.int .i64 0, v]) ∧ FaultAt w' v 2 ∧ Below w.heap.size w w' := by
  have hOK := Aside0.mk (Tp_Ok.calls o s w h a b (by unfold OffP at hb; omega) (by unfold OffP at hb; omega) (by unfold OffP at hb; omega))
  clear h hb
  have d1 : decide (g < 1) = true := decide_eq_true hg
  clear hg
  go_enter Try.func8, Try.ntmps8
  go_wp2_with (first | (go_at_call 22; with_reducible refine hOK.out.mono ?_; rintro e wc ⟨rfl, hw⟩; replace hw := hw.symm; subst hw) | go_in)
  go_ret2
  exact ⟨_, rfl, ⟨_, _, rfl, blk_new _ _⟩, (Below.refl _ _).alloc (Nat.le_refl _) _⟩
set_option maxHeartbeats 8000000 in
set_option maxRecDepth 100000 in
theorem Tw_k.calls (o : Own) (s : DS) (a b g k : Int) (A : Option Addr) (n c : Nat) (w : World) (h : Dk ok 52 w o s) (hb : ¬ OffP s a b) (hg : 1 ≤ g) (hk : k < 1) :
    Calls Try.prog 8 #[.pointer (some ⟨o.g, 0, none⟩), .int .i64 a, .int .i64 b, .int .i64 g, .int .i64 k, .slice A n c] w fun e w' => ∃ v, e = .returned (.tuple #[.int .i64 0, v]) ∧ FaultAt w' v 2 ∧ Below w.heap.size w w' := by
  have hOK := Aside0.mk (Tp_Ok.calls o s w h a b (by unfold OffP at hb; omega) (by unfold OffP at hb; omega) (by unfold OffP at hb; omega))
  clear h hb
  have d1 : decide (g < 1) = false := decide_eq_false (by omega)
  have d2 : decide (k < 1) = true := decide_eq_true hk
  clear hg hk
  go_enter Try.func8, Try.ntmps8
  go_wp2_with (first | (go_at_call 22; with_reducible refine hOK.out.mono ?_; rintro e wc ⟨rfl, hw⟩; replace hw := hw.symm; subst hw) | go_in)
  go_ret2
  exact ⟨_, rfl, ⟨_, _, rfl, blk_new _ _⟩, (Below.refl _ _).alloc (Nat.le_refl _) _⟩
set_option maxHeartbeats 8000000 in
set_option maxRecDepth 100000 in
theorem Tw_full.calls (o : Own) (s : DS) (a b g k : Int) (A : Option Addr) (n c : Nat) (w : World) (h : Dk ok 52 w o s) (hb : ¬ OffP s a b) (hg : 1 ≤ g) (hk : 1 ≤ k) (hn : n ≤ 3000) (hf : b - a < (prts n : Int)) :
    Calls Try.prog 8 #[.pointer (some ⟨o.g, 0, none⟩), .int .i64 a, .int .i64 b, .int .i64 g, .int .i64 k, .slice A n c] w fun e w' => ∃ v, e = .returned (.tuple #[.int .i64 0, v]) ∧ FaultAt w' v 12 ∧ Below w.heap.size w w' := by
  have hn1 := h.n1
  have hba : 0 ≤ a ∧ a ≤ b ∧ b ≤ 256 := by unfold OffP at hb; omega
  have hp := prts_pos n
  have HPF := Aside0.mk (parts_f n (by omega))
  have hOK := Aside0.mk (Tp_Ok.calls o s w h a b (by unfold OffP at hb; omega) (by unfold OffP at hb; omega) (by unfold OffP at hb; omega))
  clear h hb
  have d1 : decide (g < 1) = false := decide_eq_false (by omega)
  have d2 : decide (k < 1) = false := decide_eq_false (by omega)
  have d3 : ((prts n : Int) == 0) = false := by rw [beq_eq_false_iff_ne]; omega
  have d4 : decide (b - a < (prts n : Int)) = true := decide_eq_true hf
  generalize prts n = m at *
  obtain ⟨q1, q2, q3⟩ := hba
  clear hg hk hf hn1
  go_enter Try.func8, Try.ntmps8
  go_wp2_with (first | (go_at_call 22; with_reducible refine hOK.out.mono ?_; rintro e wc ⟨rfl, hw⟩; replace hw := hw.symm; subst hw) | (go_at_call 17; with_reducible refine (tail_Parts.calls _ _ _ HPF.out).mono ?_; rintro e w1 ⟨rfl, hb1⟩; have B1 := Aside0.mk hb1; clear hb1) | go_in)
  go_ret2
  exact ⟨_, rfl, ⟨_, _, rfl, blk_new _ _⟩, (B1.out.alloc B1.out.size _)⟩
/-- The number of the error. -/
def wrC (s : DS) (a b g k : Int) (n : Nat) : Int := if (a < 0 ∨ b < a ∨ (s.now.length : Int) < b) ∨ g < 1 ∨ k < 1 then 2 else if b - a < (prts n : Int) then 12 else 0
/-- What a call that writes a frame makes. -/
structure Wrote (s : DS) (o : Own) (a b g k : Int) (l : List Int) (w w' : World) (n : Int) (v : Value) : Prop where
  err : ErrV w' v (wrC s a b g k l.length)
  keep : Keeps o.has w w'
  good : wrC s a b g k l.length = 0 → n = a + (prts l.length : Int) ∧ Dk (fun _ => True) 52 w' o (s.lay a.toNat g k (prts l.length) l (prts l.length))
  bad : wrC s a b g k l.length ≠ 0 → n = 0 ∧ Dk (fun _ => True) 52 w' o s
theorem Tw.calls (o : Own) (s : DS) (w : World) (h : Dk (fun _ => True) 52 w o s) (a b g k : Int) (A : Option Addr) (c : Nat) (l : List Int) (hC : Kd.C (Kd.int .u8) w A l.length l) (hc : l.length ≤ c) (hl : l.length ≤ 3000) (hA : ∀ ad, A = some ad → l ≠ [] → ¬ o.has ad.block) :
    Calls Try.prog 8 #[.pointer (some ⟨o.g, 0, none⟩), .int .i64 a, .int .i64 b, .int .i64 g, .int .i64 k, .slice A l.length c] w fun e w' => ∃ n v, e = .returned (.tuple #[.int .i64 n, v]) ∧ Wrote s o a b g k l w w' n v := by
  have bad : ∀ (code : Int), code ≠ 0 → wrC s a b g k l.length = code → ∀ (e : Ending) (w' : World), (∃ v, e = .returned (.tuple #[.int .i64 0, v]) ∧ FaultAt w' v code ∧ Below w.heap.size w w') → ∃ n v, e = .returned (.tuple #[.int .i64 n, v]) ∧ Wrote s o a b g k l w w' n v := by
    rintro code hc0 hcode e w' ⟨v, e1, e2, e3⟩
    exact ⟨0, v, e1, by rw [hcode]; exact .inr ⟨hc0, e2⟩, Keeps.of_below e3, fun h0 => absurd (hcode.symm.trans h0) hc0, fun _ => ⟨rfl, h.below e3⟩⟩
  by_cases h1 : OffP s a b
  · exact (Tw_Bad.calls o s a b g k A l.length c w h h1).mono (bad 2 (by decide) (by unfold wrC; exact if_pos (.inl h1)))
  · by_cases h2 : g < 1
    · exact (Tw_g.calls o s a b g k A l.length c w h h1 h2).mono (bad 2 (by decide) (by unfold wrC; exact if_pos (.inr (.inl h2))))
    · by_cases h3 : k < 1
      · exact (Tw_k.calls o s a b g k A l.length c w h h1 (by omega) h3).mono (bad 2 (by decide) (by unfold wrC; exact if_pos (.inr (.inr h3))))
      · have e1 : wrC s a b g k l.length = if b - a < (prts l.length : Int) then 12 else 0 := by
          unfold wrC
          unfold OffP at h1
          exact if_neg (by omega)
        by_cases h4 : b - a < (prts l.length : Int)
        · exact (Tw_full.calls o s a b g k A l.length c w h h1 (by omega) (by omega) hl h4).mono (bad 12 (by decide) (by rw [e1, if_pos h4]))
        · have e2 : wrC s a b g k l.length = 0 := by rw [e1, if_neg h4]
          unfold OffP at h1
          obtain ⟨a, rfl⟩ := Int.eq_ofNat_of_zero_le (show 0 ≤ a by omega)
          obtain ⟨b, rfl⟩ := Int.eq_ofNat_of_zero_le (show 0 ≤ b by omega)
          refine (Tw_Ok.calls o s w h a b g k A c l hC hc hl hA (by omega) (by omega) (by omega) (by omega)).mono ?_
          rintro e w' ⟨q1, q2, q3⟩
          exact ⟨_, _, q1, by rw [e2]; exact .inl ⟨rfl, rfl⟩, q3, fun _ => ⟨by omega, by rw [Int.toNat_natCast]; exact q2⟩, fun h0 => absurd e2 h0⟩
def zeroL : List Int := List.replicate 512 0
theorem zeroL_len : zeroL.length = 512 := List.length_replicate
theorem zeroL_B : IsB zeroL := fun x hx => by rw [List.eq_of_mem_replicate hx]; decide
end
section
variable {ok ok2 : Nat → Prop}
def nz (x : Int) : Bool := x != 0
set_option maxHeartbeats 8000000 in
set_option maxRecDepth 100000 in
theorem nz_idx.calls (A : Option Addr) (c : Nat) (l : List Int) (w : World) (hr : Kd.C (Kd.int .u8) w A l.length l) (hc : l.length ≤ c) (hl : l.length < 9223372036854775807) :
    Calls Try.prog 37 #[.slice A l.length c, .func (.func 31) #[] #[]] w fun e w' => (∃ i : Int, e = .returned (.int .i64 i) ∧ (decide (i ≥ 0) = l.any nz)) ∧ Below w.heap.size w w' := by
  have HR := Aside0.mk hr
  have HL := Aside0.mk hl
  clear hr hl
  have HB := Aside0.mk (Below.refl w.heap.size w)
  go_enter Try.func37, Try.ntmps37
  go_wp2
  go_loopg [8] l.length (fun kq v8 w' => ∃ (j : Nat), v8 = .int .i64 (j : Int) ∧ Aside0 (j + kq = l.length) ∧ Aside0 ((l.take j).any nz = false) ∧ Aside0 (Below w.heap.size w w'))
  case atStart => exact ⟨0, (by first | rfl | (simp; done) | (simp [*]; done)), ⟨by omega⟩, ⟨by simp⟩, HB⟩
  case round =>
    obtain ⟨j, rfl, HJ, HA, HB⟩ := hrel
    by_cases c3 : (j : Int) < (l.length : Int)
    · have c3b0 : decide ((j : Int) < (l.length : Int)) = true := decide_eq_true c3
      have c4b0 : decide (0 ≤ (j : Int)) = true := decide_eq_true (by omega)
      obtain ⟨ad, e, hx⟩ := Kd.at_int HR.out (j : Int) (by omega) c3
      cases e
      replace hx := (HB.out.cell (World.block_lt_of_cell? w _ hx)).trans hx
      rw [Int.toNat_natCast] at hx
      have hjl : j < l.length := by omega
      have hrd : rd l (j : Int) = l[j] := rdI' l j hjl
      have htk : (l.take (j + 1)).any nz = ((l.take j).any nz || nz l[j]) := by
        rw [List.take_succ_eq_append_getElem hjl, List.any_append]; simp
      have h0 : (0 : Int) ≤ (j : Int) := by omega
      clear c3
      cases gk with
      | zero => have := HJ.out; omega
      | succ k1 =>
        cases hodd : nz l[j] with
        | true =>
          go_wp2_with (go_at_call 31; (with_reducible refine (tail_Read_1.calls l[j] (nz l[j]) _ rfl).mono ?_); rintro e w8 ⟨rfl, hb⟩; have HB2 := below_step HB.out hb.below; rw [hodd])
          go_ret
          exact ⟨⟨(j : Int), by first | rfl | (simp [*]; done), by
            have h2 : l[j] ∈ l := List.getElem_mem hjl
            rw [List.any_eq_true.mpr ⟨_, h2, hodd⟩]; simp⟩, HB2⟩
        | false =>
          go_wp2_with (go_at_call 31; (with_reducible refine (tail_Read_1.calls l[j] (nz l[j]) _ rfl).mono ?_); rintro e w8 ⟨rfl, hb⟩; have HB2 := below_step HB.out hb.below; rw [hodd])
          go_roundg k1
          case measure => omega
          case rel => exact ⟨j + 1, (by
            have hw : wrap64 ((j : Int) + 1) = ((j + 1 : Nat) : Int) := by have := HL.out; unfold wrap64; omega
            first | rfl | (rw [← hw]; rfl) | (simp [*]; done)), ⟨by have := HJ.out; omega⟩, ⟨by rw [htk, HA.out, hodd]; rfl⟩, ⟨HB2⟩⟩
    · have c3b0 : decide ((j : Int) < (l.length : Int)) = false := decide_eq_false c3
      have hall : l.any nz = false := by
        have h := HA.out
        rw [List.take_of_length_le (by omega)] at h
        exact h
      go_wp2
      go_ret
      exact ⟨⟨-1, by first | rfl | (simp [*]; done), by first | (rw [hall]; decide) | decide⟩, HB.out⟩
set_option maxHeartbeats 8000000 in
set_option maxRecDepth 100000 in
theorem nz_any.calls (A : Option Addr) (c : Nat) (l : List Int) (w : World) (hr : Kd.C (Kd.int .u8) w A l.length l) (hc : l.length ≤ c) (hl : l.length < 9223372036854775807) :
    Calls Try.prog 30 #[.slice A l.length c, .func (.func 31) #[] #[]] w fun e w' => e = .returned (.bool (l.any nz)) ∧ Below w.heap.size w w' := by
  go_enter Try.func30, Try.ntmps30
  go_wp2_with (go_at_call 37; (with_reducible refine (nz_idx.calls A c l _ hr hc hl).mono ?_); rintro e w8 ⟨⟨i, rfl, hi⟩, hb⟩)
  go_ret
  exact ⟨by first | rfl | (rw [← hi]; rfl) | (simp [*]; done), hb⟩
/-- Is this a frame's block? -/
def gdB (g k i n : Int) (b : List Int) : Bool := hOk b && (hG b == g) && (hN b == k) && (hW b 0 == i) && (hW b 1 == n) && !((b.drop (24 + (hW b 2).toNat)).any nz)
/-- What stands in it. -/
def payL (b : List Int) : List Int := (b.take (24 + (hW b 2).toNat)).drop 24
def RdOk (now : List (List Int)) (a b : Nat) (g k : Int) (n : Nat) : Prop := 1 ≤ n ∧ a + n ≤ b ∧ ∀ j : Nat, j < n → gdB g k (j : Int) (n : Int) (now.getD (a + j) []) = true
def outL (now : List (List Int)) (a : Nat) : Nat → List Int
  | 0 => []
  | j + 1 => outL now a j ++ payL (now.getD (a + j) [])
theorem payL_len (b : List Int) (hs : (hW b 2).toNat ≤ 488) (hb : b.length = 512) : (payL b).length = (hW b 2).toNat := by unfold payL; rw [List.length_drop, List.length_take]; omega
/-- What is read. -/
def RdIs (now : List (List Int)) (a b : Nat) (g k : Int) : Option (List Int) → Prop
  | some out => ∃ n, RdOk now a b g k n ∧ out = outL now a n
  | none => ∀ n, ¬ RdOk now a b g k n
def rdN (a : Nat) : Option (List Int) → Int
  | some out => (a : Int) + (prts out.length : Int)
  | none => 0
theorem hW_bd {b : List Int} (h : IsB b) (j : Nat) : 0 ≤ hW b j := (bv_lt _ ((h.take _).drop _)).1
theorem hOk_size {b : List Int} (h : hOk b = true) : hW b 2 ≤ 488 := by
  unfold hOk hOk5 hS at h
  simp only [Bool.and_eq_true, Bool.or_eq_true, decide_eq_true_eq, beq_iff_eq] at h
  omega
/-- What a round of the loop goes on from. -/
def RdI (now : List (List Int)) (a b : Nat) (g k : Int) (i : Nat) (n : Int) (out : List Int) : Prop :=
  (i = 0 ∧ n = 1 ∧ out = []) ∨ (0 < i ∧ a + i ≤ b ∧ (i : Int) ≤ n ∧ (∀ j : Nat, j < i → gdB g k (j : Int) n (now.getD (a + j) []) = true) ∧ out = outL now a i)
theorem gdB_n {g k i n : Int} {b : List Int} (h : gdB g k i n b = true) : hW b 1 = n := by
  unfold gdB at h
  simp only [Bool.and_eq_true, beq_iff_eq] at h
  omega
/-- Once it is off the frame's end there is none. -/
theorem RdI.off {now : List (List Int)} {a b : Nat} {g k : Int} {i : Nat} {n : Int} {out : List Int} (h : RdI now a b g k i n out) (hi : (i : Int) < n) (hb : b ≤ a + i) : RdIs now a b g k none := by
  rintro m ⟨m1, m2, m3⟩
  rcases h with ⟨rfl, rfl, rfl⟩ | ⟨h0, h1, h2, h3, _⟩
  · omega
  · have e1 := gdB_n (h3 0 h0)
    have e2 := gdB_n (m3 0 (by omega))
    omega
/-- A block that is none of the frame. -/
theorem RdI.odd {now : List (List Int)} {a b : Nat} {g k : Int} {i : Nat} {n n' : Int} {out : List Int} (h : RdI now a b g k i n out) (hi : (i : Int) < n) (hn : n' = if i = 0 then hW (now.getD (a + i) []) 1 else n) (hg : gdB g k (i : Int) n' (now.getD (a + i) []) = false) : RdIs now a b g k none := by
  rintro m ⟨m1, m2, m3⟩
  rcases h with ⟨rfl, rfl, rfl⟩ | ⟨h0, h1, h2, h3, _⟩
  · rw [if_pos rfl] at hn
    have := m3 0 (by omega)
    rw [hn, gdB_n this] at hg
    rw [hg] at this
    cases this
  · rw [if_neg (by omega)] at hn
    have e1 := gdB_n (h3 0 h0)
    have e2 := gdB_n (m3 0 (by omega))
    have := m3 i (by omega)
    rw [hn, ← e1, e2] at hg
    rw [hg] at this
    cases this
theorem RdI.next {now : List (List Int)} {a b : Nat} {g k : Int} {i : Nat} {n n' : Int} {out : List Int} (h : RdI now a b g k i n out) (hi : (i : Int) < n) (hb : a + i < b) (hn : n' = if i = 0 then hW (now.getD (a + i) []) 1 else n) (hg : gdB g k (i : Int) n' (now.getD (a + i) []) = true) (hp : (i : Int) < n') : RdI now a b g k (i + 1) n' (out ++ payL (now.getD (a + i) [])) := by
  refine .inr ⟨by omega, by omega, by omega, ?_, ?_⟩
  · intro j hj
    by_cases e : j = i
    · subst e; exact hg
    · rcases h with ⟨rfl, rfl, rfl⟩ | ⟨h0, h1, h2, h3, _⟩
      · omega
      · rw [if_neg (by omega)] at hn
        rw [hn]
        exact h3 j (by omega)
  · rcases h with ⟨rfl, rfl, rfl⟩ | ⟨h0, h1, h2, h3, h4⟩
    · rfl
    · rw [outL, h4]
theorem RdI.done {now : List (List Int)} {a b : Nat} {g k : Int} {i : Nat} {n : Int} {out : List Int} (h : RdI now a b g k i n out) (hi : ¬ (i : Int) < n) : RdIs now a b g k (some out) := by
  rcases h with ⟨rfl, rfl, rfl⟩ | ⟨h0, h1, h2, h3, h4⟩
  · exact absurd (by decide) hi
  · obtain rfl : n = (i : Int) := by omega
    exact ⟨i, ⟨h0, h1, h3⟩, h4⟩
theorem outL_le (now : List (List Int)) (a : Nat) (hB : ∀ l ∈ now, l.length ≤ 512) : ∀ i, (outL now a i).length ≤ 512 * i
  | 0 => by simp [outL]
  | i + 1 => by
    rw [outL, List.length_append]
    have ih := outL_le now a hB i
    have : (payL (now.getD (a + i) [])).length ≤ 512 := by
      unfold payL
      have : (now.getD (a + i) []).length ≤ 512 := by
        rw [List.getD_eq_getElem?_getD]
        cases e : now[a + i]? with
        | none => simp
        | some l => exact hB l (List.mem_of_getElem? e)
      rw [List.length_drop, List.length_take]
      omega
    omega
theorem RdI.le {now : List (List Int)} {a b : Nat} {g k : Int} {i : Nat} {n : Int} {out : List Int} (h : RdI now a b g k i n out) (hB : ∀ l ∈ now, l.length ≤ 512) (hb : b ≤ 256) : out.length ≤ 131072 := by
  rcases h with ⟨rfl, rfl, rfl⟩ | ⟨h0, h1, h2, h3, rfl⟩
  · simp
  · have := outL_le now a hB i
    omega
/-- The two cuts of a block. -/
theorem cutQ (A : Option Addr) (c : Nat) (l : List Int) (z : Int) (hc : l.length ≤ c) (h0 : 0 ≤ z) (hz : 24 + z ≤ (l.length : Int)) :
    ∃ A' c', (∀ W : World, (Instr.slice 27 (.slice A l.length c) (some (.int .i64 24)) (some (.int .i64 (24 + z))) none).run Try.prog W = .ok (.slice A' ((l.take (24 + z.toNat)).drop 24).length c') W) ∧ (∀ w, Kd.C (Kd.int .u8) w A l.length l → Kd.C (Kd.int .u8) w A' ((l.take (24 + z.toNat)).drop 24).length ((l.take (24 + z.toNat)).drop 24)) ∧ ((l.take (24 + z.toNat)).drop 24).length ≤ c' := by
  obtain ⟨i0, hi0, _, hsz, _⟩ := info_parts info5
  obtain ⟨A', h1, h2, h3⟩ := print_mid_of (P := Try.prog) (Value.int .u8) 0 27 5 .i64 .i64 Try.underlying27 hi0 hsz A c l 24 (24 + z) (by omega) (by omega) hz hc
  rw [show (24 + z).toNat = 24 + z.toNat by omega] at h1 h2 h3
  exact ⟨A', _, h1, fun w hw => Kd.C_of_reads (h1 := fun _ => rfl) (h2 w (Kd.reads_of_C hw)), h3⟩
theorem cutR (A : Option Addr) (c : Nat) (l : List Int) (z : Int) (hc : l.length ≤ c) (h0 : 0 ≤ z) (hz : 24 + z ≤ (l.length : Int)) :
    ∃ A' c', (∀ W : World, (Instr.slice 27 (.slice A l.length c) (some (.int .i64 (24 + z))) none none).run Try.prog W = .ok (.slice A' (l.drop (24 + z.toNat)).length c') W) ∧ (∀ w, Kd.C (Kd.int .u8) w A l.length l → Kd.C (Kd.int .u8) w A' (l.drop (24 + z.toNat)).length (l.drop (24 + z.toNat))) ∧ (l.drop (24 + z.toNat)).length ≤ c' := by
  obtain ⟨i0, hi0, _, hsz, _⟩ := info_parts info5
  obtain ⟨A', h1, h2, h3⟩ := print_drop_of (P := Try.prog) (Value.int .u8) 0 27 5 .i64 Try.underlying27 hi0 hsz A c l (24 + z) (by omega) hz hc
  rw [show (24 + z).toNat = 24 + z.toNat by omega] at h1 h2 h3
  exact ⟨A', _, h1, fun w hw => Kd.C_of_reads (h1 := fun _ => rfl) (h2 w (Kd.reads_of_C hw)), h3⟩
/-- The test of a block, limb by limb. -/
def gdL (o : Bool) (g xg k xn i p n m : Int) (y : Bool) : Bool := o && (xg == g) && (xn == k) && (p == i) && (m == n) && !y
theorem gdL_F (o : Bool) (g xg k xn i p n m : Int) (y : Bool) (h : (!o || (xg != g) || (xn != k) || (p != i) || (m != n) || y) = true) : gdL o g xg k xn i p n m y = false := by
  unfold gdL
  cases o <;> cases h1 : (xg == g) <;> cases h2 : (xn == k) <;> cases h3 : (p == i) <;> cases h4 : (m == n) <;> cases y <;> simp_all
set_option maxHeartbeats 8000000 in
set_option maxRecDepth 100000 in
theorem Td_off.calls (o : Own) (s : DS) (w : World) (h : Dk ok 52 w o s) (a b g k : Int) (hb : OffP s a b) :
    Calls Try.prog 14 #[.pointer (some ⟨o.g, 0, none⟩), .int .i64 a, .int .i64 b, .int .i64 g, .int .i64 k] w fun e w' => e = .returned (.tuple #[.slice none 0 0, .int .i64 0, .bool false]) ∧ Below w.heap.size w w' := by
  have HA := Aside0.mk (Tp_Bad.calls o s w h a b hb)
  clear h hb
  go_enter Try.func14, Try.ntmps14
  go_wp2_with (first | (go_at_call 22; refine HA.out.mono ?_; rintro e w2 ⟨v, rfl, hv, hb⟩; have HV := Aside0.mk hv; obtain ⟨gf, cs, rfl, hv⟩ := hv))
  go_ret3
  exact ⟨rfl, hb⟩
set_option maxHeartbeats 8000000 in
set_option maxRecDepth 100000 in
theorem Td_N.calls (a b g k : Int) (w : World) :
    Calls Try.prog 14 #[.pointer none, .int .i64 a, .int .i64 b, .int .i64 g, .int .i64 k] w fun e w' => e = .returned (.tuple #[.slice none 0 0, .int .i64 0, .bool false]) ∧ Below w.heap.size w w' := by
  have HA := Aside0.mk (Tp_N.calls a b w)
  go_enter Try.func14, Try.ntmps14
  go_wp2_with (first | (go_at_call 22; refine HA.out.mono ?_; rintro e w2 ⟨v, rfl, hv, hb⟩; have HV := Aside0.mk hv; obtain ⟨gf, cs, rfl, hv⟩ := hv))
  go_ret3
  exact ⟨rfl, hb⟩
set_option maxHeartbeats 8000000 in
set_option maxRecDepth 100000 in
theorem Td.calls (o : Own) (s : DS) (w : World) (h : Dk ok 52 w o s) (hB : s.AllB) (a b : Nat) (g k : Int) (h1 : a ≤ b) (h2 : b ≤ s.now.length) :
    Calls Try.prog 14 #[.pointer (some ⟨o.g, 0, none⟩), .int .i64 (a : Int), .int .i64 (b : Int), .int .i64 g, .int .i64 k] w fun e w' => ∃ v r, e = .returned (.tuple #[v, .int .i64 (rdN a r), .bool r.isSome]) ∧ Kd.R (Kd.int .u8) 5 w' w.heap.size (fun _ => True) v (r.getD []) ∧ Below w.heap.size w w' ∧ RdIs s.now a b g k r := by
  have hn1 := h.n1
  have hOK := Aside0.mk (Tp_Ok.calls o s w h (a : Int) (b : Int) (by omega) (by omega) (by omega))
  have hb5 : b ≤ 256 := by omega
  have ha5 : a ≤ 256 := by omega
  have HD := Aside0.mk h
  have HBS := Aside0.mk hB
  have H12 := Aside0.mk (And.intro h1 h2)
  clear h hB h1 h2 hn1
  go_enter Try.func14, Try.ntmps14
  go_wp2_with (first | (go_at_call 22; with_reducible refine hOK.out.mono ?_; rintro e wc ⟨rfl, hw⟩; replace hw := hw.symm; subst hw))
  go_loopg [13, 14, 15] (b - a + 1) (fun kq v13 v14 v15 w' => ∃ (i : Nat) (n : Int) (out : List Int), v14 = .int .i64 (i : Int) ∧ v15 = .int .i64 n ∧ Aside0 (i + kq = b - a + 1) ∧ Aside0 (RdI s.now a b g k i n out) ∧ Aside0 (Kd.R (Kd.int .u8) 5 w' w.heap.size (fun _ => True) v13 out) ∧ Aside0 (Below w.heap.size w w'))
  case atStart => exact ⟨0, 1, [], (by first | rfl | (simp; done)), (by first | rfl | (simp; done)), ⟨by omega⟩, ⟨.inl ⟨rfl, rfl, rfl⟩⟩, ⟨Kd.R_nil _ _ _ _ _⟩, ⟨Below.refl _ _⟩⟩
  case round =>
    obtain ⟨i, n, out, rfl, rfl, HJ, HI, HO, HB⟩ := hrel
    by_cases ci : (i : Int) < n
    · have d1 : decide ((i : Int) < n) = true := decide_eq_true ci
      have HCI := Aside0.mk ci
      cases gk with
      | zero =>
        have d2 : decide ((b : Int) ≤ (a : Int) + (i : Int)) = true := decide_eq_true (by have := HJ.out; omega)
        have hi5 : i ≤ 1000 := by have := HJ.out; omega
        clear ci
        go_wp2
        go_ret3
        exact ⟨_, none, rfl, Kd.R_nil _ _ _ _ _, HB.out, HI.out.off HCI.out (by have := HJ.out; omega)⟩
      | succ k1 =>
        have hi5 : i ≤ 256 := by have := HJ.out; omega
        by_cases cb : b ≤ a + i
        · have d2 : decide ((b : Int) ≤ (a : Int) + (i : Int)) = true := decide_eq_true (by omega)
          have HCB := Aside0.mk cb
          clear ci cb
          go_wp2
          go_ret3
          exact ⟨_, none, rfl, Kd.R_nil _ _ _ _ _, HB.out, HI.out.off HCI.out HCB.out⟩
        · have d2 : decide ((b : Int) ≤ (a : Int) + (i : Int)) = false := decide_eq_false (by omega)
          have HCB : Aside0 (a + i < b) := ⟨by omega⟩
          clear ci cb
          have hl0 : a + i < s.now.length := by have := H12.out; have := HCB.out; omega
          obtain ⟨l, hl⟩ : ∃ l, s.now[a + i]? = some l := ⟨_, List.getElem?_eq_getElem hl0⟩
          obtain ⟨hIB, hL⟩ := HBS.out.at hl
          have hgd : s.now.getD (a + i) [] = l := by rw [List.getD_eq_getElem?_getD, hl]; rfl
          have RD : Aside0 (∀ w', Below w.heap.size w w' → Calls Try.prog 10 #[.pointer (some ⟨o.g, 0, none⟩), .int .i64 ((a : Int) + (i : Int))] w' fun e w'' => ∃ v, e = .returned (.tuple #[v, .nilIface]) ∧ Kd.R (Kd.int .u8) 5 w'' w'.heap.size (fun _ => True) v l ∧ Below w'.heap.size w' w'') := ⟨fun w' hb => by
            have := Dk_Read.calls o s w' (HD.out.below hb) (a + i) hl0 l hl (clone_f l (by omega))
            rw [show ((a + i : Nat) : Int) = (a : Int) + (i : Int) by omega] at this
            exact this⟩
          have HSZ := Aside0.mk (fun h => hOk_size (b := l) h)
          have HPOS := Aside0.mk (hW_bd hIB 2)
          have HL := Aside0.mk hL
          have TR : Aside0 (∀ A c w', Kd.C (Kd.int .u8) w' A l.length l → l.length ≤ c → Calls Try.prog 29 #[.slice A l.length c] w' fun e w'' => e = .returned (.tuple #[.agg #[.int .i64 (hG l), .int .i64 (hN l), .int .i64 (hW l 0), .int .i64 (hW l 1), .int .i64 (hW l 2)], .bool (hOk l)]) ∧ Below w'.heap.size w' w'') := ⟨fun A c w' h1 h2 => Tr.calls A c l w' h1 h2 hL hIB⟩
          have HGB : Aside0 (∀ n', gdB g k (i : Int) n' l = gdL (hOk l) g (hG l) k (hN l) (i : Int) (hW l 0) n' (hW l 1) ((l.drop (24 + (hW l 2).toNat)).any nz)) := ⟨fun n' => rfl⟩
          have ODD : Aside0 (∀ n', (n' = if i = 0 then hW l 1 else n) → gdB g k (i : Int) n' l = false → RdIs s.now a b g k none) := ⟨fun n' e1 e2 => HI.out.odd HCI.out (n' := n') (by rw [hgd]; exact e1) (by rw [hgd]; exact e2)⟩
          have NEXT : Aside0 (∀ n', (n' = if i = 0 then hW l 1 else n) → gdB g k (i : Int) n' l = true → (i : Int) < n' → RdI s.now a b g k (i + 1) n' (out ++ payL l)) := ⟨fun n' e1 e2 e3 => by have := HI.out.next HCI.out HCB.out (n' := n') (by rw [hgd]; exact e1) (by rw [hgd]; exact e2) e3; rw [hgd] at this; exact this⟩
          have HPM : Aside0 (hOk l = true → hW l 0 < hW l 1) := ⟨fun h => by
            unfold hOk hOk5 at h
            simp only [Bool.and_eq_true, decide_eq_true_eq] at h
            exact h.1.1.2⟩
          have HPD : Aside0 (payL l = (l.take (24 + (hW l 2).toNat)).drop 24) := ⟨rfl⟩
          generalize hG l = xg at *
          generalize hN l = xn at *
          generalize hW l 0 = p at *
          generalize hW l 1 = m at *
          generalize hW l 2 = z at *
          generalize hok : hOk l = okv at *
          generalize payL l = PL at *
          clear hl0 hl hIB hL hgd hok
          by_cases hi0 : i = 0
          · have e0 : ((i : Int) == 0) = true := by rw [hi0]; rfl
            have HN : Aside0 (m = if i = 0 then m else n) := ⟨(if_pos hi0).symm⟩
            have HI0 := Aside0.mk hi0
            clear hi0
            go_upto_region 13 with (first | (go_at_call 29; (with_reducible refine (TR.out _ _ _ (Kd.R_reads' R1.out).2.2 (Kd.R_reads' R1.out).2.1).mono ?_); rintro e w2 ⟨rfl, hb2⟩; have B2 := Aside0.mk (below_step B1.out hb2); have O2 := Aside0.mk (Kd.R_below O1.out hb2); have R2 := Aside0.mk (Kd.R_below R1.out hb2); clear hb2) | (go_at_call 10; with_reducible refine (RD.out _ HB.out).mono ?_; rintro e w1 ⟨v1, rfl, hr1, hb1⟩; have R1 := Aside0.mk hr1; obtain ⟨A1, c1, rfl⟩ := Kd.R_slice hr1; have B1 := Aside0.mk (below_step HB.out hb1); have O1 := Aside0.mk (Kd.R_below HO.out hb1); clear hr1 hb1))
            cases okv
            · go_wp2
              go_ret3
              exact ⟨_, none, rfl, Kd.R_nil _ _ _ _ _, B2.out.alloc B2.out.size _, ODD.out _ HN.out ((HGB.out _).trans (gdL_F _ _ _ _ _ _ _ _ _ _ (by rfl)))⟩
            have hsz := HSZ.out rfl
            have hpos := HPOS.out
            cases q1 : (xg != g)
            rotate_left
            · go_wp2
              go_ret3
              exact ⟨_, none, rfl, Kd.R_nil _ _ _ _ _, B2.out.alloc B2.out.size _, ODD.out _ HN.out ((HGB.out _).trans (gdL_F _ _ _ _ _ _ _ _ _ _ (by rw [q1]; simp only [Bool.or_true, Bool.true_or])))⟩
            cases q2 : (xn != k)
            rotate_left
            · go_wp2
              go_ret3
              exact ⟨_, none, rfl, Kd.R_nil _ _ _ _ _, B2.out.alloc B2.out.size _, ODD.out _ HN.out ((HGB.out _).trans (gdL_F _ _ _ _ _ _ _ _ _ _ (by rw [q2]; simp only [Bool.or_true, Bool.true_or])))⟩
            cases q3 : (p != (i : Int))
            rotate_left
            · go_wp2
              go_ret3
              exact ⟨_, none, rfl, Kd.R_nil _ _ _ _ _, B2.out.alloc B2.out.size _, ODD.out _ HN.out ((HGB.out _).trans (gdL_F _ _ _ _ _ _ _ _ _ _ (by rw [q3]; simp only [Bool.or_true, Bool.true_or])))⟩
            obtain ⟨A3, c3, hcut3, hrow3, hle3⟩ := cutR A1 c1 l z (Kd.R_reads' R2.out).2.1 hpos (by rw [HL.out]; omega)
            obtain ⟨A4, c4, hcut4, hrow4, hle4⟩ := cutQ A1 c1 l z (Kd.R_reads' R2.out).2.1 hpos (by rw [HL.out]; omega)
            have HR3 := Aside0.mk (hrow3 _ (Kd.R_reads' R2.out).2.2)
            have HR4 := Aside0.mk (hrow4 _ (Kd.R_reads' R2.out).2.2)
            have HC3 := Aside0.mk hle3
            have HC4 := Aside0.mk hle4
            have HL3 : Aside0 ((l.drop (24 + z.toNat)).length < 9223372036854775807) := ⟨by rw [List.length_drop, HL.out]; omega⟩
            have HL4 : Aside0 (((l.take (24 + z.toNat)).drop 24).length ≤ 488) := ⟨by rw [List.length_drop, List.length_take]; omega⟩
            have HLO := Aside0.mk (HI.out.le (fun l hl => Nat.le_of_eq (HBS.out l hl).2) hb5)
            rw [← HPD.out] at hcut4 HR4 HC4 HL4
            generalize l.drop (24 + z.toNat) = DR at *
            clear hrow3 hrow4 hle3 hle4
            cases hy : DR.any nz
            rotate_left
            · go_wp2_with (first | (go_at_call 30; (with_reducible refine (nz_any.calls A3 c3 DR _ (Kd.C_alloc HR3.out _) HC3.out HL3.out).mono ?_); rintro e w3 ⟨rfl, hb3⟩; have B3 := Aside0.mk (below_step (B2.out.alloc B2.out.size _) hb3); clear hb3; rw [hy]))
              go_ret3
              exact ⟨_, none, rfl, Kd.R_nil _ _ _ _ _, B3.out, ODD.out _ HN.out ((HGB.out _).trans (gdL_F _ _ _ _ _ _ _ _ _ _ (by rw [hy]; simp only [Bool.or_true, Bool.true_or])))⟩
            · have hgood : gdB g k (i : Int) m l = true := by
                rw [HGB.out, hy]
                unfold gdL
                have w1 := bne_eq_false_iff_eq.mp q1
                have w2 := bne_eq_false_iff_eq.mp q2
                have w3 := bne_eq_false_iff_eq.mp q3
                have w4 : m = m := rfl
                simp only [w1, w2, w3, beq_self_eq_true, Bool.and_self, Bool.not_false]
              have hlt : (i : Int) < m := by
                have w3 := bne_eq_false_iff_eq.mp q3
                have := HPM.out rfl
                skip
                omega
              have NX := Aside0.mk (NEXT.out _ HN.out hgood hlt)
              clear hgood hlt
              go_wp2_with (first | (go_at_call 30; (with_reducible refine (nz_any.calls A3 c3 DR _ (Kd.C_alloc HR3.out _) HC3.out HL3.out).mono ?_); rintro e w3 ⟨rfl, hb3⟩; have B3 := Aside0.mk (below_step (B2.out.alloc B2.out.size _) hb3); have O3 := Aside0.mk (Kd.R_below (Kd.R_alloc O2.out _) hb3); have R3 := Aside0.mk (Kd.C_below (Kd.C_alloc HR4.out _) hb3); have X3 : Aside0 (w3.heap[w2.heap.size]? = some (.cells #[.int .i64 xg, .int .i64 xn, .int .i64 p, .int .i64 m, .int .i64 z] 57 (0, 0))) := ⟨blk_below (blk_new w2 _) hb3⟩; have x34 : w3.cell? ⟨w2.heap.size, 4, none⟩ = some (.int .i64 z) := (blk_cell X3.out 4).trans rfl; clear hb3; rw [hy]) | ((with_reducible refine gate_builtin (b := .append) (xs := #[.tmp 86, .tmp 91]) rfl ?_); at_builtin; refine Kd.R_append_rows (Kd.int .u8) (w0 := w) w.heap.size rfl (.tmp 86) (.tmp 91) 27 5 (.int .u8 0) 1 rfl Try.underlying27 info5 rfl (by decide) (by omega) u13 out PL _ _ _ (fun _ => True) (fun _ => False) rfl rfl ?aO ?aR (fun _ _ h => h) (fun _ h => h.elim) ?aF ?aB ?aS ?aL ?_; (case aR => exact R3.out); (case aB => exact B3.out); (case aF => exact (fun _ _ => trivial)); (case aO => exact O3.out); (case aS => exact B3.out.size); (case aL => have := HL4.out; have := HLO.out; omega); intro v136 w24 ho hb hg hat; have O4 := Aside0.mk ho; have B4 := Aside0.mk hb; clear ho hb hg hat))
              go_roundg k1
              case measure => omega
              case rel => exact ⟨i + 1, m, out ++ PL, (by
                have hw : wrap64 ((i : Int) + 1) = ((i + 1 : Nat) : Int) := by unfold wrap64; omega
                first | rfl | (rw [← hw]; rfl) | (simp [*]; done)), (by first | rfl | (simp; done)), ⟨by have := HJ.out; omega⟩, NX, O4, B4⟩
          · have e0 : ((i : Int) == 0) = false := by rw [beq_eq_false_iff_ne]; omega
            have HN : Aside0 (n = if i = 0 then m else n) := ⟨(if_neg hi0).symm⟩
            have HI0 := Aside0.mk hi0
            clear hi0
            go_upto_region 13 with (first | (go_at_call 29; (with_reducible refine (TR.out _ _ _ (Kd.R_reads' R1.out).2.2 (Kd.R_reads' R1.out).2.1).mono ?_); rintro e w2 ⟨rfl, hb2⟩; have B2 := Aside0.mk (below_step B1.out hb2); have O2 := Aside0.mk (Kd.R_below O1.out hb2); have R2 := Aside0.mk (Kd.R_below R1.out hb2); clear hb2) | (go_at_call 10; with_reducible refine (RD.out _ HB.out).mono ?_; rintro e w1 ⟨v1, rfl, hr1, hb1⟩; have R1 := Aside0.mk hr1; obtain ⟨A1, c1, rfl⟩ := Kd.R_slice hr1; have B1 := Aside0.mk (below_step HB.out hb1); have O1 := Aside0.mk (Kd.R_below HO.out hb1); clear hr1 hb1))
            cases okv
            · go_wp2
              go_ret3
              exact ⟨_, none, rfl, Kd.R_nil _ _ _ _ _, B2.out.alloc B2.out.size _, ODD.out _ HN.out ((HGB.out _).trans (gdL_F _ _ _ _ _ _ _ _ _ _ (by rfl)))⟩
            have hsz := HSZ.out rfl
            have hpos := HPOS.out
            cases q1 : (xg != g)
            rotate_left
            · go_wp2
              go_ret3
              exact ⟨_, none, rfl, Kd.R_nil _ _ _ _ _, B2.out.alloc B2.out.size _, ODD.out _ HN.out ((HGB.out _).trans (gdL_F _ _ _ _ _ _ _ _ _ _ (by rw [q1]; simp only [Bool.or_true, Bool.true_or])))⟩
            cases q2 : (xn != k)
            rotate_left
            · go_wp2
              go_ret3
              exact ⟨_, none, rfl, Kd.R_nil _ _ _ _ _, B2.out.alloc B2.out.size _, ODD.out _ HN.out ((HGB.out _).trans (gdL_F _ _ _ _ _ _ _ _ _ _ (by rw [q2]; simp only [Bool.or_true, Bool.true_or])))⟩
            cases q3 : (p != (i : Int))
            rotate_left
            · go_wp2
              go_ret3
              exact ⟨_, none, rfl, Kd.R_nil _ _ _ _ _, B2.out.alloc B2.out.size _, ODD.out _ HN.out ((HGB.out _).trans (gdL_F _ _ _ _ _ _ _ _ _ _ (by rw [q3]; simp only [Bool.or_true, Bool.true_or])))⟩
            cases q4 : (m != n)
            rotate_left
            · go_wp2
              go_ret3
              exact ⟨_, none, rfl, Kd.R_nil _ _ _ _ _, B2.out.alloc B2.out.size _, ODD.out _ HN.out ((HGB.out _).trans (gdL_F _ _ _ _ _ _ _ _ _ _ (by rw [q4]; simp only [Bool.or_true, Bool.true_or])))⟩
            obtain ⟨A3, c3, hcut3, hrow3, hle3⟩ := cutR A1 c1 l z (Kd.R_reads' R2.out).2.1 hpos (by rw [HL.out]; omega)
            obtain ⟨A4, c4, hcut4, hrow4, hle4⟩ := cutQ A1 c1 l z (Kd.R_reads' R2.out).2.1 hpos (by rw [HL.out]; omega)
            have HR3 := Aside0.mk (hrow3 _ (Kd.R_reads' R2.out).2.2)
            have HR4 := Aside0.mk (hrow4 _ (Kd.R_reads' R2.out).2.2)
            have HC3 := Aside0.mk hle3
            have HC4 := Aside0.mk hle4
            have HL3 : Aside0 ((l.drop (24 + z.toNat)).length < 9223372036854775807) := ⟨by rw [List.length_drop, HL.out]; omega⟩
            have HL4 : Aside0 (((l.take (24 + z.toNat)).drop 24).length ≤ 488) := ⟨by rw [List.length_drop, List.length_take]; omega⟩
            have HLO := Aside0.mk (HI.out.le (fun l hl => Nat.le_of_eq (HBS.out l hl).2) hb5)
            rw [← HPD.out] at hcut4 HR4 HC4 HL4
            generalize l.drop (24 + z.toNat) = DR at *
            clear hrow3 hrow4 hle3 hle4
            cases hy : DR.any nz
            rotate_left
            · go_wp2_with (first | (go_at_call 30; (with_reducible refine (nz_any.calls A3 c3 DR _ (Kd.C_alloc HR3.out _) HC3.out HL3.out).mono ?_); rintro e w3 ⟨rfl, hb3⟩; have B3 := Aside0.mk (below_step (B2.out.alloc B2.out.size _) hb3); clear hb3; rw [hy]))
              go_ret3
              exact ⟨_, none, rfl, Kd.R_nil _ _ _ _ _, B3.out, ODD.out _ HN.out ((HGB.out _).trans (gdL_F _ _ _ _ _ _ _ _ _ _ (by rw [hy]; simp only [Bool.or_true, Bool.true_or])))⟩
            · have hgood : gdB g k (i : Int) n l = true := by
                rw [HGB.out, hy]
                unfold gdL
                have w1 := bne_eq_false_iff_eq.mp q1
                have w2 := bne_eq_false_iff_eq.mp q2
                have w3 := bne_eq_false_iff_eq.mp q3
                have w4 : m = n := bne_eq_false_iff_eq.mp q4
                simp only [w1, w2, w3, w4, beq_self_eq_true, Bool.and_self, Bool.not_false]
              have hlt : (i : Int) < n := by
                have w3 := bne_eq_false_iff_eq.mp q3
                have := HPM.out rfl
                have w4 : m = n := bne_eq_false_iff_eq.mp q4
                omega
              have NX := Aside0.mk (NEXT.out _ HN.out hgood hlt)
              clear hgood hlt
              go_wp2_with (first | (go_at_call 30; (with_reducible refine (nz_any.calls A3 c3 DR _ (Kd.C_alloc HR3.out _) HC3.out HL3.out).mono ?_); rintro e w3 ⟨rfl, hb3⟩; have B3 := Aside0.mk (below_step (B2.out.alloc B2.out.size _) hb3); have O3 := Aside0.mk (Kd.R_below (Kd.R_alloc O2.out _) hb3); have R3 := Aside0.mk (Kd.C_below (Kd.C_alloc HR4.out _) hb3); have X3 : Aside0 (w3.heap[w2.heap.size]? = some (.cells #[.int .i64 xg, .int .i64 xn, .int .i64 p, .int .i64 m, .int .i64 z] 57 (0, 0))) := ⟨blk_below (blk_new w2 _) hb3⟩; have x34 : w3.cell? ⟨w2.heap.size, 4, none⟩ = some (.int .i64 z) := (blk_cell X3.out 4).trans rfl; clear hb3; rw [hy]) | ((with_reducible refine gate_builtin (b := .append) (xs := #[.tmp 86, .tmp 91]) rfl ?_); at_builtin; refine Kd.R_append_rows (Kd.int .u8) (w0 := w) w.heap.size rfl (.tmp 86) (.tmp 91) 27 5 (.int .u8 0) 1 rfl Try.underlying27 info5 rfl (by decide) (by omega) u13 out PL _ _ _ (fun _ => True) (fun _ => False) rfl rfl ?aO ?aR (fun _ _ h => h) (fun _ h => h.elim) ?aF ?aB ?aS ?aL ?_; (case aR => exact R3.out); (case aB => exact B3.out); (case aF => exact (fun _ _ => trivial)); (case aO => exact O3.out); (case aS => exact B3.out.size); (case aL => have := HL4.out; have := HLO.out; omega); intro v136 w24 ho hb hg hat; have O4 := Aside0.mk ho; have B4 := Aside0.mk hb; clear ho hb hg hat))
              go_roundg k1
              case measure => omega
              case rel => exact ⟨i + 1, n, out ++ PL, (by
                have hw : wrap64 ((i : Int) + 1) = ((i + 1 : Nat) : Int) := by unfold wrap64; omega
                first | rfl | (rw [← hw]; rfl) | (simp [*]; done)), (by first | rfl | (simp; done)), ⟨by have := HJ.out; omega⟩, NX, O4, B4⟩
    · have d1 : decide ((i : Int) < n) = false := decide_eq_false ci
      have HR := Aside0.mk (HI.out.done ci)
      have HLE := Aside0.mk (HI.out.le (fun l hl => Nat.le_of_eq (HBS.out l hl).2) hb5)
      have HPF := Aside0.mk (parts_f out.length (by have := HLE.out; omega))
      have hpq : prts out.length ≤ 300 := by have := HLE.out; unfold prts; omega
      obtain ⟨Ao, co, rfl⟩ := Kd.R_slice HO.out
      clear ci
      go_wp2_with (first | (go_at_call 17; with_reducible refine (tail_Parts.calls _ _ _ HPF.out).mono ?_; rintro e w1 ⟨rfl, hb1⟩; have B1 := Aside0.mk hb1; clear hb1))
      go_ret3
      exact ⟨_, some out, rfl, Kd.R_below HO.out B1.out, below_step HB.out B1.out, HR.out⟩
end
section
/-! ### A frame's blocks, plainly -/
theorem cutM (a b c : List Int) (x y : Nat) (ha : a.length = x) (hb : y = x + b.length) : ((a ++ (b ++ c)).take y).drop x = b := by
  subst ha hb
  rw [List.take_append, List.take_of_length_le (by omega), List.drop_left, Nat.add_sub_cancel_left, List.take_left]
theorem takeD (l : List Int) (x y : Nat) (h : x ≤ y) : l.take x ++ (l.take y).drop x = l.take y := by
  have : (l.take y).take x = l.take x := by rw [List.take_take, Nat.min_eq_left h]
  rw [← this, List.take_append_drop]
theorem any_nz : ∀ (l : List Int), l.any nz = false ↔ l = List.replicate l.length 0
  | [] => by simp
  | x :: r => by
    rw [List.any_cons, Bool.or_eq_false_iff, any_nz r, List.length_cons, List.replicate_succ]
    unfold nz
    rw [bne_eq_false_iff_eq]
    constructor
    · rintro ⟨h1, h2⟩; rw [h1, ← h2]
    · intro h
      injection h with h1 h2
      exact ⟨h1, h2⟩
/-- What a block's numbers must be. -/
structure BkN (g k i m : Int) (n : Nat) : Prop where
  g1 : 1 ≤ g
  g2 : g ≤ 9223372036854775807
  k1 : 1 ≤ k
  k2 : k ≤ 9223372036854775807
  i1 : 0 ≤ i
  im : i < m
  m2 : m ≤ 65535
  n2 : n ≤ 488
  sz : n = 488 ∨ (i = m - 1 ∧ (0 < n ∨ m = 1))
theorem wrapS {v g : Int} (h0 : 0 ≤ v) (h1 : v < 18446744073709551616) (hg : 1 ≤ g) (h : wrap64 v = g) : v = g := by unfold wrap64 at h; omega
section
variable {g k i m : Int} {p : List Int}
theorem blk_G (h : BkN g k i m p.length) : hG (blkL g k i m p) = g := by
  have e : (blkL g k i m p).take 8 = beN 8 g := by
    unfold blkL
    simp only [List.append_assoc]
    exact List.take_left' (beN_len 8 g)
  unfold hG
  rw [e, bv_beN8 g (by have := h.g1; omega) (by have := h.g2; omega), w64' (by have := h.g1; omega) h.g2]
theorem blk_N (h : BkN g k i m p.length) : hN (blkL g k i m p) = k := by
  have e : ((blkL g k i m p).take 16).drop 8 = beN 8 k := by
    unfold blkL
    simp only [List.append_assoc]
    exact cutM _ _ _ 8 16 (beN_len 8 g) (by rw [beN_len])
  unfold hN
  rw [e, bv_beN8 k (by have := h.k1; omega) (by have := h.k2; omega), w64' (by have := h.k1; omega) h.k2]
theorem blk_W0 (h : BkN g k i m p.length) : hW (blkL g k i m p) 0 = i := by
  have e : ((blkL g k i m p).take 18).drop 16 = beN 2 i := by
    have := cutM (beN 8 g ++ beN 8 k) (beN 2 i) (beN 2 m ++ (beN 2 (p.length : Int) ++ (beN 2 0 ++ (p ++ List.replicate (488 - p.length) 0)))) 16 18 (by rw [List.length_append, beN_len, beN_len]) (by rw [beN_len])
    unfold blkL
    simp only [List.append_assoc] at this ⊢
    exact this
  show bv (((blkL g k i m p).take 18).drop 16) = i
  rw [e, bv_beN2 i h.i1 (by have := h.im; have := h.m2; omega)]
theorem blk_W1 (h : BkN g k i m p.length) : hW (blkL g k i m p) 1 = m := by
  have e : ((blkL g k i m p).take 20).drop 18 = beN 2 m := by
    have := cutM (beN 8 g ++ beN 8 k ++ beN 2 i) (beN 2 m) (beN 2 (p.length : Int) ++ (beN 2 0 ++ (p ++ List.replicate (488 - p.length) 0))) 18 20 (by simp only [List.length_append, beN_len]) (by rw [beN_len])
    unfold blkL
    simp only [List.append_assoc] at this ⊢
    exact this
  show bv (((blkL g k i m p).take 20).drop 18) = m
  rw [e, bv_beN2 m (by have := h.i1; have := h.im; omega) (by have := h.m2; omega)]
theorem blk_W2 (h : BkN g k i m p.length) : hW (blkL g k i m p) 2 = (p.length : Int) := by
  have e : ((blkL g k i m p).take 22).drop 20 = beN 2 (p.length : Int) := by
    have := cutM (beN 8 g ++ beN 8 k ++ beN 2 i ++ beN 2 m) (beN 2 (p.length : Int)) (beN 2 0 ++ (p ++ List.replicate (488 - p.length) 0)) 20 22 (by simp only [List.length_append, beN_len]) (by rw [beN_len])
    unfold blkL
    simp only [List.append_assoc] at this ⊢
    exact this
  show bv (((blkL g k i m p).take 22).drop 20) = _
  rw [e, bv_beN2 _ (by omega) (by have := h.n2; omega)]
theorem blk_W3 (h : BkN g k i m p.length) : hW (blkL g k i m p) 3 = 0 := by
  have e : ((blkL g k i m p).take 24).drop 22 = beN 2 0 := by
    have := cutM (beN 8 g ++ beN 8 k ++ beN 2 i ++ beN 2 m ++ beN 2 (p.length : Int)) (beN 2 0) (p ++ List.replicate (488 - p.length) 0) 22 24 (by simp only [List.length_append, beN_len]) (by rw [beN_len])
    unfold blkL
    simp only [List.append_assoc] at this ⊢
    exact this
  show bv (((blkL g k i m p).take 24).drop 22) = _
  rw [e, bv_beN2 _ (by omega) (by omega)]
theorem blk_pay (h : BkN g k i m p.length) : payL (blkL g k i m p) = p := by
  have := cutM (beN 8 g ++ beN 8 k ++ beN 2 i ++ beN 2 m ++ beN 2 (p.length : Int) ++ beN 2 0) p (List.replicate (488 - p.length) 0) 24 (24 + p.length) (by simp only [List.length_append, beN_len]) rfl
  unfold payL
  rw [blk_W2 h, Int.toNat_natCast]
  unfold blkL
  simp only [List.append_assoc] at this ⊢
  exact this
theorem blk_rest (h : BkN g k i m p.length) : ((blkL g k i m p).drop (24 + p.length)).any nz = false := by
  have e : (blkL g k i m p).drop (24 + p.length) = List.replicate (488 - p.length) 0 := by
    have hl : (beN 8 g ++ beN 8 k ++ beN 2 i ++ beN 2 m ++ beN 2 (p.length : Int) ++ beN 2 0 ++ p).length = 24 + p.length := by simp only [List.length_append, beN_len]
    unfold blkL
    exact List.drop_left' hl
  rw [e, any_nz, List.length_replicate]
theorem blk_ok (h : BkN g k i m p.length) : hOk (blkL g k i m p) = true := by
  have hS1 : hS i m (p.length : Int) = true := by
    unfold hS
    have := h.n2; have := h.sz; have := h.im; have := h.m2; have := h.i1
    have hw : wrap64 (m - 1) = m - 1 := w64' (by omega) (by omega)
    rw [hw]
    simp only [Bool.or_eq_true, Bool.and_eq_true, beq_iff_eq, decide_eq_true_eq]
    omega
  unfold hOk
  rw [blk_G h, blk_N h, blk_W0 h, blk_W1 h, blk_W2 h, blk_W3 h]
  unfold hOk5
  rw [decide_eq_true h.g1, decide_eq_true h.k1, decide_eq_true h.im, hS1]
  rfl
theorem blk_gd (h : BkN g k i m p.length) : gdB g k i m (blkL g k i m p) = true := by
  unfold gdB
  rw [blk_ok h, blk_G h, blk_N h, blk_W0 h, blk_W1 h, blk_W2 h, Int.toNat_natCast, blk_rest h]
  simp
end
/-- What is a frame's block is what was laid. -/
theorem gd_blk {g k i n : Int} {b : List Int} (hB : IsB b) (hL : b.length = 512) (hg : 1 ≤ g) (hk : 1 ≤ k) (h : gdB g k i n b = true) : b = blkL g k i n (payL b) ∧ BkN g k i n (payL b).length := by
  unfold gdB at h
  simp only [Bool.and_eq_true, beq_iff_eq, Bool.not_eq_true'] at h
  obtain ⟨⟨⟨⟨⟨h1, h2⟩, h3⟩, h4⟩, h5⟩, h6⟩ := h
  have hpos := hW_bd hB 2
  have hsz := hOk_size h1
  have hpl := payL_len b (by omega) hL
  have l8 : (b.take 8).length = 8 := by rw [List.length_take, hL]; rfl
  have l16 : ((b.take 16).drop 8).length = 8 := by rw [List.length_drop, List.length_take, hL]; rfl
  have lw : ∀ j, j < 4 → ((b.take (18 + 2 * j)).drop (16 + 2 * j)).length = 2 := fun j hj => by rw [List.length_drop, List.length_take, hL]; omega
  have small : ∀ j, j < 4 → hW b j < 65536 := fun j hj => by
    have := (bv_lt _ ((hB.take (18 + 2 * j)).drop (16 + 2 * j))).2
    rw [lw j hj] at this
    exact this
  have p1 : b.take 8 = beN 8 g := by
    have hv := bv_lt _ (hB.take 8)
    rw [l8] at hv
    have e := wrapS hv.1 hv.2 hg h2
    exact bv_inj _ _ (hB.take 8) (beN_B 8 g) (by rw [l8, beN_len]) (by rw [bv_beN8 g (by omega) (by omega), e])
  have p2 : (b.take 16).drop 8 = beN 8 k := by
    have hv := bv_lt _ ((hB.take 16).drop 8)
    rw [l16] at hv
    have e := wrapS hv.1 hv.2 hk h3
    exact bv_inj _ _ ((hB.take 16).drop 8) (beN_B 8 k) (by rw [l16, beN_len]) (by rw [bv_beN8 k (by omega) (by omega), e])
  have pw : ∀ j, j < 4 → (b.take (18 + 2 * j)).drop (16 + 2 * j) = beN 2 (hW b j) := fun j hj =>
    bv_inj _ _ ((hB.take _).drop _) (beN_B 2 _) (by rw [lw j hj, beN_len]) (by rw [bv_beN2 _ (hW_bd hB j) (small j hj)]; rfl)
  have h1' := h1
  unfold hOk hOk5 hS at h1'
  simp only [Bool.and_eq_true, Bool.or_eq_true, decide_eq_true_eq, beq_iff_eq] at h1'
  have z3 : hW b 3 = 0 := h1'.2
  have g2 : g ≤ 9223372036854775807 := by rw [← h2]; unfold hG wrap64; omega
  have k2 : k ≤ 9223372036854775807 := by rw [← h3]; unfold hN wrap64; omega
  have hi0 := hW_bd hB 0
  have hm2 := small 1 (by decide)
  rw [h4] at hi0
  rw [h5] at hm2
  have hszI : hW b 2 = ((payL b).length : Int) := by rw [hpl]; omega
  have hw : wrap64 (n - 1) = n - 1 := w64' (by have := h1'.1.1.2; omega) (by omega)
  rw [h4, h5, hw, hszI] at h1'
  refine ⟨?_, ⟨hg, g2, hk, k2, hi0, h1'.1.1.2, by omega, by omega, by omega⟩⟩
  have q0 := pw 0 (by decide)
  have q1 := pw 1 (by decide)
  have q2 := pw 2 (by decide)
  have q3 := pw 3 (by decide)
  rw [h4] at q0
  rw [h5] at q1
  rw [hszI] at q2
  rw [z3] at q3
  have r24 : b.take 24 = beN 8 g ++ beN 8 k ++ beN 2 i ++ beN 2 n ++ beN 2 ((payL b).length : Int) ++ beN 2 0 := by
    rw [← takeD b 22 24 (by decide), ← takeD b 20 22 (by decide), ← takeD b 18 20 (by decide), ← takeD b 16 18 (by decide), ← takeD b 8 16 (by decide), p1, p2]
    have q0' : (b.take 18).drop 16 = beN 2 i := q0
    have q1' : (b.take 20).drop 18 = beN 2 n := q1
    have q2' : (b.take 22).drop 20 = beN 2 ((payL b).length : Int) := q2
    have q3' : (b.take 24).drop 22 = beN 2 0 := q3
    rw [q0', q1', q2', q3']
  have rs : b.take (24 + (payL b).length) = b.take 24 ++ payL b := by
    have e : (b.take (24 + (payL b).length)).drop 24 = payL b := by rw [hpl]; rfl
    rw [← takeD b 24 (24 + (payL b).length) (by omega), e]
  have rd0 : b.drop (24 + (payL b).length) = List.replicate (488 - (payL b).length) 0 := by
    have := (any_nz _).mp h6
    rw [hszI, Int.toNat_natCast] at this
    rw [this, List.length_drop, hL]
    congr 1
    omega
  conv => lhs; rw [← List.take_append_drop (24 + (payL b).length) b, rs, r24, rd0]
  rfl
/-! ### Parts -/
theorem part_BkN {g k : Int} {l : List Int} (hl : l.length ≤ 100000) (hg : 1 ≤ g) (g2 : g ≤ 9223372036854775807) (hk : 1 ≤ k) (k2 : k ≤ 9223372036854775807) {j : Nat} (hj : j < prts l.length) : BkN g k (j : Int) (prts l.length : Int) (partL l j).length := by
  have e := partL_len l j
  unfold prts at hj ⊢
  refine ⟨hg, g2, hk, k2, by omega, by omega, by omega, partL_le l j, ?_⟩
  rw [e]
  omega
def outP (l : List Int) : Nat → List Int
  | 0 => []
  | j + 1 => outP l j ++ partL l j
theorem outP_take (l : List Int) : ∀ j, outP l j = l.take (488 * j)
  | 0 => by simp [outP]
  | j + 1 => by
    rw [outP, outP_take l j]
    unfold partL
    by_cases h : 488 * j ≤ l.length
    · have e : l.take (min l.length (488 * (j + 1))) = l.take (488 * (j + 1)) := by
        by_cases h2 : l.length ≤ 488 * (j + 1)
        · rw [Nat.min_eq_left h2, List.take_of_length_le (Nat.le_refl _), List.take_of_length_le h2]
        · rw [Nat.min_eq_right (by omega)]
      rw [e, takeD l _ _ (by omega)]
    · rw [List.drop_of_length_le (by rw [List.length_take]; omega), List.append_nil, List.take_of_length_le (by omega), List.take_of_length_le (by omega)]
theorem outP_all (l : List Int) : outP l (prts l.length) = l := by
  rw [outP_take, List.take_of_length_le (by unfold prts; omega)]
/-! ### Where a frame stands -/
def FrameAt (now : List (List Int)) (a : Nat) (g k : Int) (l : List Int) : Prop := ∀ j, j < prts l.length → now.getD (a + j) [] = blkL g k (j : Int) (prts l.length : Int) (partL l j)
theorem FrameAt.ok {now : List (List Int)} {a b : Nat} {g k : Int} {l : List Int} (h : FrameAt now a g k l) (hl : l.length ≤ 100000) (hg : 1 ≤ g) (g2 : g ≤ 9223372036854775807) (hk : 1 ≤ k) (k2 : k ≤ 9223372036854775807) (hb : a + prts l.length ≤ b) : RdOk now a b g k (prts l.length) :=
  ⟨prts_pos _, hb, fun j hj => by rw [h j hj]; exact blk_gd (part_BkN hl hg g2 hk k2 hj)⟩
theorem FrameAt.out {now : List (List Int)} {a : Nat} {g k : Int} {l : List Int} (h : FrameAt now a g k l) (hl : l.length ≤ 100000) (hg : 1 ≤ g) (g2 : g ≤ 9223372036854775807) (hk : 1 ≤ k) (k2 : k ≤ 9223372036854775807) : ∀ j, j ≤ prts l.length → outL now a j = outP l j
  | 0, _ => rfl
  | j + 1, hj => by rw [outL, outP, FrameAt.out h hl hg g2 hk k2 j (by omega), h j hj, blk_pay (part_BkN hl hg g2 hk k2 hj)]
/-- The number of parts is told by the first block. -/
theorem RdOk.uniq {now : List (List Int)} {a b b' : Nat} {g k : Int} {n n' : Nat} (h : RdOk now a b g k n) (h' : RdOk now a b' g k n') : n = n' := by
  have e1 := gdB_n (h.2.2 0 h.1)
  have e2 := gdB_n (h'.2.2 0 h'.1)
  omega
/-- Where a frame stands it is read. -/
theorem FrameAt.read {now : List (List Int)} {a b : Nat} {g k : Int} {l : List Int} (h : FrameAt now a g k l) (hl : l.length ≤ 100000) (hg : 1 ≤ g) (g2 : g ≤ 9223372036854775807) (hk : 1 ≤ k) (k2 : k ≤ 9223372036854775807) (hb : a + prts l.length ≤ b) {r : Option (List Int)} (hr : RdIs now a b g k r) : r = some l := by
  have ho := h.ok hl hg g2 hk k2 hb
  cases r with
  | none => exact absurd ho (hr _)
  | some out =>
    obtain ⟨n, h1, rfl⟩ := hr
    rw [h1.uniq ho, FrameAt.out h hl hg g2 hk k2 _ (Nat.le_refl _), outP_all]
/-- Cut short it is not. -/
theorem FrameAt.short {now : List (List Int)} {a b : Nat} {g k : Int} {l : List Int} (h : FrameAt now a g k l) (hl : l.length ≤ 100000) (hg : 1 ≤ g) (g2 : g ≤ 9223372036854775807) (hk : 1 ≤ k) (k2 : k ≤ 9223372036854775807) (hb : b < a + prts l.length) {r : Option (List Int)} (hr : RdIs now a b g k r) : r = none := by
  cases r with
  | none => rfl
  | some out =>
    obtain ⟨n, h1, rfl⟩ := hr
    have ho := h.ok hl hg g2 hk k2 (Nat.le_refl _)
    have := h1.uniq ho
    have := h1.2.1
    omega
/-- With another generation or number it is not. -/
theorem RdIs.other {now : List (List Int)} {a b : Nat} {g k g' k' i m : Int} {p : List Int} (e : now.getD a [] = blkL g k i m p) (h : BkN g k i m p.length) (hne : g ≠ g' ∨ k ≠ k') {r : Option (List Int)} (hr : RdIs now a b g' k' r) : r = none := by
  cases r with
  | none => rfl
  | some out =>
    obtain ⟨n, h1, rfl⟩ := hr
    have h2 := h1.2.2 0 h1.1
    rw [Nat.add_zero, e] at h2
    unfold gdB at h2
    simp only [Bool.and_eq_true, beq_iff_eq, blk_G h, blk_N h] at h2
    omega
/-- The blocks behind a frame's writing. -/
theorem lay_now (s : DS) (a : Nat) (g k : Int) (m : Nat) (l : List Int) (ha : a + m ≤ s.now.length) : ∀ j, j ≤ m → ∀ x, (s.lay a g k m l j).now.getD x [] = if a ≤ x ∧ x < a + j then blkL g k ((x - a : Nat) : Int) (m : Int) (partL l (x - a)) else s.now.getD x []
  | 0, _, x => by rw [if_neg (by omega)]; rfl
  | j + 1, hj, x => by
    have hlen := s.lay_len a g k m l j
    have hb := blkL_len g k (j : Int) (m : Int) (partL l j) (partL_le l j)
    have ih := lay_now s a g k m l ha j (by omega) x
    rw [DS.lay, DS.write, if_neg (by omega), if_neg (by omega), Int.toNat_natCast]
    show ((s.lay a g k m l j).now.set (a + j) _).getD x [] = _
    rw [List.getD_eq_getElem?_getD, List.getElem?_set]
    by_cases e : a + j = x
    · subst e
      rw [if_pos rfl, if_pos (by omega), if_pos (by omega), Nat.add_sub_cancel_left]
      rfl
    · rw [if_neg e, ← List.getD_eq_getElem?_getD, ih]
      by_cases c : a ≤ x ∧ x < a + j
      · rw [if_pos c, if_pos (by omega)]
      · rw [if_neg c, if_neg (by omega)]
theorem lay_frame (s : DS) (a : Nat) (g k : Int) (l : List Int) (ha : a + prts l.length ≤ s.now.length) : FrameAt (s.lay a g k (prts l.length) l (prts l.length)).now a g k l := fun j hj => by
  rw [lay_now s a g k _ l ha _ (Nat.le_refl _), if_pos (by omega), Nat.add_sub_cancel_left]
/-- Which blocks are dirty behind it. -/
theorem lay_dirty (s : DS) (a : Nat) (g k : Int) (m : Nat) (l : List Int) (ha : a + m ≤ s.now.length) (hf : s.dirty.length = s.now.length) : ∀ j, j ≤ m → ∀ x, x < s.now.length → (s.lay a g k m l j).dirty.getD x false = if a ≤ x ∧ x < a + j then true else s.dirty.getD x false
  | 0, _, x, _ => by rw [if_neg (by omega)]; rfl
  | j + 1, hj, x, hx => by
    have hlen := s.lay_len a g k m l j
    have hb := blkL_len g k (j : Int) (m : Int) (partL l j) (partL_le l j)
    have hd : ∀ j, (s.lay a g k m l j).dirty.length = s.dirty.length := fun j => by
      induction j with
      | zero => rfl
      | succ j ih =>
        rw [DS.lay]
        unfold DS.write
        split
        · exact ih
        · split
          · exact ih
          · exact List.length_set.trans ih
    have ih := lay_dirty s a g k m l ha hf j (by omega) x hx
    rw [DS.lay, DS.write, if_neg (by omega), if_neg (by omega), Int.toNat_natCast]
    show ((s.lay a g k m l j).dirty.set (a + j) true).getD x false = _
    rw [List.getD_eq_getElem?_getD, List.getElem?_set]
    by_cases e : a + j = x
    · subst e
      rw [if_pos rfl, if_pos (by rw [hd, hf]; exact hx), if_pos (by omega)]
      rfl
    · rw [if_neg e, ← List.getD_eq_getElem?_getD, ih]
      by_cases c : a ≤ x ∧ x < a + j
      · rw [if_pos c, if_pos (by omega)]
      · rw [if_neg c, if_neg (by omega)]
end
section
variable {ok ok2 : Nat → Prop}
set_option maxHeartbeats 8000000 in
set_option maxRecDepth 100000 in
theorem Al.calls (o : Own) (s : DS) (w : World) (h : Dk ok 52 w o s) (hL : ∀ l ∈ s.now, l.length = 512) :
    Calls Try.prog 12 #[.pointer (some ⟨o.g, 0, none⟩)] w fun e w' => ∃ v, e = .returned v ∧ Kd.S (Kd.slice 5 (Kd.int .u8)) 27 w' w.heap.size (fun _ => True) v s.now ∧ Below w.heap.size w w' := by
  have hn1 : s.now.length ≤ 256 := h.n1
  have HD := Aside0.mk h
  have HL := Aside0.mk hL
  clear h hL
  go_enter Try.func12, Try.ntmps12
  go_wp2
  go_loopg [3, 4] s.now.length (fun kq v3 v4 w' => ∃ (i : Nat), v4 = .int .i64 (i : Int) ∧ Aside0 (i + kq = s.now.length) ∧ Aside0 (Kd.S (Kd.slice 5 (Kd.int .u8)) 27 w' w.heap.size (fun _ => True) v3 (s.now.take i)) ∧ Aside0 (Below w.heap.size w w'))
  case atStart => exact ⟨0, (by first | rfl | (simp; done)), ⟨by omega⟩, ⟨by rw [List.take_zero]; exact Kd.S_nil _ _ _ _ _⟩, ⟨Below.refl _ _⟩⟩
  case round =>
    obtain ⟨i, rfl, HJ, HO_8, HB⟩ := hrel
    by_cases ci : i < s.now.length
    · have d1 : decide ((i : Int) < (s.now.length : Int)) = true := decide_eq_true (by omega)
      have d1' : decide (i < s.now.length) = true := decide_eq_true ci
      cases gk with
      | zero => have := HJ.out; omega
      | succ k1 =>
        obtain ⟨l, hl⟩ : ∃ l, s.now[i]? = some l := ⟨_, List.getElem?_eq_getElem ci⟩
        have hll : l.length = 512 := HL.out l (List.mem_of_getElem? hl)
        have RD : Aside0 (∀ w', Below w.heap.size w w' → Calls Try.prog 10 #[.pointer (some ⟨o.g, 0, none⟩), .int .i64 (i : Int)] w' fun e w'' => ∃ v, e = .returned (.tuple #[v, .nilIface]) ∧ Kd.R (Kd.int .u8) 5 w'' w'.heap.size (fun _ => True) v l ∧ Below w'.heap.size w' w'') := ⟨fun w' hb => Dk_Read.calls o s w' (HD.out.below hb) i ci l hl (clone_f l (by omega))⟩
        have LN : Aside0 (∀ w', Below w.heap.size w w' → Calls Try.prog 28 #[.pointer (some ⟨o.g, 0, none⟩)] w' fun e w'' => e = .returned (.int .i64 (s.now.length : Int)) ∧ w'' = w') := ⟨fun w' hb => Dk_Len.calls o s w' (HD.out.below hb)⟩
        have HT : Aside0 (s.now.take (i + 1) = s.now.take i ++ [l]) := ⟨by rw [List.take_add_one, hl]; rfl⟩
        have HLT : Aside0 ((s.now.take i).length ≤ 256) := ⟨by rw [List.length_take]; omega⟩
        generalize hX1 : s.now.take (i + 1) = X1 at *
        have HX1 := Aside0.mk hX1
        generalize s.now.take i = X0 at *
        clear hl hll hX1
        go_wp2_with (first | ((with_reducible refine gate_builtin (b := .append) (xs := #[.tmp 19, .tmp 21]) rfl ?_); at_builtin; refine Kd.S_append (Kd.slice 5 (Kd.int .u8)) (w0 := w) w.heap.size rfl (.tmp 19) (.tmp 21) 22 27 (.slice none 0 0) 24 rfl Try.underlying22 info27 rfl (by decide) (by omega) u3 X0 l [.slice A1 l.length c1] (fun _ => True) (fun k_ => some k_ = (.slice A1 l.length c1 : Value).ownBlock) rfl rfl ?aP (fun k_ hk_ => ((Kd.R_mono (ok' := fun k_ => ((fun _ => True)) k_ ∧ some k_ ≠ (u3 : Value).ownBlock) (Kd.R_apart' (R1.out) (Kd.S_typed HO_8.out) (by decide)) (fun k_ hk => ⟨trivial, hk.2⟩))).1 k_ hk_.symm) ?aF ?aO ?aB ?aS ?aL ?_; (case aP => exact Kd.M_row (Kd.R_mono (Kd.R_tight rfl (Kd.R_mono (ok' := fun k_ => ((fun _ => True)) k_ ∧ some k_ ≠ (u3 : Value).ownBlock) (Kd.R_apart' (R1.out) (Kd.S_typed HO_8.out) (by decide)) (fun k_ hk => ⟨trivial, hk.2⟩))) (fun _ h_ => h_))); (case aB => exact (by repeat (first | (with_reducible first | exact HB.out | apply below_alloc | apply pw_below_drewN | apply below_drew1) | exact HB.out))); (case aF => exact (fun _ _ => trivial)); (case aO => exact (by (with_reducible repeat (first | apply Kd.S_alloc | apply Kd.S_drewN | apply Kd.S_drew)); exact Kd.S_mono HO_8.out (fun k_ hk => ⟨trivial, fun e_ => Nat.not_le.2 hk.2 (RB.out k_ e_.symm)⟩))); (case aS => exact (below_size (by repeat (first | (with_reducible first | exact HB.out | apply below_alloc | apply pw_below_drewN | apply below_drew1) | exact HB.out)))); (case aL => have := HLT.out; omega); intro v189 w38 ho hb hg hat; rw [← HT.out] at ho; have B4 := Aside0.mk hb; have O4 := Aside0.mk ho; clear ho hb hg hat) | (go_at_call 10; with_reducible refine (RD.out _ HB.out).mono ?_; rintro e w1 ⟨v1, rfl, hr1, hb1⟩; have RB := Aside0.mk (Kd.R_base hr1); have R1 := Aside0.mk (Kd.R_lower hr1 HB.out.size); obtain ⟨A1, c1, rfl⟩ := Kd.R_slice hr1; have n0_ := Aside0.mk (below_step HB.out hb1); have n1_ := Aside0.mk (Kd.S_old HO_8.out hb1); clear hr1 hb1 HB HO_8; have HB := n0_; have HO_8 := n1_; clear n0_ n1_) | (go_at_call 28; with_reducible refine (LN.out _ HB.out).mono ?_; rintro e wc ⟨rfl, hw⟩; replace hw := hw.symm; subst hw))
        go_roundg k1
        case measure => omega
        case rel => exact ⟨i + 1, (by
          have hw : wrap64 ((i : Int) + 1) = ((i + 1 : Nat) : Int) := by unfold wrap64; omega
          first | rfl | (rw [← hw]; rfl) | (simp [*]; done)), ⟨by have := HJ.out; omega⟩, ⟨by rw [HX1.out]; exact O4.out⟩, B4⟩
    · have d1 : decide ((i : Int) < (s.now.length : Int)) = false := decide_eq_false (by omega)
      have d1' : decide (i < s.now.length) = false := decide_eq_false ci
      have LN : Aside0 (∀ w', Below w.heap.size w w' → Calls Try.prog 28 #[.pointer (some ⟨o.g, 0, none⟩)] w' fun e w'' => e = .returned (.int .i64 (s.now.length : Int)) ∧ w'' = w') := ⟨fun w' hb => Dk_Len.calls o s w' (HD.out.below hb)⟩
      have HF : Aside0 (s.now.take i = s.now) := ⟨List.take_of_length_le (by omega)⟩
      go_wp2_with (first | (go_at_call 28; with_reducible refine (LN.out _ HB.out).mono ?_; rintro e wc ⟨rfl, hw⟩; replace hw := hw.symm; subst hw))
      go_ret
      exact ⟨_, rfl, by have := HO_8.out; rw [HF.out] at this; exact this, HB.out⟩
end
section
/-- A disk of so many blocks of zeros. -/
def newS (n : Nat) : DS := ⟨List.replicate n (List.replicate 512 0), List.replicate n (List.replicate 512 0), List.replicate n false⟩
theorem newS_len (n : Nat) : (newS n).now.length = n := List.length_replicate
theorem newS_AllB (n : Nat) : (newS n).AllB := fun l hl => by
  rw [List.eq_of_mem_replicate hl]
  exact ⟨fun x hx => by rw [List.eq_of_mem_replicate hx]; decide, List.length_replicate⟩
theorem ab_B : IsB [97, 98] := fun x hx => by
  rcases List.mem_cons.mp hx with rfl | hx
  · decide
  · rcases List.mem_cons.mp hx with rfl | hx
    · decide
    · cases hx
theorem prts_ab : prts ([97, 98] : List Int).length = 1 := by decide
/-- awake's disk. -/
def awS : DS := (newS 4).lay 1 2 3 1 [97, 98] 1
theorem awS_AllB : awS.AllB := DS.lay_AllB (newS_AllB 4) 1 2 3 1 ab_B 1
theorem awS_len : awS.now.length = 4 := (DS.lay_len _ _ _ _ _ _ _).trans (newS_len 4)
theorem awS_frame : FrameAt awS.now 1 2 3 [97, 98] := by
  have := lay_frame (newS 4) 1 2 3 [97, 98] (by rw [prts_ab, newS_len]; decide)
  rw [prts_ab] at this
  exact this
theorem awS_yes {r : Option (List Int)} (h : RdIs awS.now 1 4 2 3 r) : r = some [97, 98] := awS_frame.read (by decide) (by decide) (by decide) (by decide) (by decide) (by rw [prts_ab]; decide) h
theorem awS_at : awS.now.getD 1 [] = blkL 2 3 0 1 [97, 98] := by
  have := awS_frame 0 (by rw [prts_ab]; decide)
  rw [prts_ab] at this
  exact this
theorem awS_N : BkN 2 3 0 1 ([97, 98] : List Int).length := ⟨by decide, by decide, by decide, by decide, by decide, by decide, by decide, by decide, by decide⟩
theorem awS_no {r : Option (List Int)} (h : RdIs awS.now 1 4 2 4 r) : r = none := RdIs.other awS_at awS_N (by decide) h
theorem awS_peek : peekF (blkL 2 3 0 1 [97, 98]) = (2, 3, true) := by
  unfold peekF
  rw [if_pos ⟨blk_ok awS_N, blk_W0 awS_N⟩, blk_G awS_N, blk_N awS_N]
theorem Keeps.row1 {o : Own} {w0 w : World} (hge : ∀ k, o.has k → w0.heap.size ≤ k) {A : Option Addr} (hA : ∀ ad, A = some ad → ad.block < w0.heap.size) (l : List Int) : ∀ ad, A = some ad → l ≠ [] → ¬ o.has ad.block := fun ad e _ h => by have := hge _ h; have := hA ad e; omega
set_option maxHeartbeats 8000000 in
set_option maxRecDepth 100000 in
theorem Ak.calls (w : World) :
    Calls Try.prog 6 #[] w fun e w' => e = .returned (.bool true) ∧ Below w.heap.size w w' := by
  have P1 : tail_Parts.f 488 = some 1 := parts_f 488 (by decide)
  have P2 : tail_Parts.f 489 = some 2 := parts_f 489 (by decide)
  have HP1 := Aside0.mk P1
  have HP2 := Aside0.mk P2
  clear P1 P2
  have WRT : Aside0 (∀ (o : Own) (w' : World) (A : Option Addr) (c : Nat), Dk (fun _ => True) 52 w' o (newS 4) → Kd.C (Kd.int .u8) w' A 2 [97, 98] → 2 ≤ c → (∀ ad, A = some ad → ¬ o.has ad.block) → Calls Try.prog 8 #[.pointer (some ⟨o.g, 0, none⟩), .int .i64 1, .int .i64 4, .int .i64 2, .int .i64 3, .slice A 2 c] w' fun e w'' => e = .returned (.tuple #[.int .i64 2, .nilIface]) ∧ Dk (fun _ => True) 52 w'' o awS ∧ Keeps o.has w' w'') := ⟨fun o w' A c h1 h2 h3 h4 => by
    have := Tw_Ok.calls o (newS 4) w' h1 1 4 2 3 A c [97, 98] h2 h3 (by decide) (fun ad e _ => h4 ad e) (by rw [prts_ab]; decide) (by rw [newS_len]; decide) (by decide) (by decide)
    rw [prts_ab] at this
    exact this⟩
  have RD : Aside0 (∀ (o : Own) (w' : World), Dk (fun _ => True) 52 w' o awS → Calls Try.prog 14 #[.pointer (some ⟨o.g, 0, none⟩), .int .i64 1, .int .i64 4, .int .i64 2, .int .i64 3] w' fun e w'' => ∃ v, e = .returned (.tuple #[v, .int .i64 2, .bool true]) ∧ Kd.R (Kd.int .u8) 5 w'' w'.heap.size (fun _ => True) v [97, 98] ∧ Below w'.heap.size w' w'') := ⟨fun o w' h1 => by
    refine (Td.calls o awS w' h1 awS_AllB 1 4 2 3 (by decide) (Nat.le_of_eq awS_len.symm)).mono ?_
    rintro e w'' ⟨v, r, q1, q2, q3, q4⟩
    obtain rfl := awS_yes q4
    exact ⟨v, q1, q2, q3⟩⟩
  have RN : Aside0 (∀ (o : Own) (w' : World), Dk (fun _ => True) 52 w' o awS → Calls Try.prog 14 #[.pointer (some ⟨o.g, 0, none⟩), .int .i64 1, .int .i64 4, .int .i64 2, .int .i64 4] w' fun e w'' => ∃ v, e = .returned (.tuple #[v, .int .i64 0, .bool false]) ∧ Kd.R (Kd.int .u8) 5 w'' w'.heap.size (fun _ => True) v [] ∧ Below w'.heap.size w' w'') := ⟨fun o w' h1 => by
    refine (Td.calls o awS w' h1 awS_AllB 1 4 2 4 (by decide) (Nat.le_of_eq awS_len.symm)).mono ?_
    rintro e w'' ⟨v, r, q1, q2, q3, q4⟩
    obtain rfl := awS_no q4
    exact ⟨v, q1, q2, q3⟩⟩
  have PK : Aside0 (∀ (o : Own) (w' : World), Dk (fun _ => True) 52 w' o awS → Calls Try.prog 20 #[.pointer (some ⟨o.g, 0, none⟩), .int .i64 1] w' fun e w'' => e = .returned (.tuple #[.int .i64 2, .int .i64 3, .bool true]) ∧ Below w'.heap.size w' w'') := ⟨fun o w' h1 => by
    have h2 : awS.now[1]? = some (blkL 2 3 0 1 [97, 98]) := by
      have := awS_at
      rw [List.getD_eq_getElem?_getD, List.getElem?_eq_getElem (by rw [awS_len]; decide)] at this
      rw [List.getElem?_eq_getElem (by rw [awS_len]; decide)]
      exact congrArg some this
    have := Tk.calls o awS w' h1 awS_AllB 1 _ h2
    rw [awS_peek] at this
    exact this⟩
  have NEW : Aside0 (∀ w', Calls Try.prog 7 #[.int .i64 4] w' fun e w'' => ∃ o : Own, e = .returned (.pointer (some ⟨o.g, 0, none⟩)) ∧ Dk (fun _ => True) 52 w'' o (newS 4) ∧ (∀ k, o.has k → w'.heap.size ≤ k) ∧ Below w'.heap.size w' w'') := ⟨fun w' => Dk_New.calls 4 w' (by decide) (by decide)⟩
  have ESTR : strOfNums [97, 98] = (⟨#[97, 98]⟩ : ByteArray) := rfl
  go_enter Try.func6, Try.ntmps6
  go_upto_region 2 with (first | (go_at_call 7; with_reducible refine (NEW.out _).mono ?_; rintro e w1 ⟨o, rfl, hd1, hge1, hb1⟩; have D1 := Aside0.mk hd1; have GE := Aside0.mk hge1; have B1 := Aside0.mk hb1; clear hd1 hge1 hb1))
  have hblk : (w1.alloc (.cells #[.int .u8 97, .int .u8 98] 5 (2, 3))).heap[w1.heap.size]? = some (.cells #[.int .u8 97, .int .u8 98] 5 (2, 3)) := blk_new _ _
  have HROW : Aside0 (Kd.C (Kd.int .u8) (w1.alloc (.cells #[.int .u8 97, .int .u8 98] 5 (2, 3))) (some ⟨w1.heap.size, 0, none⟩) 2 [97, 98]) := ⟨Kd.C_of_reads (d := (0 : Int)) ⟨rfl, by decide, fun _ => ⟨_, rfl, fun j hj => by
    rw [add_plain]
    show (World.cell? (w1.alloc (.cells #[.int .u8 97, .int .u8 98] 5 (2, 3))) _) = _
    unfold World.cell?
    rw [hblk]
    have hj2 : j < 2 := hj
    rcases (by omega : j = 0 ∨ j = 1) with rfl | rfl <;> rfl⟩⟩⟩
  have HAP : Aside0 (∀ ad : Addr, some (⟨w1.heap.size, 0, none⟩ : Addr) = some ad → ¬ o.has ad.block) := ⟨fun ad e h => by
    obtain rfl := Option.some.inj e
    have := D1.out.lt _ h
    exact Nat.lt_irrefl _ this⟩
  have DA := Aside0.mk (D1.out.below ((Below.refl _ _).alloc (Nat.le_refl _) (.cells #[.int .u8 97, .int .u8 98] 5 (2, 3))))
  have KA := Aside0.mk ((Keeps.refl o.has w1).alloc (.cells #[.int .u8 97, .int .u8 98] 5 (2, 3)))
  clear hblk
  have hcl := Lib.run_convert_bytes_const (P := Try.prog) w1 27 5 #[.int .u8 97, .int .u8 98] 2 2 Try.underlying27 Try.underlying5
  go_upto_region 6 with (first | (go_at_call 20; with_reducible refine (PK.out o _ D4.out).mono ?_; rintro e w5 ⟨rfl, hb5⟩; have D5 := Aside0.mk (D4.out.below hb5); have R5 := Aside0.mk (Kd.R_below R4.out hb5); have B5 := Aside0.mk (below_step B4.out hb5); clear hb5) | (go_at_call 14; with_reducible refine (RN.out o _ D3.out).mono ?_; rintro e w4 ⟨v4, rfl, hr4, hb4⟩; obtain ⟨A4, c4, rfl⟩ := Kd.R_slice hr4; have D4 := Aside0.mk (D3.out.below hb4); have R4 := Aside0.mk (Kd.R_below R3.out hb4); have B4 := Aside0.mk (below_step B3.out hb4); clear hb4 hr4) | (go_at_call 14; with_reducible refine (RD.out o _ D2.out).mono ?_; rintro e w3 ⟨v3, rfl, hr3, hb3⟩; obtain ⟨A3, c3, rfl⟩ := Kd.R_slice hr3; have D3 := Aside0.mk (D2.out.below hb3); have R3 := Aside0.mk hr3; have B3 := Aside0.mk (below_step B2.out hb3); clear hb3 hr3) | (go_at_call 8; with_reducible refine (WRT.out o _ _ _ DA.out HROW.out (Nat.le_refl 2) HAP.out).mono ?_; rintro e w2 ⟨rfl, hd2, hk2⟩; have D2 := Aside0.mk hd2; have B2 : Aside0 (Below w.heap.size w w2) := ⟨(KA.out.trans hk2).below GE.out B1.out.size B1.out⟩; clear hd2 hk2))
  have hcv : (convert 27 9 (.slice A3 2 c3)).run Try.prog w5 = .ok (.string (strOfNums [97, 98])) w5 := Kd.C_string (P := Try.prog) (A := A3) (c := c3) Try.underlying27 Try.underlying5 Try.underlying9 (Kd.R_reads' R5.out).2.2
  rw [ESTR] at hcv
  go_wp2_with (first | (go_at_call 17; with_reducible refine (tail_Parts.calls _ _ _ HP1.out).mono ?_; rintro e w6 ⟨rfl, hb6⟩; have B6 := Aside0.mk (below_step B5.out hb6); clear hb6) | (go_at_call 17; with_reducible refine (tail_Parts.calls _ _ _ HP2.out).mono ?_; rintro e w7 ⟨rfl, hb7⟩; have B7 := Aside0.mk (below_step B6.out hb7); clear hb7))
  go_ret
  exact ⟨rfl, B7.out⟩
end
section
/-! ### The document's blocks -/
theorem rnum_l (n : Int) : ∀ (m k : Nat) (x : List Int), m ≤ 8 → m < k → x.length + m < 100100 → chatelaineref24_num.l0 k x n ((m : Int) - 1) = some (x ++ beN m n)
  | 0, k + 1, x, _, _, _ => by
    rw [chatelaineref24_num.l0, if_neg (by omega)]
    simp [beN]
  | m + 1, k + 1, x, hm, hk, hx => by
    have e1 : ((m + 1 : Nat) : Int) - 1 = (m : Int) := by omega
    have w1 : wrap64 (8 * (m : Int)) = ((8 * m : Nat) : Int) := by rw [w64' (by omega) (by omega)]; omega
    have w2 : wrap64 ((m : Int) - 1) = (m : Int) - 1 := w64' (by omega) (by omega)
    have hs : (shr .i64 n ((8 * m : Nat) : Int)) % 256 = n / 256 ^ m % 256 := by
      unfold shr
      rw [Int.toNat_natCast, Nat.min_eq_left (by simp only [IntKind.bits]; omega), Int.pow_mul]
      rfl
    rw [e1, chatelaineref24_num.l0, if_pos (by omega), w1, if_pos (by omega), if_pos (by omega), hs, w2, rnum_l n m k _ (by omega) (by omega) (by rw [List.length_append, List.length_singleton]; omega), beN, List.append_assoc]
    rfl
theorem rnum_f (n : Int) (m k : Nat) (x : List Int) (hm : m ≤ 8) (hk : 10 < k) (hx : x.length < 100000) : chatelaineref24_num.f k x n (m : Int) = some (x ++ beN m n) := by
  unfold chatelaineref24_num.f
  have w2 : wrap64 ((m : Int) - 1) = (m : Int) - 1 := w64' (by omega) (by omega)
  rw [w2, rnum_l n m k x hm (by omega) (by omega)]
theorem rparts_f (n : Nat) (h : n ≤ 1048576) : chatelaineref24_Parts.f (n : Int) = some (prts n : Int) := parts_f n h
def blks (g k : Int) (l : List Int) (n : Nat) : List (List Int) := (List.range n).map fun j : Nat => blkL g k (j : Int) (prts l.length : Int) (partL l j)
theorem blks_len (g k : Int) (l : List Int) (n : Nat) : (blks g k l n).length = n := by unfold blks; rw [List.length_map, List.length_range]
theorem blks_succ (g k : Int) (l : List Int) (n : Nat) : blks g k l (n + 1) = blks g k l n ++ [blkL g k (n : Int) (prts l.length : Int) (partL l n)] := by unfold blks; rw [List.range_succ, List.map_append]; rfl
set_option maxRecDepth 100000 in
theorem blocks_l (g k : Int) (l : List Int) (hl : l.length ≤ 100000) : ∀ (d i r : Nat), i + d = prts l.length → 12 + d < r → chatelaineref24_Blocks.l0 r g k l (prts l.length : Int) (blks g k l i) (i : Int) = some (blks g k l (prts l.length))
  | 0, i, r + 1, hi, _ => by
    obtain rfl : i = prts l.length := by omega
    rw [chatelaineref24_Blocks.l0, if_neg (by omega)]
  | d + 1, i, r + 1, hi, hr => by
    have hp : prts l.length ≤ 300 := by unfold prts; omega
    have h488 : 488 * i ≤ l.length := by unfold prts at hi; omega
    have w1 : wrap64 ((i : Int) * 488) = ((488 * i : Nat) : Int) := by rw [w64' (by omega) (by omega)]; omega
    have w2 : wrap64 ((i : Int) + 1) = ((i + 1 : Nat) : Int) := by rw [w64' (by omega) (by omega)]; omega
    have w3 : wrap64 (((i + 1 : Nat) : Int) * 488) = ((488 * (i + 1) : Nat) : Int) := by rw [w64' (by omega) (by omega)]; omega
    have w4 : mn (l.length : Int) ((488 * (i + 1) : Nat) : Int) = ((min l.length (488 * (i + 1)) : Nat) : Int) := by unfold mn; omega
    have hpl := partL_le l i
    have e1 : (l.take ((min l.length (488 * (i + 1)) : Nat) : Int).toNat).drop ((488 * i : Nat) : Int).toNat = partL l i := by rw [Int.toNat_natCast, Int.toNat_natCast]; rfl
    have b8 : ∀ n, (beN 8 n).length = 8 := beN_len 8
    have b2 : ∀ n, (beN 2 n).length = 2 := beN_len 2
    have n8 : ∀ (x : List Int) (n : Int), x.length < 100000 → chatelaineref24_num.f r x n 8 = some (x ++ beN 8 n) := fun x n hx => rnum_f n 8 r x (by decide) (by omega) hx
    have n2 : ∀ (x : List Int) (n : Int), x.length < 100000 → chatelaineref24_num.f r x n 2 = some (x ++ beN 2 n) := fun x n hx => rnum_f n 2 r x (by decide) (by omega) hx
    have hlen : (beN 8 g ++ beN 8 k ++ beN 2 (i : Int) ++ beN 2 (prts l.length : Int) ++ beN 2 ((partL l i).length : Int) ++ beN 2 0).length = 24 := by simp only [List.length_append, b8, b2]
    have hw : wrap64 (512 - ((beN 8 g ++ beN 8 k ++ beN 2 (i : Int) ++ beN 2 (prts l.length : Int) ++ beN 2 ((partL l i).length : Int) ++ beN 2 0 ++ partL l i).length : Int)) = ((488 - (partL l i).length : Nat) : Int) := by
      rw [List.length_append, hlen, w64' (by omega) (by omega)]; omega
    rw [chatelaineref24_Blocks.l0, if_pos (by omega), w1, w2, w3, w4, if_pos (by omega), if_pos (by omega), if_pos (by omega), e1,
      n8 _ _ (by rw [List.length_nil]; omega), Option.bind_some, List.nil_append, n8 _ _ (by rw [b8]; omega), Option.bind_some, n2 _ _ (by simp only [List.length_append, b8, b2]; omega), Option.bind_some, n2 _ _ (by simp only [List.length_append, b8, b2]; omega), Option.bind_some, n2 _ _ (by simp only [List.length_append, b8, b2]; omega), Option.bind_some, n2 _ _ (by simp only [List.length_append, b8, b2]; omega), Option.bind_some,
      if_pos (by rw [hlen]; omega), Option.bind_some, hw, if_pos (by omega), Int.toNat_natCast, if_pos (by rw [List.length_append, hlen]; omega), if_pos (by rw [blks_len]; omega)]
    have := blocks_l g k l hl d (i + 1) r (by omega) (by omega)
    rw [blks_succ] at this
    exact this
theorem blocks_f (g k : Int) (l : List Int) (hl : l.length ≤ 100000) : chatelaineref24_Blocks.f 400 g k l = some (blks g k l (prts l.length)) := by
  unfold chatelaineref24_Blocks.f
  rw [rparts_f l.length (by omega), Option.bind_some]
  have hp : prts l.length ≤ 300 := by unfold prts; omega
  exact blocks_l g k l hl (prts l.length) 0 400 (by omega) (by omega)
theorem blks_at (g k : Int) (l : List Int) (n j : Nat) (hj : j < n) : (blks g k l n).getD j [] = blkL g k (j : Int) (prts l.length : Int) (partL l j) := by
  unfold blks
  rw [List.getD_eq_getElem?_getD, List.getElem?_map, List.getElem?_range hj]
  rfl
/-! ### whole, and how many are dirty -/
theorem whole_l (ls : List (List Int)) (hl : ls.length ≤ 1000) (h : ∀ l ∈ ls, l.length = 512) : ∀ (d i k : Nat), i + d = ls.length → d < k → chatelainelaw24_whole.l0 k ls (i : Int) = some true
  | 0, i, k + 1, hi, _ => by rw [chatelainelaw24_whole.l0, if_neg (by omega)]
  | d + 1, i, k + 1, hi, hk => by
    have e : rd_L2 ls (i : Int) = ls[i]'(by omega) := by
      unfold rd_L2
      rw [Int.toNat_natCast, List.getD_eq_getElem?_getD, List.getElem?_eq_getElem (by omega)]
      rfl
    have w2 : wrap64 ((i : Int) + 1) = ((i + 1 : Nat) : Int) := by rw [w64' (by omega) (by omega)]; omega
    rw [chatelainelaw24_whole.l0, if_pos (by omega), if_pos (by omega), e, if_pos (by rw [h _ (List.getElem_mem (by omega))]; rfl), w2]
    exact whole_l ls hl h d (i + 1) k (by omega) (by omega)
theorem whole_f (ls : List (List Int)) (hl : ls.length ≤ 1000) (h : ∀ l ∈ ls, l.length = 512) : chatelainelaw24_whole.f 2000 ls = some true := whole_l ls hl h ls.length 0 2000 (by omega) (by omega)
theorem dix_none (D : List Bool) (h : ∀ i, D.getD i false = false) : ∀ n, dix D n = []
  | 0 => rfl
  | n + 1 => by
    have hn := h n
    rw [dix, if_neg, dix_none D h n]
    intro e
    rw [List.getD_eq_getElem?_getD, e] at hn
    cases hn
theorem dix_run (D : List Bool) (a m : Nat) (h : ∀ x, x < D.length → D.getD x false = decide (a ≤ x ∧ x < a + m)) : ∀ n, n ≤ D.length → (dix D n).length = min n (a + m) - min n a
  | 0, _ => by simp [dix]
  | n + 1, hn => by
    have ih := dix_run D a m h n (by omega)
    have hx := h n (by omega)
    have hg : D[n]? = some (D.getD n false) := by rw [List.getD_eq_getElem?_getD, List.getElem?_eq_getElem (by omega)]; rfl
    rw [dix, hg, hx]
    by_cases c : a ≤ n ∧ n < a + m
    · rw [decide_eq_true c, if_pos rfl, List.length_append, List.length_singleton, ih]; omega
    · rw [decide_eq_false c, if_neg (by decide), ih]; omega
theorem newS_fits (n : Nat) : (newS n).dirty.length = (newS n).now.length := by unfold newS; rw [List.length_replicate, List.length_replicate]
theorem newS_dirty (n x : Nat) : (newS n).dirty.getD x false = false := by
  unfold newS
  rw [List.getD_eq_getElem?_getD, List.getElem?_replicate]
  split <;> rfl
theorem lay_dlen (s : DS) (a : Nat) (g k : Int) (m : Nat) (l : List Int) : ∀ j, (s.lay a g k m l j).dirty.length = s.dirty.length
  | 0 => rfl
  | j + 1 => by
    rw [DS.lay]
    unfold DS.write
    split
    · exact lay_dlen s a g k m l j
    · split
      · exact lay_dlen s a g k m l j
      · exact List.length_set.trans (lay_dlen s a g k m l j)
end

end Go.Proofs.Ytkiofhmpeokipaa.PTA
