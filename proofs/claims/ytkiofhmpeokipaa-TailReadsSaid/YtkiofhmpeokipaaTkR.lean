import Derived.Test.YtkiofhmpeokipaaTkD
namespace Go.Proofs.Ytkiofhmpeokipaa.PTA
open Go.RowKit Go.Proofs.YtkiofhmpeokipaaW.PrintWords Go.Proofs.YtkiofhmpeokipaaW.PrintLast Go.Proofs.YtkiofhmpeokipaaW.PrintMore
attribute [local go_sem] max2_int min2_int max_two min_two max_three min_three max_four min_four
set_option linter.unusedVariables false
set_option linter.unusedSimpArgs false
section
theorem row_lt {w : World} {A : Option Addr} {l : List Int} (h : Kd.C (Kd.int .u8) w A l.length l) : ∀ ad, A = some ad → l ≠ [] → ad.block < w.heap.size := by
  intro ad e hne
  obtain ⟨_, _, a3⟩ := Kd.reads_of_C (d := (0 : Int)) h
  have hl : 0 < l.length := List.length_pos_iff.mpr hne
  obtain ⟨ad2, e2, hcl⟩ := a3 hl
  rw [e] at e2
  cases e2
  have := World.block_lt_of_cell? w _ (hcl 0 hl)
  have hbl : (ad.add 0).block = ad.block := by unfold Addr.add; split <;> rfl
  rw [hbl] at this
  exact this
theorem row_at {w : World} {A : Option Addr} {ls : List (List Int)} (h : Kd.C (Kd.slice 5 (Kd.int .u8)) w A ls.length ls) (j : Nat) (hj : j < ls.length) : ∃ ad A0 c0, A = some ad ∧ w.cell? (ad.add j) = some (.slice A0 (ls.getD j []).length c0) ∧ (ls.getD j []).length ≤ c0 ∧ Kd.C (Kd.int .u8) w A0 (ls.getD j []).length (ls.getD j []) := by
  obtain ⟨ad, A0, c0, e, h1, h2, h3⟩ := at_L2 h (j : Int) (by omega) (by omega)
  rw [rdL2] at h1 h2 h3
  rw [Int.toNat_natCast] at h1
  exact ⟨ad, A0, c0, e, h1, h2, h3⟩
/-- What was laid, flushed. -/
structure RowsS (a : Nat) (g : Int) (ls : List (List Int)) (s : DS) : Prop where
  frames : ∀ i, i < ls.length → FrameAt s.now (posR a ls i) g (7 + (i : Int)) (ls.getD i [])
  rest : ∀ x, posR a ls ls.length ≤ x → x < 40 → s.now.getD x [] = zeroL
  bytes : s.AllB
  l40 : s.now.length = 40
theorem RowsS.mk' {a : Nat} {g : Int} {ls : List (List Int)} (h : ∀ k, k < ls.length → (ls.getD k []).length ≤ 1000) (ha : a ≤ 4) (hl : ls.length ≤ 10) (hB : ∀ l ∈ ls, IsB l) (hf : (stR a g ls ls.length).Fits) (X : List Nat) (k n : Nat) : RowsS a g ls (crashL [true] X k (stR a g ls ls.length) n).1 := by
  have R := stR_rows a g h ha hl ls.length (Nat.le_refl _)
  have e := flush_now X k (stR a g ls ls.length) n hf
  have hlen := (Among.crash (P := fun _ _ => True) [true] X k (stR a g ls ls.length) n (fun _ _ => ⟨trivial, trivial⟩)).2
  have B := stR_AllB a g hB ls.length
  refine ⟨fun i hi => (R.frames i hi).of_now e, fun x h1 h2 => (e x).trans (R.rest x h1 h2), ?_, hlen.trans (stR_len _ _ _ _)⟩
  intro l hl
  obtain ⟨i, hi, rfl⟩ := List.getElem_of_mem hl
  have h2 := e i
  rw [List.getD_eq_getElem?_getD, List.getElem?_eq_getElem hi, List.getD_eq_getElem?_getD, List.getElem?_eq_getElem (by omega)] at h2
  have h2 : (crashL [true] X k (stR a g ls ls.length) n).1.now[i] = (stR a g ls ls.length).now[i] := h2
  rw [h2]
  exact B _ (List.getElem_mem _)
theorem stR_count {a : Nat} {g : Int} {ls : List (List Int)} (h : ∀ k, k < ls.length → (ls.getD k []).length ≤ 1000) (ha : a ≤ 4) (hl : ls.length ≤ 10) : (dix (stR a g ls ls.length).dirty (stR a g ls ls.length).now.length).length = posR a ls ls.length - a := by
  have R := stR_rows a g h ha hl ls.length (Nat.le_refl _)
  have hp := posR_le a h ls.length (Nat.le_refl _)
  have hm := posR_mono a ls 0 ls.length (Nat.zero_le _)
  have hm : a ≤ posR a ls ls.length := hm
  rw [stR_len]
  have := dix_run (stR a g ls ls.length).dirty a (posR a ls ls.length - a) (fun x hx => by
    rw [stR_dlen] at hx
    rw [R.dirty x hx]
    congr 1
    apply propext
    omega) 40 (by rw [stR_dlen]; exact Nat.le_refl _)
  rw [this]
  omega
theorem rows_len (ls : List (List Int)) (hB : ∀ l ∈ ls, IsB l) (j : Nat) : IsB (ls.getD j []) := by
  rw [List.getD_eq_getElem?_getD]
  cases e : ls[j]? with
  | none => intro x hx; cases hx
  | some l => exact hB l (List.mem_of_getElem? e)
set_option maxHeartbeats 8000000 in
set_option maxRecDepth 100000 in
theorem LRgreat.calls (w : World) (g a : Int) (A : Option Addr) (n c : Nat) (hh : 10 < n) :
    Calls Try.prog 4 #[.slice A n c, .int .i64 g, .int .i64 a] w fun e w' => e = .returned (.bool true) ∧ Below w.heap.size w w' := by
  have d1 : decide (10 < (n : Int)) = true := decide_eq_true (by omega)
  have d2 : decide (10 < n) = true := decide_eq_true (by omega)
  clear hh
  go_enter Try.func4, Try.ntmps4
  go_wp2_with (first | (go_at_call 6; (with_reducible refine (Ak.calls _).mono ?_); rintro e w2 ⟨rfl, hb2⟩))
  go_ret
  exact ⟨rfl, hb2⟩
set_option maxHeartbeats 8000000 in
set_option maxRecDepth 100000 in
theorem LRows.calls (w : World) (gen at_ : Int) (A : Option Addr) (c : Nat) (ls : List (List Int)) (hC : Kd.C (Kd.slice 5 (Kd.int .u8)) w A ls.length ls) (hl : ls.length ≤ 10) (hIB : ∀ l ∈ ls, IsB l) :
    Calls Try.prog 4 #[.slice A ls.length c, .int .i64 gen, .int .i64 at_] w fun e w' => e = .returned (.bool true) ∧ Below w.heap.size w w' := by
  have d1 : decide (10 < (ls.length : Int)) = false := decide_eq_false (by omega)
  have d2 : decide (10 < ls.length) = false := decide_eq_false (by omega)
  have NEW : Aside0 (∀ w', Calls Try.prog 7 #[.int .i64 40] w' fun e w'' => ∃ o : Own, e = .returned (.pointer (some ⟨o.g, 0, none⟩)) ∧ Dk (fun _ => True) 52 w'' o (newS 40) ∧ (∀ k, o.has k → w'.heap.size ≤ k) ∧ Below w'.heap.size w' w'') := ⟨fun w' => Dk_New.calls 40 w' (by decide) (by decide)⟩
  obtain ⟨r, hr, hlow1⟩ := low_f gen 1000 (by decide) (by decide)
  obtain ⟨a, ha, hlow2⟩ := low_f at_ 5 (by decide) (by decide)
  have HLOW1 : Aside0 (chatelainelaw0_Low.f gen 1000 = some (r : Int)) := ⟨hlow1⟩
  have HLOW2 : Aside0 (chatelainelaw0_Low.f at_ 5 = some (a : Int)) := ⟨hlow2⟩
  have HC := Aside0.mk hC
  have HL := Aside0.mk hl
  have HIB := Aside0.mk hIB
  have HRA := Aside0.mk (And.intro hr ha)
  clear hC hIB hlow1 hlow2
  go_enter Try.func4, Try.ntmps4
  go_wp2_with (first | (go_at_call 7; (with_reducible refine (NEW.out _).mono ?_); rintro e w1 ⟨o, rfl, hd1, hge1, hb1⟩; have D1 := Aside0.mk hd1; have GE : Aside0 (∀ k, o.has k → w.heap.size ≤ k) := ⟨fun k hk => by have := hge1 k hk; have := B0.out.size; omega⟩; have B1 := Aside0.mk (below_step B0.out hb1); clear hd1 hge1 hb1) | (go_at_call 9; (with_reducible refine (chatelainelaw0_Low.calls _ _ _ _ HLOW2.out).mono ?_); rintro e w3 ⟨rfl, hd3⟩; have hb3 := hd3.below; have B0 := Aside0.mk (below_step BL.out hb3); clear hd3 hb3) | (go_at_call 9; (with_reducible refine (chatelainelaw0_Low.calls _ _ _ _ HLOW1.out).mono ?_); rintro e w2 ⟨rfl, hd2⟩; have hb2 := hd2.below; have BL := Aside0.mk hb2; clear hd2 hb2))
  go_loopg [8, 9, 10] ls.length (fun kq v8 v9 v10 w' => ∃ p q j : Nat, v8 = .int .i64 (p : Int) ∧ v9 = .int .i64 (q : Int) ∧ v10 = .int .i64 (j : Int) ∧ Aside0 (j + kq = ls.length ∧ p = posR a ls j ∧ p = a + q ∧ ∀ k, k < j → (ls.getD k []).length ≤ 1000) ∧ Aside0 (Dk (fun _ => True) 52 w' o (stR a (1 + (r : Int)) ls j)) ∧ Aside0 (Below w.heap.size w w'))
  case atStart => exact ⟨a, 0, 0, rfl, rfl, rfl, ⟨by omega, rfl, by omega, fun k hk => absurd hk (by omega)⟩, D1, B1⟩
  case round =>
    clear D1 B1
    obtain ⟨p, q, j, rfl, rfl, rfl, HJ, D1, B1⟩ := hrel
    by_cases cj : j < ls.length
    · have z1 : decide ((j : Int) < (ls.length : Int)) = true := decide_eq_true (by omega)
      have z1' : decide (j < ls.length) = true := decide_eq_true cj
      have z2 : ((j : Int) < (ls.length : Int)) = True := eq_true (by omega)
      have z3 : (0 ≤ (j : Int)) = True := eq_true (by omega)
      cases gk with
      | zero => have := HJ.out.1; omega
      | succ k1 =>
        obtain ⟨ad, A0, c0, rfl, hx, hl0, hc0⟩ := row_at HC.out j cj
        obtain ⟨l, hll⟩ : ∃ l, l = ls.getD j [] := ⟨_, rfl⟩
        rw [← hll] at hx hl0 hc0
        have HC0 := Aside0.mk hc0
        have HL0 := Aside0.mk hl0
        have HLL := Aside0.mk hll
        have HLB : Aside0 (IsB l) := ⟨by rw [hll]; exact rows_len ls HIB.out j⟩
        clear hl0 hc0 hll
        have HX := Aside0.mk hx
        replace hx := pw_cell_below B1.out hx
        by_cases cl : 1000 < l.length
        · have y1 : decide (1000 < (l.length : Int)) = true := decide_eq_true (by omega)
          have y2 : decide (1000 < l.length) = true := decide_eq_true cl
          go_wp2_with (first | (go_at_call 6; (with_reducible refine (Ak.calls _).mono ?_); rintro e w9 ⟨rfl, hb9⟩; have B9 := Aside0.mk (below_step B1.out hb9); clear hb9))
          go_ret
          exact ⟨rfl, B9.out⟩
        · have y1 : decide (1000 < (l.length : Int)) = false := decide_eq_false (by omega)
          have y2 : decide (1000 < l.length) = false := decide_eq_false cl
          have HCL : Aside0 (l.length ≤ 1000) := ⟨by omega⟩
          obtain ⟨m, hm⟩ : ∃ m, m = prts l.length := ⟨_, rfl⟩
          have hm1 : 1 ≤ m ∧ m ≤ 3 := by rw [hm]; unfold prts; omega
          have HP : Aside0 (p ≤ 34 ∧ p + m ≤ 40) := ⟨by
            have h1 := posR_le a (ls := ls) (N := j) HJ.out.2.2.2 j (Nat.le_refl _)
            have h2 := HJ.out.2.1
            have h3 := HL.out
            have h4 := HRA.out.2
            omega⟩
          have HM := Aside0.mk hm
          clear hm
          have WRT : Aside0 (∀ w', Dk (fun _ => True) 52 w' o (stR a (1 + (r : Int)) ls j) → Below w.heap.size w w' → Calls Try.prog 8 #[.pointer (some ⟨o.g, 0, none⟩), .int .i64 (p : Int), .int .i64 40, .int .i64 (1 + (r : Int)), .int .i64 (7 + (j : Int)), .slice A0 l.length c0] w' fun e w'' => e = .returned (.tuple #[.int .i64 ((p : Int) + (m : Int)), .nilIface]) ∧ Dk (fun _ => True) 52 w'' o (stR a (1 + (r : Int)) ls (j + 1)) ∧ Keeps o.has w' w'') := ⟨fun w' h1 h2 => by
            have hpm : p + prts l.length ≤ 40 := by rw [← HM.out]; exact HP.out.2
            have := Tw_Ok.calls o (stR a (1 + (r : Int)) ls j) w' h1 p 40 (1 + (r : Int)) (7 + (j : Int)) A0 c0 l (Kd.C_below HC0.out h2) HL0.out (by have := HCL.out; omega) (fun ad e hne hh => by have := row_lt HC0.out ad e hne; have := GE.out _ hh; omega) hpm (Nat.le_of_eq (stR_len _ _ _ _).symm) (by omega) (by omega)
            rw [← HM.out, Int.natCast_add] at this
            rw [stR, ← HLL.out, ← HM.out, ← HJ.out.2.1]
            exact this⟩
          have PRT : Aside0 (∀ w', Calls Try.prog 17 #[.int .i64 (l.length : Int)] w' fun e w'' => e = .returned (.int .i64 (m : Int)) ∧ Below w'.heap.size w' w'') := ⟨fun w' => tail_Parts.calls _ _ w' (by rw [parts_f l.length (by have := HCL.out; omega), HM.out])⟩
          have HCJ := Aside0.mk cj
          obtain ⟨hp1, hp2⟩ := HP.out
          have hq1 : q ≤ 34 := by have := HJ.out.2.2.1; omega
          have hj1 : j < 10 := by have := HL.out; omega
          have x1 : decide ((p : Int) + (m : Int) ≤ (p : Int)) = false := decide_eq_false (by omega)
          have x2 : decide ((m : Int) ≤ 0) = false := decide_eq_false (by omega)
          have x3 : decide (m ≤ 0) = false := decide_eq_false (by omega)
          have x4 : IntKind.i64.wrap ((p : Int) + (m : Int)) = (p : Int) + (m : Int) := (i64_w _).trans (w64' (by omega) (by omega))
          go_wp2_with (first | (go_at_call 17; (with_reducible refine (PRT.out _).mono ?_); rintro e w3 ⟨rfl, hb3⟩; have D3 := Aside0.mk (D2.out.below hb3); have B3 := Aside0.mk (below_step B2.out hb3); clear hb3) | (go_at_call 8; (with_reducible refine (WRT.out _ D1.out B1.out).mono ?_); rintro e w2 ⟨rfl, hd2, hk2⟩; have D2 := Aside0.mk hd2; have B2 : Aside0 (Below w.heap.size w w2) := ⟨hk2.below GE.out B1.out.size B1.out⟩; have hy2 := pw_cell_below B2.out HX.out; clear hd2 hk2))
          go_roundg k1
          case measure => omega
          case rel => exact ⟨p + m, q + m, j + 1, (by first | rfl | (simp; done) | (simp [*]; done)), (by
            first | rfl | (simp; done) | (congr 1; omega)), (by
            have hw : wrap64 ((j : Int) + 1) = ((j + 1 : Nat) : Int) := by unfold wrap64; omega
            first | rfl | (rw [← hw]; rfl) | (simp [*]; done)), ⟨by have := HJ.out.1; omega, (by rw [posR, ← HLL.out, ← HM.out, ← HJ.out.2.1]), by have := HJ.out.2.2.1; omega, fun k hk => by
              by_cases e : k = j
              · subst e; rw [← HLL.out]; exact HCL.out
              · exact HJ.out.2.2.2 k (by omega)⟩, D3, B3⟩
    · have z1 : decide ((j : Int) < (ls.length : Int)) = false := decide_eq_false (by omega)
      have z1' : decide (j < ls.length) = false := decide_eq_false cj
      obtain rfl : j = ls.length := by have := HJ.out.1; omega
      clear cj
      have HLS : Aside0 (∀ k, k < ls.length → (ls.getD k []).length ≤ 1000) := ⟨HJ.out.2.2.2⟩
      have HPQ : Aside0 (p = posR a ls ls.length ∧ p = a + q) := ⟨HJ.out.2.1, HJ.out.2.2.1⟩
      have HP : Aside0 (p ≤ 34) := ⟨by
        have h1 := posR_le a (ls := ls) HLS.out ls.length (Nat.le_refl _)
        have h2 := HPQ.out.1
        have h3 := HL.out
        have h4 := HRA.out.2
        omega⟩
      have DRT : Aside0 (∀ w', Dk (fun _ => True) 52 w' o (stR a (1 + (r : Int)) ls ls.length) → Calls Try.prog 18 #[.pointer (some ⟨o.g, 0, none⟩)] w' fun e w'' => ∃ A c, e = .returned (.slice A q c) ∧ Below w'.heap.size w' w'') := ⟨fun w' h => by
        refine (Dk_Dirty.calls o _ w' h).mono ?_
        rintro e w'' ⟨v, q1, q2, q3⟩
        obtain ⟨A, c, rfl⟩ := Kd.R_slice q2
        refine ⟨A, c, ?_, q3⟩
        rw [q1]
        have := stR_count (a := a) (g := 1 + (r : Int)) HLS.out (by have := HRA.out.2; omega) HL.out
        have e2 : (dix (stR a (1 + (r : Int)) ls ls.length).dirty (stR a (1 + (r : Int)) ls ls.length).now.length).length = q := by rw [this]; have := HPQ.out; omega
        unfold ints
        rw [List.length_map, e2]⟩
      obtain ⟨s2, hs2⟩ : ∃ s, (crashL [true] (dix (stR a (1 + (r : Int)) ls ls.length).dirty (stR a (1 + (r : Int)) ls ls.length).now.length) 0 (stR a (1 + (r : Int)) ls ls.length) 0).1 = s := ⟨_, rfl⟩
      have RS : Aside0 (RowsS a (1 + (r : Int)) ls s2) := ⟨by rw [← hs2]; exact RowsS.mk' HLS.out (by have := HRA.out.2; omega) HL.out HIB.out D1.out.fits _ _ _⟩
      have CRS : Aside0 (∀ w', Dk (fun _ => True) 52 w' o (stR a (1 + (r : Int)) ls ls.length) → Below w.heap.size w w' → Calls Try.prog 19 #[.pointer (some ⟨o.g, 0, none⟩), .slice (some ⟨w'.heap.size, 0, none⟩) 1 1] (w'.alloc (.cells #[.bool true] 4 (0, 0))) fun e w'' => ∃ n, e = .returned (.int .i64 n) ∧ Dk (fun _ => True) 52 w'' o s2 ∧ Below w.heap.size w w'') := ⟨fun w' h h1 => by
        have hb : Below w'.heap.size w' (w'.alloc (.cells #[.bool true] 4 (0, 0))) := (Below.refl _ _).alloc (Nat.le_refl _) _
        have hk : Kd.C Kd.bool (w'.alloc (.cells #[.bool true] 4 (0, 0))) (some ⟨w'.heap.size, 0, none⟩) ([true] : List Bool).length [true] := Kd.C_of_reads (d := false) ⟨rfl, by decide, fun _ => ⟨_, rfl, fun j hj => by
          have : j = 0 := by have : ([true] : List Bool).length = 1 := rfl; omega
          subst this
          exact (blk_cell (blk_new _ _) 0).trans rfl⟩⟩
        have h2 := below_step h1 hb
        refine (Dk_Crash.calls o _ _ (h.below hb) (some ⟨w'.heap.size, 0, none⟩) 1 [true] hk (by decide) (fun ad e _ ho => by
          obtain rfl := Option.some.inj e
          have := h.lt _ ho
          exact absurd this (Nat.lt_irrefl _))).mono ?_
        rintro e w'' ⟨q1, q2, q3⟩
        rw [hs2] at q2
        exact ⟨_, q1, q2, q3.below GE.out h2.size h2⟩⟩
      clear hs2
      go_wp2_with (first | (go_at_call 19; (with_reducible refine (CRS.out _ D2.out B2.out).mono ?_); rintro e w3 ⟨n3, rfl, hd3, hb3⟩; have D3 := Aside0.mk hd3; have B3 := Aside0.mk hb3; clear hd3 hb3) | (go_at_call 18; (with_reducible refine (DRT.out _ D1.out).mono ?_); rintro e w2 ⟨A2, c2, rfl, hb2⟩; have D2 := Aside0.mk (D1.out.below hb2); have B2 := Aside0.mk (below_step B1.out hb2); clear hb2))
      go_loopg [2, 13] ls.length (fun kq v2 v13 w' => ∃ p' j : Nat, v2 = .int .i64 (p' : Int) ∧ v13 = .int .i64 (j : Int) ∧ Aside0 (j + kq = ls.length ∧ p' = posR a ls j) ∧ Aside0 (Dk (fun _ => True) 52 w' o s2) ∧ Aside0 (Below w.heap.size w w'))
      case atStart => exact ⟨a, 0, rfl, rfl, ⟨by omega, rfl⟩, D3, B3⟩
      case round =>
        clear D2 B2 D3 B3 D1 B1
        obtain ⟨p', j, rfl, rfl, HJ2, D4, B4⟩ := hrel
        have hp40 := HP.out
        by_cases cj : j < ls.length
        · have z1 : decide ((j : Int) < (ls.length : Int)) = true := decide_eq_true (by omega)
          have z1' : decide (j < ls.length) = true := decide_eq_true cj
          have z2 : ((j : Int) < (ls.length : Int)) = True := eq_true (by omega)
          have z3 : (0 ≤ (j : Int)) = True := eq_true (by omega)
          cases gk with
          | zero => have := HJ2.out.1; omega
          | succ k1 =>
            obtain ⟨ad, A0, c0, rfl, hx, hl0, hc0⟩ := row_at HC.out j cj
            obtain ⟨l, hll⟩ : ∃ l, l = ls.getD j [] := ⟨_, rfl⟩
            rw [← hll] at hx hl0 hc0
            have HX := Aside0.mk hx
            have HC0 := Aside0.mk hc0
            have HL0 := Aside0.mk hl0
            have HLL := Aside0.mk hll
            have HCL : Aside0 (l.length ≤ 1000) := ⟨by rw [hll]; exact HLS.out j cj⟩
            obtain ⟨m, hm⟩ : ∃ m, m = prts l.length := ⟨_, rfl⟩
            have hm1 : 1 ≤ m ∧ m ≤ 3 := by have := HCL.out; rw [hm]; unfold prts; omega
            have HPP : Aside0 (p' + m ≤ p) := ⟨by
              have h1 := posR_mono a ls (j + 1) ls.length (by omega)
              rw [posR, ← HJ2.out.2, ← hll, ← hm, ← HPQ.out.1] at h1
              exact h1⟩
            have FR : Aside0 (FrameAt s2.now p' (1 + (r : Int)) (7 + (j : Int)) l) := ⟨by
              have := RS.out.frames j cj
              rw [← hll, ← HJ2.out.2] at this
              exact this⟩
            have HM := Aside0.mk hm
            have HCJ := Aside0.mk cj
            have hj1 : j < 10 := by have := HL.out; omega
            clear hx hl0 hc0 hll hm
            obtain ⟨lb, hlb⟩ : ∃ lb, s2.now[p']? = some lb := ⟨_, List.getElem?_eq_getElem (by rw [RS.out.l40]; have := HPP.out; omega)⟩
            have HLBB := Aside0.mk hlb
            clear hlb
            have BKN : Aside0 (BkN (1 + (r : Int)) (7 + (j : Int)) 0 (m : Int) (partL l 0).length) := ⟨by
              have := part_BkN (g := 1 + (r : Int)) (k := 7 + (j : Int)) (l := l) (by have := HCL.out; omega) (by omega) (by omega) (by omega) (by omega) (prts_pos l.length)
              rw [← HM.out] at this
              exact this⟩
            have PKB : Aside0 (∀ w', Dk (fun _ => True) 52 w' o s2 → Calls Try.prog 20 #[.pointer (some ⟨o.g, 0, none⟩), .int .i64 (p' : Int)] w' fun e w'' => e = .returned (.tuple #[.int .i64 (1 + (r : Int)), .int .i64 (7 + (j : Int)), .bool true]) ∧ Below w'.heap.size w' w'') := ⟨fun w' h => by
              have e : lb = blkL (1 + (r : Int)) (7 + (j : Int)) 0 (m : Int) (partL l 0) := by
                have h0 := FR.out 0 (prts_pos _)
                rw [Nat.add_zero, List.getD_eq_getElem?_getD, HLBB.out, ← HM.out] at h0
                exact h0
              have := Tk.calls o s2 w' h RS.out.bytes p' lb HLBB.out
              have ep : peekF lb = (1 + (r : Int), 7 + (j : Int), true) := by
                rw [e]
                unfold peekF
                rw [if_pos ⟨blk_ok BKN.out, blk_W0 BKN.out⟩, blk_G BKN.out, blk_N BKN.out]
              rw [ep] at this
              exact this⟩
            have RDB : Aside0 (∀ w', Dk (fun _ => True) 52 w' o s2 → Calls Try.prog 14 #[.pointer (some ⟨o.g, 0, none⟩), .int .i64 (p' : Int), .int .i64 (p : Int), .int .i64 (1 + (r : Int)), .int .i64 (7 + (j : Int))] w' fun e w'' => ∃ A c, e = .returned (.tuple #[.slice A l.length c, .int .i64 ((p' : Int) + (m : Int)), .bool true]) ∧ Kd.R (Kd.int .u8) 5 w'' w'.heap.size (fun _ => True) (.slice A l.length c) l ∧ Below w'.heap.size w' w'') := ⟨fun w' h => by
              have h5 := HPP.out
              refine (Td.calls o s2 w' h RS.out.bytes p' p (1 + (r : Int)) (7 + (j : Int)) (by omega) (by rw [RS.out.l40]; omega)).mono ?_
              rintro e w'' ⟨v, r', q1, q2, q3, q4⟩
              obtain rfl := FR.out.read (by have := HCL.out; omega) (by omega) (by omega) (by omega) (by omega) (by rw [← HM.out]; exact h5) q4
              obtain ⟨A, c, rfl⟩ := Kd.R_slice q2
              refine ⟨A, c, ?_, q2, q3⟩
              rw [HM.out]
              exact q1⟩
            have SBB : Aside0 (∀ (w' : World) (A' : Option Addr) (c' : Nat), Kd.C (Kd.int .u8) w' A' l.length l → l.length ≤ c' → Below w.heap.size w w' → Calls Try.prog 16 #[.slice A' l.length c', .slice A0 l.length c0] w' fun e w'' => e = .returned (.bool true) ∧ Below w'.heap.size w' w'') := ⟨fun w' A' c' h1 h2 h3 => by
              have := Sb.calls A' c' l A0 c0 l w' h1 h2 (Kd.C_below HC0.out h3) HL0.out (by have := HCL.out; omega)
              rw [decide_eq_true (rfl : l = l)] at this
              exact this⟩
            have x1 : decide ((p' : Int) + (m : Int) ≤ (p' : Int)) = false := decide_eq_false (by omega)
            have x2 : decide ((m : Int) ≤ 0) = false := decide_eq_false (by omega)
            have x3 : decide (m ≤ 0) = false := decide_eq_false (by omega)
            go_wp2_with (first | (go_at_call 16; (with_reducible refine (SBB.out _ _ _ (Kd.R_reads' R6.out).2.2 (Kd.R_reads' R6.out).2.1 B6.out).mono ?_); rintro e w7 ⟨rfl, hb7⟩; have D7 := Aside0.mk (D6.out.below hb7); have B7 := Aside0.mk (below_step B6.out hb7); clear hb7) | (go_at_call 14; (with_reducible refine (RDB.out _ D5.out).mono ?_); rintro e w6 ⟨A6, c6, rfl, hr6, hb6⟩; have D6 := Aside0.mk (D5.out.below hb6); have R6 := Aside0.mk hr6; have B6 := Aside0.mk (below_step B5.out hb6); have hy6 := pw_cell_below B6.out HX.out; clear hr6 hb6) | (go_at_call 20; (with_reducible refine (PKB.out _ D4.out).mono ?_); rintro e w5 ⟨rfl, hb5⟩; have D5 := Aside0.mk (D4.out.below hb5); have B5 := Aside0.mk (below_step B4.out hb5); clear hb5))
            go_roundg k1
            case measure => omega
            case rel => exact ⟨p' + m, j + 1, (by first | rfl | (simp; done) | (simp [*]; done)), (by
              have hw : wrap64 ((j : Int) + 1) = ((j + 1 : Nat) : Int) := by unfold wrap64; omega
              first | rfl | (rw [← hw]; rfl) | (simp [*]; done)), ⟨by have := HJ2.out.1; omega, (by rw [posR, ← HLL.out, ← HM.out, ← HJ2.out.2])⟩, D7, B7⟩
        · have z1 : decide ((j : Int) < (ls.length : Int)) = false := decide_eq_false (by omega)
          have z1' : decide (j < ls.length) = false := decide_eq_false cj
          obtain rfl : j = ls.length := by have := HJ2.out.1; omega
          obtain rfl : p' = p := HJ2.out.2.trans HPQ.out.1.symm
          clear cj
          obtain ⟨lb, hlb⟩ : ∃ lb, s2.now[p']? = some lb := ⟨_, List.getElem?_eq_getElem (by rw [RS.out.l40]; omega)⟩
          have PKZ : Aside0 (∀ w', Dk (fun _ => True) 52 w' o s2 → Calls Try.prog 20 #[.pointer (some ⟨o.g, 0, none⟩), .int .i64 (p' : Int)] w' fun e w'' => e = .returned (.tuple #[.int .i64 0, .int .i64 0, .bool false]) ∧ Below w'.heap.size w' w'') := ⟨fun w' h => by
            have := Tk.calls o s2 w' h RS.out.bytes p' lb hlb
            have e := RS.out.rest p' (Nat.le_of_eq HPQ.out.1.symm) (by omega)
            rw [List.getD_eq_getElem?_getD, hlb] at e
            have e : lb = zeroL := e
            rw [e, zero_peek] at this
            exact this⟩
          go_wp2_with (first | (go_at_call 6; (with_reducible refine (Ak.calls _).mono ?_); rintro e w9 ⟨rfl, hb9⟩; have B9 := Aside0.mk (below_step B5.out hb9); clear hb9) | (go_at_call 20; (with_reducible refine (PKZ.out _ D4.out).mono ?_); rintro e w5 ⟨rfl, hb5⟩; have D5 := Aside0.mk (D4.out.below hb5); have B5 := Aside0.mk (below_step B4.out hb5); clear hb5))
          go_ret
          exact ⟨rfl, B9.out⟩
end

end Go.Proofs.Ytkiofhmpeokipaa.PTA
