import Derived.Test.YtkiofhmpeokipaaDoorTkK
namespace Go.Proofs.YtkiofhmpeokipaaDoor.PTA
open Go.RowKit Go.Proofs.YtkiofhmpeokipaaDoorW.PrintWords Go.Proofs.YtkiofhmpeokipaaDoorW.PrintLast Go.Proofs.YtkiofhmpeokipaaDoorW.PrintMore
attribute [local go_sem] max2_int min2_int max_two min_two max_three min_three max_four min_four
set_option linter.unusedVariables false
set_option linter.unusedSimpArgs false
section
/-- A disk with a small frame in each of the blocks so far, number i + 1 in block i. -/
def fillS (l : List Int) : Nat → DS
  | 0 => newS 12
  | j + 1 => (fillS l j).lay j 1 ((j : Int) + 1) 1 l 1
theorem fillS_len (l : List Int) : ∀ j, (fillS l j).now.length = 12
  | 0 => newS_len 12
  | j + 1 => (DS.lay_len _ _ _ _ _ _ _).trans (fillS_len l j)
theorem fillS_AllB {l : List Int} (h : IsB l) : ∀ j, (fillS l j).AllB
  | 0 => newS_AllB 12
  | j + 1 => DS.lay_AllB (fillS_AllB h j) _ _ _ _ h _
theorem prts_1 (n : Nat) (h : n ≤ 400) : prts n = 1 := by unfold prts; omega
theorem fillS_now {l : List Int} (hl : l.length ≤ 400) : ∀ j, j ≤ 12 → ∀ x, (fillS l j).now.getD x [] = if x < j then blkL 1 ((x : Int) + 1) 0 1 (partL l 0) else (newS 12).now.getD x []
  | 0, _, x => by rw [if_neg (by omega)]; rfl
  | j + 1, hj, x => by
    have h := lay_now (fillS l j) j 1 ((j : Int) + 1) 1 l (by rw [fillS_len]; omega) 1 (Nat.le_refl _) x
    rw [fillS, h, fillS_now hl j (by omega) x]
    by_cases e : x = j
    · subst e
      rw [if_pos (by omega), if_pos (by omega), Nat.sub_self]
      rfl
    · rw [if_neg (by omega)]
      by_cases c : x < j
      · rw [if_pos c, if_pos (by omega)]
      · rw [if_neg c, if_neg (by omega)]
theorem fill_N {l : List Int} (hl : l.length ≤ 400) (x : Nat) (hx : x < 12) : BkN 1 ((x : Int) + 1) 0 1 (partL l 0).length := by
  have := partL_len l 0
  exact ⟨by decide, by decide, by omega, by omega, by decide, by decide, by decide, partL_le l 0, by omega⟩
/-- Of zeros nothing is read. -/
theorem bv_zeros : ∀ n, bv (List.replicate n 0) = 0
  | 0 => rfl
  | n + 1 => by rw [List.replicate_succ, bv, bv_zeros n]; simp
theorem zero_ok : hOk zeroL = false := by
  have e : hG zeroL = 0 := by
    unfold hG zeroL
    rw [List.take_replicate, bv_zeros]
    exact w64' (by decide) (by decide)
  unfold hOk
  rw [e]
  exact ok_G _ _ _ _ _ _ (by decide)
theorem zeros_now (s : DS) (a : Nat) : ∀ j, a + j ≤ s.now.length → ∀ x, (s.zeros a j).now.getD x [] = if a ≤ x ∧ x < a + j then zeroL else s.now.getD x []
  | 0, _, x => by rw [if_neg (by omega)]; rfl
  | j + 1, hj, x => by
    have hlen := s.zeros_len a j
    have ih := zeros_now s a j (by omega) x
    rw [DS.zeros, DS.write, if_neg (by omega), if_neg (by rw [zeroL_len]; omega), Int.toNat_natCast]
    show ((s.zeros a j).now.set (a + j) zeroL).getD x [] = _
    rw [List.getD_eq_getElem?_getD, List.getElem?_set]
    by_cases e : a + j = x
    · subst e
      rw [if_pos rfl, if_pos (by omega), if_pos (by omega)]
      rfl
    · rw [if_neg e, ← List.getD_eq_getElem?_getD, ih]
      by_cases c : a ≤ x ∧ x < a + j
      · rw [if_pos c, if_pos (by omega)]
      · rw [if_neg c, if_neg (by omega)]
/-- What is left when some blocks are cleared. -/
structure Cleared (l : List Int) (g : Nat → Bool) (s : DS) : Prop where
  bytes : s.AllB
  l12 : s.now.length = 12
  now : ∀ x, x < 12 → s.now.getD x [] = if g x = true then zeroL else blkL 1 ((x : Int) + 1) 0 1 (partL l 0)
theorem Cleared.no {l : List Int} {g : Nat → Bool} {s : DS} (hl : l.length ≤ 400) (h : Cleared l g s) (x : Nat) (hx : x < 12) (b : Nat) (hb : x < b) {r : Option (List Int)} (hr : RdIs s.now x b 1 ((x : Int) + 1) r) : r.isSome = !g x := by
  have e := h.now x hx
  cases hg : g x with
  | true =>
    rw [if_pos hg] at e
    cases r with
    | none => rfl
    | some out =>
      obtain ⟨n, h1, rfl⟩ := hr
      have h2 := h1.2.2 0 h1.1
      rw [Nat.add_zero, e] at h2
      unfold gdB at h2
      rw [zero_ok] at h2
      simp at h2
  | false =>
    rw [hg, if_neg (by decide)] at e
    cases r with
    | some out => rfl
    | none =>
      refine absurd ?_ (hr 1)
      refine ⟨Nat.le_refl _, by omega, fun j hj => ?_⟩
      obtain rfl : j = 0 := by omega
      rw [Nat.add_zero, e]
      exact blk_gd (fill_N hl x hx)
theorem Cleared.peek {l : List Int} {g : Nat → Bool} {s : DS} (hl : l.length ≤ 400) (h : Cleared l g s) (x : Nat) (hx : x < 12) {b : List Int} (hb : s.now[x]? = some b) : (peekF b).2.2 = !g x := by
  have e := h.now x hx
  rw [List.getD_eq_getElem?_getD, hb] at e
  have e : b = _ := e
  subst e
  cases hg : g x with
  | true =>
    rw [if_pos rfl]
    unfold peekF
    rw [if_neg (by rw [zero_ok]; decide)]
    rfl
  | false =>
    rw [if_neg (by decide)]
    unfold peekF
    rw [if_pos ⟨blk_ok (fill_N hl x hx), blk_W0 (fill_N hl x hx)⟩]
    rfl
theorem row_lt {w : World} {A : Option Addr} {l : List Int} (h : Kd.C (Kd.int .u8) w A l.length l) : ∀ ad, A = some ad → l ≠ [] → ad.block < w.heap.size := by
  intro ad e hne
  obtain ⟨_, _, a3⟩ := Kd.reads_of_C (d := (0 : Int)) h
  have hl : 0 < l.length := List.length_pos_iff.mpr hne
  obtain ⟨ad2, e2, hcl⟩ := a3 hl
  rw [e] at e2
  cases e2
  have := World.block_lt_of_cell? w _ (hcl 0 hl)
  have hbl : (ad.add 0).block = ad.block := by unfold Addr.add; split <;> rfl
  rw [hbl] at this
  exact this
set_option maxHeartbeats 8000000 in
set_option maxRecDepth 100000 in
theorem LCgreat.calls (w : World) (a b : Int) (A : Option Addr) (c : Nat) (l : List Int) (hl : 400 < l.length) :
    Calls Tryd.prog 4 #[.int .i64 a, .int .i64 b, .slice A l.length c] w fun e w' => e = .returned (.bool true) ∧ Below w.heap.size w w' := by
  have d1 : decide (400 < (l.length : Int)) = true := decide_eq_true (by omega)
  have d2 : decide (400 < l.length) = true := decide_eq_true hl
  clear hl
  go_enter Tryd.func4, Tryd.ntmps4
  go_wp2_with (first | (go_at_call 5; (with_reducible refine (Ak.calls _).mono ?_); rintro e w2 ⟨rfl, hb2⟩))
  go_ret
  exact ⟨rfl, hb2⟩
set_option maxHeartbeats 8000000 in
set_option maxRecDepth 100000 in
theorem LCyes.calls (w : World) (hg_ : w.cell? ⟨0, 0, none⟩ = some (.iface 93 (.agg #[.pointer (some ⟨1, 28, none⟩)]))) (a b d : Nat) (hd : ((a + d : Nat) : Int) = (b : Int)) (hb12 : b ≤ 12) (hmay : a ≤ b) (A : Option Addr) (c : Nat) (l : List Int) (hC : Kd.C (Kd.int .u8) w A l.length l) (hc : l.length ≤ c) (hl : l.length ≤ 400) (hIB : IsB l) :
    Calls Tryd.prog 4 #[.int .i64 (a : Int), .int .i64 (b : Int), .slice A l.length c] w fun e w' => e = .returned (.bool true) ∧ Below w.heap.size w w' := by
  have d1 : decide (400 < (l.length : Int)) = false := decide_eq_false (by omega)
  have d2 : decide (400 < l.length) = false := decide_eq_false (by omega)
  have NEW : Aside0 (∀ w', Calls Tryd.prog 6 #[.int .i64 12] w' fun e w'' => ∃ o : Own, e = .returned (.pointer (some ⟨o.g, 0, none⟩)) ∧ Dk (fun _ => True) 49 w'' o (newS 12) ∧ (∀ k, o.has k → w'.heap.size ≤ k) ∧ Below w'.heap.size w' w'') := ⟨fun w' => Dk_New.calls 12 w' (by decide) (by decide)⟩
  have HG := Aside0.mk hg_
  have HC := Aside0.mk hC
  have Hc := Aside0.mk hc
  have HL := Aside0.mk hl
  have HIB := Aside0.mk hIB
  have HMAY := Aside0.mk hmay
  have HD := Aside0.mk hd
  clear hC hc hl hIB hg_
  go_enter Tryd.func4, Tryd.ntmps4
  go_wp2_with (first | (go_at_call 6; (with_reducible refine (NEW.out _).mono ?_); rintro e w1 ⟨o, rfl, hd1, hge1, hb1⟩; have D1 := Aside0.mk hd1; have GE := Aside0.mk hge1; have B1 := Aside0.mk hb1; clear hd1 hge1 hb1))
  go_loopg [8] 12 (fun kq v8 w' => ∃ j : Nat, v8 = .int .i64 (j : Int) ∧ Aside0 (j + kq = 12) ∧ Aside0 (Dk (fun _ => True) 49 w' o (fillS l j)) ∧ Aside0 (Below w.heap.size w w'))
  case atStart => exact ⟨0, (by first | rfl | (simp; done)), ⟨by omega⟩, D1, B1⟩
  case round =>
    clear D1 B1
    obtain ⟨j, rfl, HJ, D1, B1⟩ := hrel
    by_cases cj : j < 12
    · have z1 : decide ((j : Int) < 12) = true := decide_eq_true (by omega)
      cases gk with
      | zero => have := HJ.out; omega
      | succ k1 =>
        have WRT : Aside0 (∀ w', Dk (fun _ => True) 49 w' o (fillS l j) → Below w.heap.size w w' → Calls Tryd.prog 8 #[.pointer (some ⟨o.g, 0, none⟩), .int .i64 (j : Int), .int .i64 12, .int .i64 1, .int .i64 (1 + (j : Int)), .slice A l.length c] w' fun e w'' => e = .returned (.tuple #[.int .i64 ((j + 1 : Nat) : Int), .nilIface]) ∧ Dk (fun _ => True) 49 w'' o (fillS l (j + 1)) ∧ Keeps o.has w' w'') := ⟨fun w' h1 h2 => by
          rw [Int.add_comm 1 (j : Int)]
          have hp := prts_1 l.length HL.out
          have := Tw_Ok.calls o (fillS l j) w' h1 j 12 1 ((j : Int) + 1) A c l (Kd.C_below HC.out h2) Hc.out (Nat.le_trans HL.out (by decide)) (fun ad e hne hh => by have := row_lt HC.out ad e hne; have := GE.out _ hh; omega) (by rw [hp]; omega) (Nat.le_of_eq (fillS_len l j).symm) (by decide) (by omega)
          rw [hp] at this
          exact this⟩
        have HCJ := Aside0.mk cj
        go_wp2_with (first | (go_at_call 8; (with_reducible refine (WRT.out _ D1.out B1.out).mono ?_); rintro e w2 ⟨rfl, hd2, hk2⟩; have D2 := Aside0.mk hd2; have B2 : Aside0 (Below w.heap.size w w2) := ⟨hk2.below GE.out B1.out.size B1.out⟩; clear hd2 hk2))
        go_roundg k1
        case measure => omega
        case rel => exact ⟨j + 1, (by
          have hw : wrap64 ((j : Int) + 1) = ((j + 1 : Nat) : Int) := by have := HCJ.out; unfold wrap64; omega
          first | rfl | (rw [← hw]; rfl) | (simp [*]; done)), ⟨by have := HJ.out; omega⟩, D2, B2⟩
    · have z1 : decide ((j : Int) < 12) = false := decide_eq_false (by omega)
      obtain rfl : j = 12 := by have := HJ.out; omega
      clear cj
      have CLR : Aside0 (∀ w', Dk (fun _ => True) 49 w' o (fillS l 12) → Calls Tryd.prog 19 #[.pointer (some ⟨o.g, 0, none⟩), .int .i64 (a : Int), .int .i64 (b : Int)] w' fun e w'' => e = .returned .nilIface ∧ Dk (fun _ => True) 49 w'' o ((fillS l 12).zeros a d) ∧ Keeps o.has w' w'') := ⟨fun w' h => by
        have := Tc_Ok.calls o (fillS l 12) w' h a d (by rw [fillS_len]; omega)
        rw [hd] at this
        exact this⟩
      obtain ⟨gone, hgone⟩ : ∃ g : Nat → Bool, g = (fun x => decide (a ≤ x) && decide (x < b)) := ⟨_, rfl⟩
      have HGONE := Aside0.mk hgone
      have CL : Aside0 (Cleared l gone ((fillS l 12).zeros a d)) := ⟨by rw [hgone]; exact ⟨DS.zeros_AllB (fillS_AllB HIB.out 12) a d, (DS.zeros_len _ _ _).trans (fillS_len l 12), fun x hx => by
        rw [zeros_now _ _ _ (by rw [fillS_len]; omega), fillS_now HL.out 12 (by decide), if_pos hx]
        by_cases c : a ≤ x ∧ x < a + d
        · rw [if_pos c, if_pos (by rw [decide_eq_true c.1, decide_eq_true (show x < b by omega)]; rfl)]
        · rw [if_neg c, if_neg (by simp only [Bool.and_eq_true, decide_eq_true_eq]; omega)]⟩⟩
      have CLN := Aside0.mk (Tc_N.calls 0 1)
      clear hgone
      generalize (fillS l 12).zeros a d = s9 at *
      clear hmay
      go_upto_region 11 with (first | (go_at_call 19; (with_reducible refine (CLR.out _ D1.out).mono ?_); rintro e w3 ⟨rfl, hd3, hk3⟩; have D3 := Aside0.mk hd3; have B3 : Aside0 (Below w.heap.size w w3) := ⟨hk3.below GE.out B1.out.size B1.out⟩; clear hd3 hk3))
      have m1 : decide ((0 : Int) ≤ (a : Int)) = true := decide_eq_true (by omega)
      have m2 : decide ((b : Int) ≤ 12) = true := decide_eq_true (by omega)
      have m2' : decide (b ≤ 12) = true := decide_eq_true (by omega)
      have m3 : decide ((a : Int) ≤ (b : Int)) = true := decide_eq_true (by omega)
      have m3' : decide (a ≤ b) = true := decide_eq_true (by omega)
      go_wp2
      go_loopg [13] 12 (fun kq v13 w' => ∃ j : Nat, v13 = .int .i64 (j : Int) ∧ Aside0 (j + kq = 12) ∧ Aside0 (Dk (fun _ => True) 49 w' o s9) ∧ Aside0 (Below w.heap.size w w'))
      case atStart => exact ⟨0, (by first | rfl | (simp; done)), ⟨by omega⟩, D3, B3⟩
      case round =>
        clear D3 B3
        obtain ⟨j, rfl, HJ, D3, B3⟩ := hrel
        by_cases cj : j < 12
        · have z1 : decide ((j : Int) < 12) = true := decide_eq_true (by omega)
          cases gk with
          | zero => have := HJ.out; omega
          | succ k1 =>
            obtain ⟨lb, hlb⟩ : ∃ lb, s9.now[j]? = some lb := ⟨_, List.getElem?_eq_getElem (by rw [CL.out.l12]; exact cj)⟩
            by_cases qa : a ≤ j
            · have na : decide ((a : Int) ≤ (j : Int)) = true := decide_eq_true (by omega)
              have na' : decide (a ≤ j) = true := decide_eq_true qa
              by_cases qb : j < b
              · have nb : decide ((j : Int) < (b : Int)) = true := decide_eq_true (by omega)
                have nb' : decide (j < b) = true := decide_eq_true qb
                have HG0 : Aside0 (gone j = true) := ⟨by rw [HGONE.out]; simp only [na', nb', Bool.and_self]⟩
                have RDB : Aside0 (∀ w', Dk (fun _ => True) 49 w' o s9 → Calls Tryd.prog 18 #[.pointer (some ⟨o.g, 0, none⟩), .int .i64 (j : Int), .int .i64 12, .int .i64 1, .int .i64 (1 + (j : Int))] w' fun e w'' => ∃ v n, e = .returned (.tuple #[v, .int .i64 n, .bool false]) ∧ Below w'.heap.size w' w'') := ⟨fun w' h => by
                  rw [Int.add_comm 1 (j : Int)]
                  refine (Td.calls o s9 w' h CL.out.bytes j 12 1 ((j : Int) + 1) (by omega) (Nat.le_of_eq CL.out.l12.symm)).mono ?_
                  rintro e w'' ⟨v, r, q1, q2, q3, q4⟩
                  have q5 := CL.out.no HL.out j cj 12 cj q4
                  rw [HG0.out] at q5
                  refine ⟨v, rdN j r, ?_, q3⟩
                  rw [q1, q5]
                  rfl⟩
                have PKB : Aside0 (∀ w', Dk (fun _ => True) 49 w' o s9 → Calls Tryd.prog 20 #[.pointer (some ⟨o.g, 0, none⟩), .int .i64 (j : Int)] w' fun e w'' => ∃ n m, e = .returned (.tuple #[.int .i64 n, .int .i64 m, .bool false]) ∧ Below w'.heap.size w' w'') := ⟨fun w' h => by
                  refine (Tk.calls o s9 w' h CL.out.bytes j lb hlb).mono ?_
                  rintro e w'' ⟨q1, q2⟩
                  have q5 := CL.out.peek HL.out j cj hlb
                  rw [HG0.out] at q5
                  exact ⟨(peekF lb).1, (peekF lb).2.1, by rw [q1, q5] <;> rfl, q2⟩⟩
                have HLB := Aside0.mk hlb
                have HCJ := Aside0.mk cj
                clear hlb
                go_wp2_with (first | (go_at_call 20; (with_reducible refine (PKB.out _ D4.out).mono ?_); rintro e w5 ⟨n5, m5, rfl, hb5⟩; have D5 := Aside0.mk (D4.out.below hb5); have B5 := Aside0.mk (below_step B4.out hb5); clear hb5) | (go_at_call 18; (with_reducible refine (RDB.out _ D3.out).mono ?_); rintro e w4 ⟨v4, n4, rfl, hb4⟩; have D4 := Aside0.mk (D3.out.below hb4); have B4 := Aside0.mk (below_step B3.out hb4); clear hb4))
                go_roundg k1
                case measure => omega
                case rel => exact ⟨j + 1, (by
                  have hw : wrap64 ((j : Int) + 1) = ((j + 1 : Nat) : Int) := by have := HCJ.out; unfold wrap64; omega
                  first | rfl | (rw [← hw]; rfl) | (simp [*]; done)), ⟨by have := HJ.out; omega⟩, D5, B5⟩
              · have nb : decide ((j : Int) < (b : Int)) = false := decide_eq_false (by omega)
                have nb' : decide (j < b) = false := decide_eq_false qb
                have HG0 : Aside0 (gone j = false) := ⟨by rw [HGONE.out]; simp only [nb', Bool.and_false]⟩
                have RDB : Aside0 (∀ w', Dk (fun _ => True) 49 w' o s9 → Calls Tryd.prog 18 #[.pointer (some ⟨o.g, 0, none⟩), .int .i64 (j : Int), .int .i64 12, .int .i64 1, .int .i64 (1 + (j : Int))] w' fun e w'' => ∃ v n, e = .returned (.tuple #[v, .int .i64 n, .bool true]) ∧ Below w'.heap.size w' w'') := ⟨fun w' h => by
                  rw [Int.add_comm 1 (j : Int)]
                  refine (Td.calls o s9 w' h CL.out.bytes j 12 1 ((j : Int) + 1) (by omega) (Nat.le_of_eq CL.out.l12.symm)).mono ?_
                  rintro e w'' ⟨v, r, q1, q2, q3, q4⟩
                  have q5 := CL.out.no HL.out j cj 12 cj q4
                  rw [HG0.out] at q5
                  refine ⟨v, rdN j r, ?_, q3⟩
                  rw [q1, q5]
                  rfl⟩
                have PKB : Aside0 (∀ w', Dk (fun _ => True) 49 w' o s9 → Calls Tryd.prog 20 #[.pointer (some ⟨o.g, 0, none⟩), .int .i64 (j : Int)] w' fun e w'' => ∃ n m, e = .returned (.tuple #[.int .i64 n, .int .i64 m, .bool true]) ∧ Below w'.heap.size w' w'') := ⟨fun w' h => by
                  refine (Tk.calls o s9 w' h CL.out.bytes j lb hlb).mono ?_
                  rintro e w'' ⟨q1, q2⟩
                  have q5 := CL.out.peek HL.out j cj hlb
                  rw [HG0.out] at q5
                  exact ⟨(peekF lb).1, (peekF lb).2.1, by rw [q1, q5] <;> rfl, q2⟩⟩
                have HLB := Aside0.mk hlb
                have HCJ := Aside0.mk cj
                clear hlb
                go_wp2_with (first | (go_at_call 20; (with_reducible refine (PKB.out _ D4.out).mono ?_); rintro e w5 ⟨n5, m5, rfl, hb5⟩; have D5 := Aside0.mk (D4.out.below hb5); have B5 := Aside0.mk (below_step B4.out hb5); clear hb5) | (go_at_call 18; (with_reducible refine (RDB.out _ D3.out).mono ?_); rintro e w4 ⟨v4, n4, rfl, hb4⟩; have D4 := Aside0.mk (D3.out.below hb4); have B4 := Aside0.mk (below_step B3.out hb4); clear hb4))
                go_roundg k1
                case measure => omega
                case rel => exact ⟨j + 1, (by
                  have hw : wrap64 ((j : Int) + 1) = ((j + 1 : Nat) : Int) := by have := HCJ.out; unfold wrap64; omega
                  first | rfl | (rw [← hw]; rfl) | (simp [*]; done)), ⟨by have := HJ.out; omega⟩, D5, B5⟩
            · have na : decide ((a : Int) ≤ (j : Int)) = false := decide_eq_false (by omega)
              have na' : decide (a ≤ j) = false := decide_eq_false qa
              have HG0 : Aside0 (gone j = false) := ⟨by rw [HGONE.out]; simp only [na', Bool.false_and]⟩
              have RDB : Aside0 (∀ w', Dk (fun _ => True) 49 w' o s9 → Calls Tryd.prog 18 #[.pointer (some ⟨o.g, 0, none⟩), .int .i64 (j : Int), .int .i64 12, .int .i64 1, .int .i64 (1 + (j : Int))] w' fun e w'' => ∃ v n, e = .returned (.tuple #[v, .int .i64 n, .bool true]) ∧ Below w'.heap.size w' w'') := ⟨fun w' h => by
                rw [Int.add_comm 1 (j : Int)]
                refine (Td.calls o s9 w' h CL.out.bytes j 12 1 ((j : Int) + 1) (by omega) (Nat.le_of_eq CL.out.l12.symm)).mono ?_
                rintro e w'' ⟨v, r, q1, q2, q3, q4⟩
                have q5 := CL.out.no HL.out j cj 12 cj q4
                rw [HG0.out] at q5
                refine ⟨v, rdN j r, ?_, q3⟩
                rw [q1, q5]
                rfl⟩
              have PKB : Aside0 (∀ w', Dk (fun _ => True) 49 w' o s9 → Calls Tryd.prog 20 #[.pointer (some ⟨o.g, 0, none⟩), .int .i64 (j : Int)] w' fun e w'' => ∃ n m, e = .returned (.tuple #[.int .i64 n, .int .i64 m, .bool true]) ∧ Below w'.heap.size w' w'') := ⟨fun w' h => by
                refine (Tk.calls o s9 w' h CL.out.bytes j lb hlb).mono ?_
                rintro e w'' ⟨q1, q2⟩
                have q5 := CL.out.peek HL.out j cj hlb
                rw [HG0.out] at q5
                exact ⟨(peekF lb).1, (peekF lb).2.1, by rw [q1, q5] <;> rfl, q2⟩⟩
              have HLB := Aside0.mk hlb
              have HCJ := Aside0.mk cj
              clear hlb
              go_wp2_with (first | (go_at_call 20; (with_reducible refine (PKB.out _ D4.out).mono ?_); rintro e w5 ⟨n5, m5, rfl, hb5⟩; have D5 := Aside0.mk (D4.out.below hb5); have B5 := Aside0.mk (below_step B4.out hb5); clear hb5) | (go_at_call 18; (with_reducible refine (RDB.out _ D3.out).mono ?_); rintro e w4 ⟨v4, n4, rfl, hb4⟩; have D4 := Aside0.mk (D3.out.below hb4); have B4 := Aside0.mk (below_step B3.out hb4); clear hb4))
              go_roundg k1
              case measure => omega
              case rel => exact ⟨j + 1, (by
                have hw : wrap64 ((j : Int) + 1) = ((j + 1 : Nat) : Int) := by have := HCJ.out; unfold wrap64; omega
                first | rfl | (rw [← hw]; rfl) | (simp [*]; done)), ⟨by have := HJ.out; omega⟩, D5, B5⟩
        · have z1 : decide ((j : Int) < 12) = false := decide_eq_false (by omega)
          go_wp2_with (first | (go_at_call 5; (with_reducible refine (Ak.calls _).mono ?_); rintro e w12 ⟨rfl, hb12⟩; have B12 := Aside0.mk (below_step B11.out hb12); clear hb12) | (go_at_call 11; (with_reducible refine (F10.out.num (by decide) (pw_cell_below B10.out HG.out)).mono ?_); rintro e w11 ⟨rfl, hb11⟩; have B11 := Aside0.mk (below_step B10.out hb11); clear hb11) | (go_at_call 19; (with_reducible refine (CLN.out _).mono ?_); rintro e w10 ⟨v10, rfl, hf10, hb10⟩; have F10 := Aside0.mk hf10; have B10 := Aside0.mk (below_step B9.out hb10); clear hf10 hb10) | (go_at_call 11; (with_reducible refine (F7n.out.num (by decide) (pw_cell_below B7.out HG.out)).mono ?_); rintro e w9 ⟨rfl, hb9⟩; have B9 := Aside0.mk (below_step B7.out hb9); clear hb9) | (go_at_call 18; (with_reducible refine (Td_N.calls _ _ _ _ _).mono ?_); rintro e w7 ⟨rfl, hb7⟩; have F7n := Aside0.mk (F6n.out.below hb7); have B7 := Aside0.mk (below_step B6.out hb7); clear hb7) | (go_at_call 8; (with_reducible refine (Tw_N.calls _ _ _ _ _ _ _ _).mono ?_); rintro e w6 ⟨v6, rfl, hf6, hb6⟩; have F6n := Aside0.mk hf6; have B6 := Aside0.mk (below_step B3.out hb6); clear hf6 hb6))
          go_ret
          exact ⟨rfl, B12.out⟩
set_option maxHeartbeats 8000000 in
set_option maxRecDepth 100000 in
theorem LCno.calls (w : World) (hg_ : w.cell? ⟨0, 0, none⟩ = some (.iface 93 (.agg #[.pointer (some ⟨1, 28, none⟩)]))) (a b : Int) (hmay : ¬ (0 ≤ a ∧ b ≤ 12 ∧ a ≤ b)) (A : Option Addr) (c : Nat) (l : List Int) (hC : Kd.C (Kd.int .u8) w A l.length l) (hc : l.length ≤ c) (hl : l.length ≤ 400) (hIB : IsB l) :
    Calls Tryd.prog 4 #[.int .i64 a, .int .i64 b, .slice A l.length c] w fun e w' => e = .returned (.bool true) ∧ Below w.heap.size w w' := by
  have d1 : decide (400 < (l.length : Int)) = false := decide_eq_false (by omega)
  have d2 : decide (400 < l.length) = false := decide_eq_false (by omega)
  have NEW : Aside0 (∀ w', Calls Tryd.prog 6 #[.int .i64 12] w' fun e w'' => ∃ o : Own, e = .returned (.pointer (some ⟨o.g, 0, none⟩)) ∧ Dk (fun _ => True) 49 w'' o (newS 12) ∧ (∀ k, o.has k → w'.heap.size ≤ k) ∧ Below w'.heap.size w' w'') := ⟨fun w' => Dk_New.calls 12 w' (by decide) (by decide)⟩
  have HG := Aside0.mk hg_
  have HC := Aside0.mk hC
  have Hc := Aside0.mk hc
  have HL := Aside0.mk hl
  have HIB := Aside0.mk hIB
  have HMAY := Aside0.mk hmay
  skip
  clear hC hc hl hIB hg_
  go_enter Tryd.func4, Tryd.ntmps4
  go_wp2_with (first | (go_at_call 6; (with_reducible refine (NEW.out _).mono ?_); rintro e w1 ⟨o, rfl, hd1, hge1, hb1⟩; have D1 := Aside0.mk hd1; have GE := Aside0.mk hge1; have B1 := Aside0.mk hb1; clear hd1 hge1 hb1))
  go_loopg [8] 12 (fun kq v8 w' => ∃ j : Nat, v8 = .int .i64 (j : Int) ∧ Aside0 (j + kq = 12) ∧ Aside0 (Dk (fun _ => True) 49 w' o (fillS l j)) ∧ Aside0 (Below w.heap.size w w'))
  case atStart => exact ⟨0, (by first | rfl | (simp; done)), ⟨by omega⟩, D1, B1⟩
  case round =>
    clear D1 B1
    obtain ⟨j, rfl, HJ, D1, B1⟩ := hrel
    by_cases cj : j < 12
    · have z1 : decide ((j : Int) < 12) = true := decide_eq_true (by omega)
      cases gk with
      | zero => have := HJ.out; omega
      | succ k1 =>
        have WRT : Aside0 (∀ w', Dk (fun _ => True) 49 w' o (fillS l j) → Below w.heap.size w w' → Calls Tryd.prog 8 #[.pointer (some ⟨o.g, 0, none⟩), .int .i64 (j : Int), .int .i64 12, .int .i64 1, .int .i64 (1 + (j : Int)), .slice A l.length c] w' fun e w'' => e = .returned (.tuple #[.int .i64 ((j + 1 : Nat) : Int), .nilIface]) ∧ Dk (fun _ => True) 49 w'' o (fillS l (j + 1)) ∧ Keeps o.has w' w'') := ⟨fun w' h1 h2 => by
          rw [Int.add_comm 1 (j : Int)]
          have hp := prts_1 l.length HL.out
          have := Tw_Ok.calls o (fillS l j) w' h1 j 12 1 ((j : Int) + 1) A c l (Kd.C_below HC.out h2) Hc.out (Nat.le_trans HL.out (by decide)) (fun ad e hne hh => by have := row_lt HC.out ad e hne; have := GE.out _ hh; omega) (by rw [hp]; omega) (Nat.le_of_eq (fillS_len l j).symm) (by decide) (by omega)
          rw [hp] at this
          exact this⟩
        have HCJ := Aside0.mk cj
        go_wp2_with (first | (go_at_call 8; (with_reducible refine (WRT.out _ D1.out B1.out).mono ?_); rintro e w2 ⟨rfl, hd2, hk2⟩; have D2 := Aside0.mk hd2; have B2 : Aside0 (Below w.heap.size w w2) := ⟨hk2.below GE.out B1.out.size B1.out⟩; clear hd2 hk2))
        go_roundg k1
        case measure => omega
        case rel => exact ⟨j + 1, (by
          have hw : wrap64 ((j : Int) + 1) = ((j + 1 : Nat) : Int) := by have := HCJ.out; unfold wrap64; omega
          first | rfl | (rw [← hw]; rfl) | (simp [*]; done)), ⟨by have := HJ.out; omega⟩, D2, B2⟩
    · have z1 : decide ((j : Int) < 12) = false := decide_eq_false (by omega)
      obtain rfl : j = 12 := by have := HJ.out; omega
      clear cj
      have CLR : Aside0 (∀ w', Dk (fun _ => True) 49 w' o (fillS l 12) → Calls Tryd.prog 19 #[.pointer (some ⟨o.g, 0, none⟩), .int .i64 a, .int .i64 b] w' fun e w'' => ∃ v, e = .returned v ∧ FaultAt w'' v 2 ∧ Below w'.heap.size w' w'') := ⟨fun w' h => Tc_Bad.calls o (fillS l 12) w' h a b (by unfold OffP; rw [fillS_len]; omega)⟩
      obtain ⟨gone, hgone⟩ : ∃ g : Nat → Bool, g = (fun _ => false) := ⟨_, rfl⟩
      have HGONE := Aside0.mk hgone
      have CL : Aside0 (Cleared l gone (fillS l 12)) := ⟨by rw [hgone]; exact ⟨fillS_AllB HIB.out 12, fillS_len l 12, fun x hx => by
        rw [fillS_now HL.out 12 (by decide), if_pos hx, if_neg (by decide)]⟩⟩
      have CLN := Aside0.mk (Tc_N.calls 0 1)
      clear hgone
      generalize fillS l 12 = s9 at *
      clear hmay
      go_upto_region 11 with (first | (go_at_call 19; (with_reducible refine (CLR.out _ D1.out).mono ?_); rintro e w3 ⟨v3, rfl, hf3, hb3⟩; have F3 := Aside0.mk hf3; have D3 := Aside0.mk (D1.out.below hb3); have B3 := Aside0.mk (below_step B1.out hb3); clear hb3; obtain ⟨gf3, cs3, rfl, hf3⟩ := hf3))
      go_cut [12] (fun v12 wx => v12 = .bool false ∧ wx = w3)
      case first =>
        by_cases q1 : 0 ≤ a
        rotate_left
        · have m1 : decide (0 ≤ a) = false := decide_eq_false q1
          go_wp2
          go_meet
          case rel => exact ⟨rfl, rfl⟩
        have m1 : decide (0 ≤ a) = true := decide_eq_true q1
        by_cases q2 : b ≤ 12
        rotate_left
        · have m2 : decide (b ≤ 12) = false := decide_eq_false q2
          go_wp2
          go_meet
          case rel => exact ⟨rfl, rfl⟩
        have m2 : decide (b ≤ 12) = true := decide_eq_true q2
        have m3 : decide (a ≤ b) = false := decide_eq_false (by have := HMAY.out; omega)
        go_wp2
        go_meet
        case rel => exact ⟨rfl, rfl⟩
      case rest =>
      obtain ⟨rfl, hwc⟩ := hcut
      subst hwc
      go_wp2
      go_loopg [13] 12 (fun kq v13 w' => ∃ j : Nat, v13 = .int .i64 (j : Int) ∧ Aside0 (j + kq = 12) ∧ Aside0 (Dk (fun _ => True) 49 w' o s9) ∧ Aside0 (Below w.heap.size w w') ∧ Aside0 (FaultAt w' (.iface 60 (.pointer (some ⟨gf3, 0, none⟩))) 2))
      case atStart => exact ⟨0, (by first | rfl | (simp; done)), ⟨by omega⟩, D3, B3, F3⟩
      case round =>
        clear D3 B3 F3
        obtain ⟨j, rfl, HJ, D3, B3, F3⟩ := hrel
        by_cases cj : j < 12
        · have z1 : decide ((j : Int) < 12) = true := decide_eq_true (by omega)
          cases gk with
          | zero => have := HJ.out; omega
          | succ k1 =>
            obtain ⟨lb, hlb⟩ : ∃ lb, s9.now[j]? = some lb := ⟨_, List.getElem?_eq_getElem (by rw [CL.out.l12]; exact cj)⟩
            have HG0 : Aside0 (gone j = false) := ⟨by rw [HGONE.out]⟩
            have RDB : Aside0 (∀ w', Dk (fun _ => True) 49 w' o s9 → Calls Tryd.prog 18 #[.pointer (some ⟨o.g, 0, none⟩), .int .i64 (j : Int), .int .i64 12, .int .i64 1, .int .i64 (1 + (j : Int))] w' fun e w'' => ∃ v n, e = .returned (.tuple #[v, .int .i64 n, .bool true]) ∧ Below w'.heap.size w' w'') := ⟨fun w' h => by
              rw [Int.add_comm 1 (j : Int)]
              refine (Td.calls o s9 w' h CL.out.bytes j 12 1 ((j : Int) + 1) (by omega) (Nat.le_of_eq CL.out.l12.symm)).mono ?_
              rintro e w'' ⟨v, r, q1, q2, q3, q4⟩
              have q5 := CL.out.no HL.out j cj 12 cj q4
              rw [HG0.out] at q5
              refine ⟨v, rdN j r, ?_, q3⟩
              rw [q1, q5]
              rfl⟩
            have PKB : Aside0 (∀ w', Dk (fun _ => True) 49 w' o s9 → Calls Tryd.prog 20 #[.pointer (some ⟨o.g, 0, none⟩), .int .i64 (j : Int)] w' fun e w'' => ∃ n m, e = .returned (.tuple #[.int .i64 n, .int .i64 m, .bool true]) ∧ Below w'.heap.size w' w'') := ⟨fun w' h => by
              refine (Tk.calls o s9 w' h CL.out.bytes j lb hlb).mono ?_
              rintro e w'' ⟨q1, q2⟩
              have q5 := CL.out.peek HL.out j cj hlb
              rw [HG0.out] at q5
              exact ⟨(peekF lb).1, (peekF lb).2.1, by rw [q1, q5] <;> rfl, q2⟩⟩
            have HLB := Aside0.mk hlb
            have HCJ := Aside0.mk cj
            clear hlb
            go_wp2_with (first | (go_at_call 20; (with_reducible refine (PKB.out _ D4.out).mono ?_); rintro e w5 ⟨n5, m5, rfl, hb5⟩; have D5 := Aside0.mk (D4.out.below hb5); have B5 := Aside0.mk (below_step B4.out hb5); have F5 := Aside0.mk (F4.out.below hb5); clear hb5) | (go_at_call 18; (with_reducible refine (RDB.out _ D3.out).mono ?_); rintro e w4 ⟨v4, n4, rfl, hb4⟩; have D4 := Aside0.mk (D3.out.below hb4); have B4 := Aside0.mk (below_step B3.out hb4); have F4 := Aside0.mk (F3.out.below hb4); clear hb4))
            go_roundg k1
            case measure => omega
            case rel => exact ⟨j + 1, (by
              have hw : wrap64 ((j : Int) + 1) = ((j + 1 : Nat) : Int) := by have := HCJ.out; unfold wrap64; omega
              first | rfl | (rw [← hw]; rfl) | (simp [*]; done)), ⟨by have := HJ.out; omega⟩, D5, B5, F5⟩
        · have z1 : decide ((j : Int) < 12) = false := decide_eq_false (by omega)
          go_wp2_with (first | (go_at_call 5; (with_reducible refine (Ak.calls _).mono ?_); rintro e w12 ⟨rfl, hb12⟩; have B12 := Aside0.mk (below_step B11.out hb12); clear hb12) | (go_at_call 11; (with_reducible refine (F10.out.num (by decide) (pw_cell_below B10.out HG.out)).mono ?_); rintro e w11 ⟨rfl, hb11⟩; have B11 := Aside0.mk (below_step B10.out hb11); clear hb11) | (go_at_call 19; (with_reducible refine (CLN.out _).mono ?_); rintro e w10 ⟨v10, rfl, hf10, hb10⟩; have F10 := Aside0.mk hf10; have B10 := Aside0.mk (below_step B9.out hb10); clear hf10 hb10) | (go_at_call 11; (with_reducible refine (F8n.out.num (by decide) (pw_cell_below B8.out HG.out)).mono ?_); rintro e w9 ⟨rfl, hb9⟩; have B9 := Aside0.mk (below_step B8.out hb9); clear hb9) | (go_at_call 11; (with_reducible refine (F7.out.num (by decide) (pw_cell_below B7.out HG.out)).mono ?_); rintro e w8 ⟨rfl, hb8⟩; have F8n := Aside0.mk (F7n.out.below hb8); have B8 := Aside0.mk (below_step B7.out hb8); clear hb8) | (go_at_call 18; (with_reducible refine (Td_N.calls _ _ _ _ _).mono ?_); rintro e w7 ⟨rfl, hb7⟩; have F7n := Aside0.mk (F6n.out.below hb7); have B7 := Aside0.mk (below_step B6.out hb7); have F7 := Aside0.mk (F6.out.below hb7); clear hb7) | (go_at_call 8; (with_reducible refine (Tw_N.calls _ _ _ _ _ _ _ _).mono ?_); rintro e w6 ⟨v6, rfl, hf6, hb6⟩; have F6n := Aside0.mk hf6; have B6 := Aside0.mk (below_step B3.out hb6); have F6 := Aside0.mk (F3.out.below hb6); clear hf6 hb6))
          go_ret
          exact ⟨rfl, B12.out⟩
end

end Go.Proofs.YtkiofhmpeokipaaDoor.PTA
