import Derived.Test.YtkiofhmpeokipaaTkR
namespace Go.Proofs.Ytkiofhmpeokipaa.PTA
open Go.RowKit Go.Proofs.YtkiofhmpeokipaaW.PrintWords Go.Proofs.YtkiofhmpeokipaaW.PrintLast Go.Proofs.YtkiofhmpeokipaaW.PrintMore
attribute [local go_sem] max2_int min2_int max_two min_two max_three min_three max_four min_four
set_option linter.unusedVariables false
set_option linter.unusedSimpArgs false
section
set_option maxHeartbeats 8000000 in
set_option maxRecDepth 100000 in
theorem LSa.calls (w : World) (at_ b g k : Int) (A G : Option Addr) (n m c d : Nat) (hh : 8 < n) :
    Calls Try.prog 3 #[.slice A n c, .slice G m d, .int .i64 at_, .int .u8 b, .int .i64 g, .int .i64 k] w fun e w' => e = .returned (.bool true) ∧ Below w.heap.size w w' := by
  have dn : decide (8 < (n : Int)) = true := decide_eq_true (by omega)
  have dn' : decide (8 < n) = true := decide_eq_true (by omega)
  clear hh
  go_enter Try.func3, Try.ntmps3
  go_wp2_with (first | (go_at_call 6; (with_reducible refine (Ak.calls _).mono ?_); rintro e w2 ⟨rfl, hb2⟩))
  go_ret
  exact ⟨rfl, hb2⟩
set_option maxHeartbeats 8000000 in
set_option maxRecDepth 100000 in
theorem LSb.calls (w : World) (at_ b g k : Int) (A G : Option Addr) (n m c d : Nat) (h1 : n ≤ 8) (hh : 8 < m) :
    Calls Try.prog 3 #[.slice A n c, .slice G m d, .int .i64 at_, .int .u8 b, .int .i64 g, .int .i64 k] w fun e w' => e = .returned (.bool true) ∧ Below w.heap.size w w' := by
  have dn : decide (8 < (n : Int)) = false := decide_eq_false (by omega)
  have dn' : decide (8 < n) = false := decide_eq_false (by omega)
  have dm : decide (8 < (m : Int)) = true := decide_eq_true (by omega)
  have dm' : decide (8 < m) = true := decide_eq_true (by omega)
  clear hh h1
  go_enter Try.func3, Try.ntmps3
  go_wp2_with (first | (go_at_call 6; (with_reducible refine (Ak.calls _).mono ?_); rintro e w2 ⟨rfl, hb2⟩))
  go_ret
  exact ⟨rfl, hb2⟩
structure S20 (s : DS) : Prop where
  bytes : s.AllB
  l20 : s.now.length = 20
theorem xor_B (a b : Int) : 0 ≤ bits .xor .u8 a b ∧ bits .xor .u8 a b < 256 := by
  have h : ∀ n : Int, 0 ≤ IntKind.u8.wrap n ∧ IntKind.u8.wrap n < 256 := fun n => by
    have : IntKind.u8.wrap n = n % 256 := by simp [IntKind.wrap, IntKind.bits, IntKind.signed]
    omega
  unfold bits
  exact h _
theorem rd_fr {s : DS} (hB : s.AllB) {j b : Nat} {g k : Int} (hjb : b ≤ 20) {r : Option (List Int)} (h : RdIs s.now j b g k r) : ∃ (L : List Int) (q : Nat) (B : Bool), r.getD [] = L ∧ frN r = (q : Int) ∧ r.isSome = B ∧ rdN j r = (bif B then (q : Int) + (j : Int) else (q : Int)) ∧ L.length < 100000 ∧ q ≤ 100 := by
  cases r with
  | none => exact ⟨[], 0, false, rfl, rfl, rfl, rfl, by decide, by decide⟩
  | some out =>
    obtain ⟨n, h1, h2⟩ := h
    have h3 := outL_le s.now j (fun l hl => Nat.le_of_eq (hB l hl).2) n
    have h4 := h1.2.1
    have h2' : out.length ≤ 512 * n := by rw [h2]; exact h3
    refine ⟨out, prts out.length, true, rfl, rfl, rfl, Int.add_comm _ _, by omega, ?_⟩
    unfold prts
    omega
theorem gens_at {w : World} {G : Option Addr} {gs : List Int} (h : Kd.C (Kd.int .i64) w G gs.length gs) (j : Nat) (hj : j < gs.length) : ∃ ad x, G = some ad ∧ w.cell? (ad.add j) = some (.int .i64 x) := by
  obtain ⟨_, _, a3⟩ := Kd.reads_of_C (d := (0 : Int)) h
  obtain ⟨ad, e, hc⟩ := a3 (by omega)
  exact ⟨ad, _, e, hc j hj⟩
set_option maxHeartbeats 8000000 in
set_option maxRecDepth 100000 in
theorem LReads.calls (w : World) (at_ by_ gen number : Int) (A G : Option Addr) (c cg : Nat) (ls : List (List Int)) (gs : List Int) (hC : Kd.C (Kd.slice 5 (Kd.int .u8)) w A ls.length ls) (hG : Kd.C (Kd.int .i64) w G gs.length gs) (hl : ls.length ≤ 8) (hgl : gs.length ≤ 8) (hIB : ∀ l ∈ ls, IsB l) (hby : 0 ≤ by_ ∧ by_ < 256) :
    Calls Try.prog 3 #[.slice A ls.length c, .slice G gs.length cg, .int .i64 at_, .int .u8 by_, .int .i64 gen, .int .i64 number] w fun e w' => e = .returned (.bool true) ∧ Below w.heap.size w w' := by
  have d1 : decide (8 < (ls.length : Int)) = false := decide_eq_false (by omega)
  have d1' : decide (8 < ls.length) = false := decide_eq_false (by omega)
  have d2 : decide (8 < (gs.length : Int)) = false := decide_eq_false (by omega)
  have d2' : decide (8 < gs.length) = false := decide_eq_false (by omega)

  have NEW : Aside0 (∀ w', Calls Try.prog 7 #[.int .i64 20] w' fun e w'' => ∃ o : Own, e = .returned (.pointer (some ⟨o.g, 0, none⟩)) ∧ Dk (fun _ => True) 52 w'' o (newS 20) ∧ (∀ k, o.has k → w'.heap.size ≤ k) ∧ Below w'.heap.size w' w'') := ⟨fun w' => Dk_New.calls 20 w' (by decide) (by decide)⟩
  have HC := Aside0.mk hC
  have HGS := Aside0.mk hG
  have HL := Aside0.mk hl
  have HGL := Aside0.mk hgl
  have HIB := Aside0.mk hIB
  have HBY := Aside0.mk hby
  clear hC hG hIB hby
  go_enter Try.func3, Try.ntmps3
  go_wp2_with (first | (go_at_call 7; (with_reducible refine (NEW.out _).mono ?_); rintro e w1 ⟨o, rfl, hd1, GE, hb1⟩; have D1 := Aside0.mk hd1; have GE := Aside0.mk GE; have B1 := Aside0.mk hb1; clear hd1 hb1))
  have S0 : Aside0 (S20 (newS 20)) := ⟨newS_AllB 20, newS_len 20⟩
  go_loopg [14, 15] ls.length (fun kq v14 v15 w' => ∃ p j s, v14 = .int .i64 ((p : Nat) : Int) ∧ v15 = .int .i64 ((j : Nat) : Int) ∧ Aside0 (j + kq = ls.length ∧ p ≤ 20) ∧ Aside0 (S20 s) ∧ Aside0 (Dk (fun _ => True) 52 w' o s) ∧ Aside0 (Below w.heap.size w w'))
  case atStart => exact ⟨0, 0, newS 20, rfl, rfl, ⟨by omega, by omega⟩, S0, D1, B1⟩
  case round =>
    clear D1 B1 S0
    obtain ⟨p, j, s, rfl, rfl, HJ, S1, D1, B1⟩ := hrel
    by_cases cj : j < ls.length
    rotate_left
    · have z1 : decide ((j : Int) < (ls.length : Int)) = false := decide_eq_false (by omega)
      have z1' : decide (j < ls.length) = false := decide_eq_false cj
      obtain ⟨x, hx, hlow⟩ := low_f at_ 10240 (by decide) (by decide)
      have HLOWX : Aside0 (chatelainelaw0_Low.f at_ 10240 = some (x : Int)) := ⟨hlow⟩
      obtain ⟨i, hi⟩ : ∃ i : Nat, i = x / 512 := ⟨_, rfl⟩
      obtain ⟨y, hy⟩ : ∃ y : Nat, y = x % 512 := ⟨_, rfl⟩
      have ti : Int.tdiv (x : Int) 512 = (i : Int) := by rw [Int.tdiv_eq_ediv_of_nonneg (by omega)]; omega
      have ty : Int.tmod (x : Int) 512 = (y : Int) := by rw [Int.tmod_eq_emod_of_nonneg (by omega)]; omega
      have hi20 : i < 20 := by omega
      have hy512 : y < 512 := by omega
      clear hlow hi hy HJ
      obtain ⟨lb, hlb⟩ : ∃ lb, s.now[i]? = some lb := ⟨_, List.getElem?_eq_getElem (by rw [S1.out.l20]; exact hi20)⟩
      have LB : Aside0 (IsB lb ∧ lb.length = 512) := ⟨S1.out.bytes.at hlb⟩
      have RDK : Aside0 (∀ w', Dk (fun _ => True) 52 w' o s → Calls Try.prog 10 #[.pointer (some ⟨o.g, 0, none⟩), .int .i64 (i : Int)] w' fun e w'' => ∃ A' c', e = .returned (.tuple #[.slice A' 512 c', .nilIface]) ∧ Kd.R (Kd.int .u8) 5 w'' w'.heap.size (fun _ => True) (.slice A' 512 c') lb ∧ Below w'.heap.size w' w'') := ⟨fun w' h => by
        refine (Dk_Read.calls o s w' h i (by rw [S1.out.l20]; exact hi20) lb hlb (clone_f lb (by rw [LB.out.2]; omega))).mono ?_
        rintro e w'' ⟨v, q1, q2, q3⟩
        obtain ⟨A', c', rfl⟩ := Kd.R_slice q2
        rw [LB.out.2] at q1 q2
        exact ⟨A', c', q1, q2, q3⟩⟩
      clear hlb
      go_upto_region 19 with (first | (go_at_call 10; (with_reducible refine (RDK.out _ D2.out).mono ?_); rintro e w3 ⟨A3, c3, rfl, hr3, hb3⟩; have R3 := Aside0.mk hr3; have B23 := Aside0.mk hb3; have D3 := Aside0.mk (D2.out.below hb3); have B3 := Aside0.mk (below_step B2.out hb3); clear hr3 hb3) | (go_at_call 9; (with_reducible refine (chatelainelaw0_Low.calls _ _ _ _ HLOWX.out).mono ?_); rintro e w2 ⟨rfl, hd2⟩; have hb2 := hd2.below; have D2 := Aside0.mk (D1.out.below hb2); have B2 := Aside0.mk (below_step B1.out hb2); clear hd2 hb2))
      obtain ⟨go, co, eo, gb, gl, cl, HG⟩ := Kd.R_form R3.out (by rw [LB.out.2]; decide)
      (first | cases eo | (injection eo with ea_ en_ ec_; (first | subst ea_ | (injection ea_ with ea_; subst ea_)); subst ec_; clear en_))
      have GB2 : Aside0 (w2.heap.size ≤ go) := ⟨gb⟩
      have GG := Aside0.mk HG
      clear gb gl HG
      obtain ⟨hq, hfq⟩ := Kd.R_celln 0 R3.out (y : Int) (by omega) (by omega)
      have p0 : (0 ≤ (y : Int)) = True := eq_true (by omega)
      have p1 : ((y : Int) < 512) = True := eq_true (by omega)
      rw [Int.toNat_natCast] at hq hfq
      obtain ⟨z, hz⟩ : ∃ z, z = bits .xor .u8 (rdOf 0 lb (y : Int)) by_ := ⟨_, rfl⟩
      have ZB : Aside0 (0 ≤ z ∧ z < 256) := ⟨by rw [hz]; exact xor_B _ _⟩
      have HW4 : Below w2.heap.size w2 (w3.setCell ⟨go, y, none⟩ (.int .u8 z)) := below_set B23.out GB2.out
      have R4 := Kd.R_putn R3.out (y : Int) z
      rw [Int.toNat_natCast] at R4
      obtain ⟨l', hl'⟩ : ∃ l', l' = lb.set y z := ⟨_, rfl⟩
      rw [← hl'] at R4
      have L' : Aside0 (IsB l' ∧ l'.length = 512) := ⟨by
        rw [hl']
        exact ⟨fun x hx => by
          rcases List.mem_or_eq_of_mem_set hx with h | h
          · exact LB.out.1 x h
          · rw [h]; exact ZB.out, List.length_set.trans LB.out.2⟩⟩
      obtain ⟨s4, hs4⟩ : ∃ s4 : DS, s4 = { s with now := s.now.set i l', dirty := s.dirty.set i true } := ⟨_, rfl⟩
      have S4 : Aside0 (S20 s4) := ⟨by
        rw [hs4]
        refine ⟨fun x hx => ?_, List.length_set.trans S1.out.l20⟩
        rcases List.mem_or_eq_of_mem_set hx with h | h
        · exact S1.out.bytes x h
        · rw [h]; exact L'.out⟩
      have WRK : Aside0 (Calls Try.prog 11 #[.pointer (some ⟨o.g, 0, none⟩), .int .i64 (i : Int), .slice (some ⟨go, 0, none⟩) 512 c3] (w3.setCell ⟨go, y, none⟩ (.int .u8 z)) fun e w'' => e = .returned .nilIface ∧ Dk (fun _ => True) 52 w'' o s4 ∧ Below w.heap.size w w'') := ⟨by
        have D4 := D2.out.below HW4
        have B4 := below_step B2.out HW4
        have h1 := (Kd.R_reads' R4).2.2
        have h2 := (Kd.R_reads' R4).2.1
        have e5 : (512 : Nat) = l'.length := L'.out.2.symm
        rw [e5] at h2 ⊢
        refine (Dk_WriteOk.calls o s _ D4 (some ⟨go, 0, none⟩) c3 l' h1 h2 L'.out.2 (clone_f l' (by rw [L'.out.2]; omega)) i (by rw [S1.out.l20]; exact hi20) (fun _ _ => trivial)).mono ?_
        rintro e w'' ⟨q1, q2, q3⟩
        rw [hs4]
        exact ⟨q1, q2, q3.below GE.out B4.size B4⟩⟩
      have LN := Aside0.mk S4.out.l20
      have ALL : Aside0 (∀ w', Dk (fun _ => True) 52 w' o s4 → Calls Try.prog 12 #[.pointer (some ⟨o.g, 0, none⟩)] w' fun e w'' => ∃ A c, e = .returned (.slice A 20 c) ∧ Kd.S (Kd.slice 5 (Kd.int .u8)) 27 w'' w'.heap.size (fun _ => True) (.slice A 20 c) s4.now ∧ Below w'.heap.size w' w'') := ⟨fun w' h => by
        refine (Al.calls o s4 w' h (fun l hl => (S4.out.bytes l hl).2)).mono ?_
        rintro e w'' ⟨v, q1, q2, q3⟩
        obtain ⟨A, c, rfl⟩ := Kd.S_slice q2
        rw [LN.out] at q1 q2
        exact ⟨A, c, q1, q2, q3⟩⟩
      have WHL : Aside0 (∀ w' A c, Kd.C (Kd.slice 5 (Kd.int .u8)) w' A s4.now.length s4.now → 20 ≤ c → Calls Try.prog 13 #[.slice A 20 c] w' fun e w'' => e = .returned (.bool true) ∧ Below w'.heap.size w' w'') := ⟨fun w' A c h1 h2 => by
        have := chatelainelaw24_whole.calls 2000 A c s4.now true w' h1 (by rw [LN.out]; exact h2) (whole_f s4.now (by rw [LN.out]; decide) (fun l hl => (S4.out.bytes l hl).2))
        rw [LN.out] at this
        exact this.mono fun e w'' h => ⟨h.1, h.2.below⟩⟩
      obtain ⟨g, hg, hlow1⟩ := low_f gen 3 (by decide) (by decide)
      obtain ⟨k, hk, hlow2⟩ := low_f number 9 (by decide) (by decide)
      have HLG : Aside0 (chatelainelaw0_Low.f gen 3 = some (g : Int)) := ⟨hlow1⟩
      have HLK : Aside0 (chatelainelaw0_Low.f number 9 = some (k : Int)) := ⟨hlow2⟩
      rw [hz] at WRK
      clear hz hl' R4 HW4 hs4 hlow1 hlow2
      go_wp2_with (first | (go_at_call 9; (with_reducible refine (chatelainelaw0_Low.calls _ _ _ _ HLK.out).mono ?_); rintro e w8 ⟨rfl, hd8⟩; have hb8 := hd8.below; have R8 := Aside0.mk (Kd.S_below R7.out hb8); have D8 := Aside0.mk (D7.out.below hb8); have B8 := Aside0.mk (below_step B7.out hb8); clear hd8 hb8) | (go_at_call 9; (with_reducible refine (chatelainelaw0_Low.calls _ _ _ _ HLG.out).mono ?_); rintro e w7 ⟨rfl, hd7⟩; have hb7 := hd7.below; have R7 := Aside0.mk (Kd.S_below R6.out hb7); have D7 := Aside0.mk (D6.out.below hb7); have B7 := Aside0.mk (below_step B6.out hb7); clear hd7 hb7) | (go_at_call 13; (with_reducible refine (WHL.out _ _ _ (Kd.S_reads' R5.out).2.2 (Kd.S_reads' R5.out).2.1).mono ?_); rintro e w6 ⟨rfl, hb6⟩; have R6 := Aside0.mk (Kd.S_below R5.out hb6); have D6 := Aside0.mk (D5.out.below hb6); have B6 := Aside0.mk (below_step B5.out hb6); clear hb6) | (go_at_call 12; (with_reducible refine (ALL.out _ D4.out).mono ?_); rintro e w5 ⟨A5, c5, rfl, hr5, hb5⟩; have R5 := Aside0.mk hr5; have D5 := Aside0.mk (D4.out.below hb5); have B5 := Aside0.mk (below_step B4.out hb5); clear hr5 hb5) | (go_at_call 11; (with_reducible refine WRK.out.mono ?_); rintro e w4 ⟨rfl, hd4, hb4⟩; have D4 := Aside0.mk hd4; have B4 := Aside0.mk hb4; clear hd4 hb4))
      go_loopg [21] 20 (fun kq v21 w' => ∃ j2 : Nat, v21 = .int .i64 (j2 : Int) ∧ Aside0 (j2 + kq = 20) ∧ Aside0 (Dk (fun _ => True) 52 w' o s4) ∧ Aside0 (Kd.S (Kd.slice 5 (Kd.int .u8)) 27 w' w4.heap.size (fun _ => True) (.slice A5 20 c5) s4.now) ∧ Aside0 (Below w.heap.size w w'))
      case atStart => exact ⟨0, (by first | rfl | (simp; done)), ⟨by omega⟩, D8, R8, B8⟩
      case round =>
        have HC5 : Aside0 (20 ≤ c5) := ⟨(Kd.S_reads' R8.out).2.1⟩
        clear D4 B4 D5 B5 R5 D6 B6 R6 D7 B7 R7 D8 B8 R8
        obtain ⟨j2, rfl, HJ2, D8, R8, B8⟩ := hrel
        by_cases cj2 : j2 < 20
        · have u1 : decide ((j2 : Int) < 20) = true := decide_eq_true (by omega)
          have u1' : decide (j2 < 20) = true := decide_eq_true cj2
          cases gk with
          | zero => have := HJ2.out; omega
          | succ k2 =>
            obtain ⟨r, hr1, hr2⟩ := frame_f (s4.now.drop j2) (fun l hl => S4.out.bytes l (List.mem_of_mem_drop hl)) (by rw [List.length_drop, LN.out]; omega) (1 + (g : Int)) (1 + (k : Int)) (by omega) (by omega) (by omega) (by omega)
            rw [List.length_drop] at hr2
            replace hr2 := (RdIs.drop (by rw [LN.out]; omega)).mp hr2
            rw [LN.out] at hr2
            obtain ⟨L, q, B, hL, hq, hB, hn, hLs, hq2⟩ := rd_fr S4.out.bytes (by omega) hr2
            rw [hL, hq, hB] at hr1
            have HR1 := Aside0.mk hr1
            have HLS := Aside0.mk hLs
            have RDT : Aside0 (∀ w', Dk (fun _ => True) 52 w' o s4 → Calls Try.prog 14 #[.pointer (some ⟨o.g, 0, none⟩), .int .i64 (j2 : Int), .int .i64 20, .int .i64 (1 + (g : Int)), .int .i64 (1 + (k : Int))] w' fun e w'' => ∃ A c, e = .returned (.tuple #[.slice A L.length c, .int .i64 (bif B then (q : Int) + (j2 : Int) else (q : Int)), .bool B]) ∧ Kd.R (Kd.int .u8) 5 w'' w'.heap.size (fun _ => True) (.slice A L.length c) L ∧ Below w'.heap.size w' w'') := ⟨fun w' h => by
              refine (Td.calls o s4 w' h S4.out.bytes j2 20 (1 + (g : Int)) (1 + (k : Int)) (by omega) (by rw [LN.out]; omega)).mono ?_
              rintro e w'' ⟨v, r', q1, q2, q3, q4⟩
              obtain rfl := hr2.one q4
              obtain ⟨A, c, rfl⟩ := Kd.R_slice q2
              rw [hL, hB, hn] at q1
              rw [hL] at q2
              exact ⟨A, c, q1, q2, q3⟩⟩
            obtain ⟨ib, hib, _, hszb, _⟩ := info_parts info27
            have hcut := cut_from (P := Try.prog) 22 27 .i64 Try.underlying22 hib 1 hszb A5 20 c5 (j2 : Int) (by omega) (by omega)
            obtain ⟨Aj, hAj⟩ : ∃ X, X = (if c5 = j2 then A5 else A5.map (·.add (j2 * 1))) := ⟨_, rfl⟩
            simp only [Int.toNat_natCast, ← hAj] at hcut
            have FRM : Aside0 (∀ w', Kd.C (Kd.slice 5 (Kd.int .u8)) w' A5 s4.now.length s4.now → Calls Try.prog 15 #[.slice Aj (20 - j2) (c5 - j2), .int .i64 (1 + (g : Int)), .int .i64 (1 + (k : Int))] w' fun e w'' => ∃ A c, e = .returned (.tuple #[.slice A L.length c, .int .i64 (q : Int), .bool B]) ∧ Kd.R (Kd.int .u8) 5 w'' w'.heap.size (fun _ => True) (.slice A L.length c) L ∧ Below w'.heap.size w' w'') := ⟨fun w' h => by
              have h2 := Kd.C_drop h (m := j2) (c := c5) (by rw [LN.out]; omega) (by rw [LN.out]; exact HC5.out)
              have h3 : Kd.C (Kd.slice 5 (Kd.int .u8)) w' Aj (s4.now.drop j2).length (s4.now.drop j2) := by rw [hAj]; exact h2
              have h4 := chatelaineref24_Frame.calls 2000 Aj (c5 - j2) (s4.now.drop j2) (1 + (g : Int)) (1 + (k : Int)) L (q : Int) B w' h3 (by rw [List.length_drop, LN.out]; have := HC5.out; omega) HR1.out
              rw [List.length_drop, LN.out] at h4
              refine h4.mono ?_
              rintro e w'' ⟨v, q1, q2, q3⟩
              obtain ⟨A, c, rfl⟩ := Kd.R_slice q2
              exact ⟨A, c, q1, q2, q3⟩⟩
            have SBL : Aside0 (∀ w' A c A' c', Kd.C (Kd.int .u8) w' A L.length L → L.length ≤ c → Kd.C (Kd.int .u8) w' A' L.length L → L.length ≤ c' → Calls Try.prog 16 #[.slice A L.length c, .slice A' L.length c'] w' fun e w'' => e = .returned (.bool true) ∧ Below w'.heap.size w' w'') := ⟨fun w' A c A' c' h1 h2 h3 h4 => by
              have := Sb.calls A c L A' c' L w' h1 h2 h3 h4 HLS.out
              rw [decide_eq_true (rfl : L = L)] at this
              exact this⟩
            have HCJ2 := Aside0.mk cj2
            have u2 : ((j2 : Int) ≤ 20) = True := eq_true (by omega)
            have u3 : (0 ≤ (j2 : Int)) = True := eq_true (by omega)
            clear hr1 hr2 hL hq hB hn hLs hAj hib hszb
            cases B
            all_goals
              go_wp2_with (first | (go_at_call 16; (with_reducible refine (SBL.out _ _ _ _ _ (Kd.R_reads' X10.out).2.2 (Kd.R_reads' X10.out).2.1 (Kd.R_reads' Y10.out).2.2 (Kd.R_reads' Y10.out).2.1).mono ?_); rintro e w11 ⟨rfl, hb11⟩; have R11 := Aside0.mk (Kd.S_below R10.out hb11); have D11 := Aside0.mk (D10.out.below hb11); have B11 := Aside0.mk (below_step B10.out hb11); clear hb11) | (go_at_call 15; (with_reducible refine (FRM.out _ (Kd.S_reads' R9.out).2.2).mono ?_); rintro e w10 ⟨A10, c10, rfl, hr10, hb10⟩; have Y10 := Aside0.mk hr10; have X10 := Aside0.mk (Kd.R_below X9.out hb10); have R10 := Aside0.mk (Kd.S_below R9.out hb10); have D10 := Aside0.mk (D9.out.below hb10); have B10 := Aside0.mk (below_step B9.out hb10); clear hr10 hb10) | (go_at_call 14; (with_reducible refine (RDT.out _ D8.out).mono ?_); rintro e w9 ⟨A9, c9, rfl, hr9, hb9⟩; have X9 := Aside0.mk hr9; have R9 := Aside0.mk (Kd.S_below R8.out hb9); have D9 := Aside0.mk (D8.out.below hb9); have B9 := Aside0.mk (below_step B8.out hb9); clear hr9 hb9))
              go_roundg k2
              case measure => omega
              case rel => exact ⟨j2 + 1, (by
                have hw : wrap64 ((j2 : Int) + 1) = ((j2 + 1 : Nat) : Int) := by have := HCJ2.out; unfold wrap64; omega
                first | rfl | (rw [← hw]; rfl) | (simp [*]; done)), ⟨by have := HJ2.out; omega⟩, D11, R11, B11⟩
        · have u1 : decide ((j2 : Int) < 20) = false := decide_eq_false (by omega)
          have u1' : decide (j2 < 20) = false := decide_eq_false cj2
          go_wp2_with (first | (go_at_call 6; (with_reducible refine (Ak.calls _).mono ?_); rintro e w9 ⟨rfl, hb9⟩; have B9 := Aside0.mk (below_step B8.out hb9); clear hb9))
          go_ret
          exact ⟨rfl, B9.out⟩
    have z1 : decide ((j : Int) < (ls.length : Int)) = true := decide_eq_true (by omega)
    have z1' : decide (j < ls.length) = true := decide_eq_true cj
    by_cases cg_ : j < gs.length
    rotate_left
    · have z2 : decide ((j : Int) < (gs.length : Int)) = false := decide_eq_false (by omega)
      have z2' : decide (j < gs.length) = false := decide_eq_false cg_
      obtain ⟨x, hx, hlow⟩ := low_f at_ 10240 (by decide) (by decide)
      have HLOWX : Aside0 (chatelainelaw0_Low.f at_ 10240 = some (x : Int)) := ⟨hlow⟩
      obtain ⟨i, hi⟩ : ∃ i : Nat, i = x / 512 := ⟨_, rfl⟩
      obtain ⟨y, hy⟩ : ∃ y : Nat, y = x % 512 := ⟨_, rfl⟩
      have ti : Int.tdiv (x : Int) 512 = (i : Int) := by rw [Int.tdiv_eq_ediv_of_nonneg (by omega)]; omega
      have ty : Int.tmod (x : Int) 512 = (y : Int) := by rw [Int.tmod_eq_emod_of_nonneg (by omega)]; omega
      have hi20 : i < 20 := by omega
      have hy512 : y < 512 := by omega
      clear hlow hi hy HJ
      obtain ⟨lb, hlb⟩ : ∃ lb, s.now[i]? = some lb := ⟨_, List.getElem?_eq_getElem (by rw [S1.out.l20]; exact hi20)⟩
      have LB : Aside0 (IsB lb ∧ lb.length = 512) := ⟨S1.out.bytes.at hlb⟩
      have RDK : Aside0 (∀ w', Dk (fun _ => True) 52 w' o s → Calls Try.prog 10 #[.pointer (some ⟨o.g, 0, none⟩), .int .i64 (i : Int)] w' fun e w'' => ∃ A' c', e = .returned (.tuple #[.slice A' 512 c', .nilIface]) ∧ Kd.R (Kd.int .u8) 5 w'' w'.heap.size (fun _ => True) (.slice A' 512 c') lb ∧ Below w'.heap.size w' w'') := ⟨fun w' h => by
        refine (Dk_Read.calls o s w' h i (by rw [S1.out.l20]; exact hi20) lb hlb (clone_f lb (by rw [LB.out.2]; omega))).mono ?_
        rintro e w'' ⟨v, q1, q2, q3⟩
        obtain ⟨A', c', rfl⟩ := Kd.R_slice q2
        rw [LB.out.2] at q1 q2
        exact ⟨A', c', q1, q2, q3⟩⟩
      clear hlb
      go_upto_region 19 with (first | (go_at_call 10; (with_reducible refine (RDK.out _ D2.out).mono ?_); rintro e w3 ⟨A3, c3, rfl, hr3, hb3⟩; have R3 := Aside0.mk hr3; have B23 := Aside0.mk hb3; have D3 := Aside0.mk (D2.out.below hb3); have B3 := Aside0.mk (below_step B2.out hb3); clear hr3 hb3) | (go_at_call 9; (with_reducible refine (chatelainelaw0_Low.calls _ _ _ _ HLOWX.out).mono ?_); rintro e w2 ⟨rfl, hd2⟩; have hb2 := hd2.below; have D2 := Aside0.mk (D1.out.below hb2); have B2 := Aside0.mk (below_step B1.out hb2); clear hd2 hb2))
      obtain ⟨go, co, eo, gb, gl, cl, HG⟩ := Kd.R_form R3.out (by rw [LB.out.2]; decide)
      (first | cases eo | (injection eo with ea_ en_ ec_; (first | subst ea_ | (injection ea_ with ea_; subst ea_)); subst ec_; clear en_))
      have GB2 : Aside0 (w2.heap.size ≤ go) := ⟨gb⟩
      have GG := Aside0.mk HG
      clear gb gl HG
      obtain ⟨hq, hfq⟩ := Kd.R_celln 0 R3.out (y : Int) (by omega) (by omega)
      have p0 : (0 ≤ (y : Int)) = True := eq_true (by omega)
      have p1 : ((y : Int) < 512) = True := eq_true (by omega)
      rw [Int.toNat_natCast] at hq hfq
      obtain ⟨z, hz⟩ : ∃ z, z = bits .xor .u8 (rdOf 0 lb (y : Int)) by_ := ⟨_, rfl⟩
      have ZB : Aside0 (0 ≤ z ∧ z < 256) := ⟨by rw [hz]; exact xor_B _ _⟩
      have HW4 : Below w2.heap.size w2 (w3.setCell ⟨go, y, none⟩ (.int .u8 z)) := below_set B23.out GB2.out
      have R4 := Kd.R_putn R3.out (y : Int) z
      rw [Int.toNat_natCast] at R4
      obtain ⟨l', hl'⟩ : ∃ l', l' = lb.set y z := ⟨_, rfl⟩
      rw [← hl'] at R4
      have L' : Aside0 (IsB l' ∧ l'.length = 512) := ⟨by
        rw [hl']
        exact ⟨fun x hx => by
          rcases List.mem_or_eq_of_mem_set hx with h | h
          · exact LB.out.1 x h
          · rw [h]; exact ZB.out, List.length_set.trans LB.out.2⟩⟩
      obtain ⟨s4, hs4⟩ : ∃ s4 : DS, s4 = { s with now := s.now.set i l', dirty := s.dirty.set i true } := ⟨_, rfl⟩
      have S4 : Aside0 (S20 s4) := ⟨by
        rw [hs4]
        refine ⟨fun x hx => ?_, List.length_set.trans S1.out.l20⟩
        rcases List.mem_or_eq_of_mem_set hx with h | h
        · exact S1.out.bytes x h
        · rw [h]; exact L'.out⟩
      have WRK : Aside0 (Calls Try.prog 11 #[.pointer (some ⟨o.g, 0, none⟩), .int .i64 (i : Int), .slice (some ⟨go, 0, none⟩) 512 c3] (w3.setCell ⟨go, y, none⟩ (.int .u8 z)) fun e w'' => e = .returned .nilIface ∧ Dk (fun _ => True) 52 w'' o s4 ∧ Below w.heap.size w w'') := ⟨by
        have D4 := D2.out.below HW4
        have B4 := below_step B2.out HW4
        have h1 := (Kd.R_reads' R4).2.2
        have h2 := (Kd.R_reads' R4).2.1
        have e5 : (512 : Nat) = l'.length := L'.out.2.symm
        rw [e5] at h2 ⊢
        refine (Dk_WriteOk.calls o s _ D4 (some ⟨go, 0, none⟩) c3 l' h1 h2 L'.out.2 (clone_f l' (by rw [L'.out.2]; omega)) i (by rw [S1.out.l20]; exact hi20) (fun _ _ => trivial)).mono ?_
        rintro e w'' ⟨q1, q2, q3⟩
        rw [hs4]
        exact ⟨q1, q2, q3.below GE.out B4.size B4⟩⟩
      have LN := Aside0.mk S4.out.l20
      have ALL : Aside0 (∀ w', Dk (fun _ => True) 52 w' o s4 → Calls Try.prog 12 #[.pointer (some ⟨o.g, 0, none⟩)] w' fun e w'' => ∃ A c, e = .returned (.slice A 20 c) ∧ Kd.S (Kd.slice 5 (Kd.int .u8)) 27 w'' w'.heap.size (fun _ => True) (.slice A 20 c) s4.now ∧ Below w'.heap.size w' w'') := ⟨fun w' h => by
        refine (Al.calls o s4 w' h (fun l hl => (S4.out.bytes l hl).2)).mono ?_
        rintro e w'' ⟨v, q1, q2, q3⟩
        obtain ⟨A, c, rfl⟩ := Kd.S_slice q2
        rw [LN.out] at q1 q2
        exact ⟨A, c, q1, q2, q3⟩⟩
      have WHL : Aside0 (∀ w' A c, Kd.C (Kd.slice 5 (Kd.int .u8)) w' A s4.now.length s4.now → 20 ≤ c → Calls Try.prog 13 #[.slice A 20 c] w' fun e w'' => e = .returned (.bool true) ∧ Below w'.heap.size w' w'') := ⟨fun w' A c h1 h2 => by
        have := chatelainelaw24_whole.calls 2000 A c s4.now true w' h1 (by rw [LN.out]; exact h2) (whole_f s4.now (by rw [LN.out]; decide) (fun l hl => (S4.out.bytes l hl).2))
        rw [LN.out] at this
        exact this.mono fun e w'' h => ⟨h.1, h.2.below⟩⟩
      obtain ⟨g, hg, hlow1⟩ := low_f gen 3 (by decide) (by decide)
      obtain ⟨k, hk, hlow2⟩ := low_f number 9 (by decide) (by decide)
      have HLG : Aside0 (chatelainelaw0_Low.f gen 3 = some (g : Int)) := ⟨hlow1⟩
      have HLK : Aside0 (chatelainelaw0_Low.f number 9 = some (k : Int)) := ⟨hlow2⟩
      rw [hz] at WRK
      clear hz hl' R4 HW4 hs4 hlow1 hlow2
      go_wp2_with (first | (go_at_call 9; (with_reducible refine (chatelainelaw0_Low.calls _ _ _ _ HLK.out).mono ?_); rintro e w8 ⟨rfl, hd8⟩; have hb8 := hd8.below; have R8 := Aside0.mk (Kd.S_below R7.out hb8); have D8 := Aside0.mk (D7.out.below hb8); have B8 := Aside0.mk (below_step B7.out hb8); clear hd8 hb8) | (go_at_call 9; (with_reducible refine (chatelainelaw0_Low.calls _ _ _ _ HLG.out).mono ?_); rintro e w7 ⟨rfl, hd7⟩; have hb7 := hd7.below; have R7 := Aside0.mk (Kd.S_below R6.out hb7); have D7 := Aside0.mk (D6.out.below hb7); have B7 := Aside0.mk (below_step B6.out hb7); clear hd7 hb7) | (go_at_call 13; (with_reducible refine (WHL.out _ _ _ (Kd.S_reads' R5.out).2.2 (Kd.S_reads' R5.out).2.1).mono ?_); rintro e w6 ⟨rfl, hb6⟩; have R6 := Aside0.mk (Kd.S_below R5.out hb6); have D6 := Aside0.mk (D5.out.below hb6); have B6 := Aside0.mk (below_step B5.out hb6); clear hb6) | (go_at_call 12; (with_reducible refine (ALL.out _ D4.out).mono ?_); rintro e w5 ⟨A5, c5, rfl, hr5, hb5⟩; have R5 := Aside0.mk hr5; have D5 := Aside0.mk (D4.out.below hb5); have B5 := Aside0.mk (below_step B4.out hb5); clear hr5 hb5) | (go_at_call 11; (with_reducible refine WRK.out.mono ?_); rintro e w4 ⟨rfl, hd4, hb4⟩; have D4 := Aside0.mk hd4; have B4 := Aside0.mk hb4; clear hd4 hb4))
      go_loopg [21] 20 (fun kq v21 w' => ∃ j2 : Nat, v21 = .int .i64 (j2 : Int) ∧ Aside0 (j2 + kq = 20) ∧ Aside0 (Dk (fun _ => True) 52 w' o s4) ∧ Aside0 (Kd.S (Kd.slice 5 (Kd.int .u8)) 27 w' w4.heap.size (fun _ => True) (.slice A5 20 c5) s4.now) ∧ Aside0 (Below w.heap.size w w'))
      case atStart => exact ⟨0, (by first | rfl | (simp; done)), ⟨by omega⟩, D8, R8, B8⟩
      case round =>
        have HC5 : Aside0 (20 ≤ c5) := ⟨(Kd.S_reads' R8.out).2.1⟩
        clear D4 B4 D5 B5 R5 D6 B6 R6 D7 B7 R7 D8 B8 R8
        obtain ⟨j2, rfl, HJ2, D8, R8, B8⟩ := hrel
        by_cases cj2 : j2 < 20
        · have u1 : decide ((j2 : Int) < 20) = true := decide_eq_true (by omega)
          have u1' : decide (j2 < 20) = true := decide_eq_true cj2
          cases gk with
          | zero => have := HJ2.out; omega
          | succ k2 =>
            obtain ⟨r, hr1, hr2⟩ := frame_f (s4.now.drop j2) (fun l hl => S4.out.bytes l (List.mem_of_mem_drop hl)) (by rw [List.length_drop, LN.out]; omega) (1 + (g : Int)) (1 + (k : Int)) (by omega) (by omega) (by omega) (by omega)
            rw [List.length_drop] at hr2
            replace hr2 := (RdIs.drop (by rw [LN.out]; omega)).mp hr2
            rw [LN.out] at hr2
            obtain ⟨L, q, B, hL, hq, hB, hn, hLs, hq2⟩ := rd_fr S4.out.bytes (by omega) hr2
            rw [hL, hq, hB] at hr1
            have HR1 := Aside0.mk hr1
            have HLS := Aside0.mk hLs
            have RDT : Aside0 (∀ w', Dk (fun _ => True) 52 w' o s4 → Calls Try.prog 14 #[.pointer (some ⟨o.g, 0, none⟩), .int .i64 (j2 : Int), .int .i64 20, .int .i64 (1 + (g : Int)), .int .i64 (1 + (k : Int))] w' fun e w'' => ∃ A c, e = .returned (.tuple #[.slice A L.length c, .int .i64 (bif B then (q : Int) + (j2 : Int) else (q : Int)), .bool B]) ∧ Kd.R (Kd.int .u8) 5 w'' w'.heap.size (fun _ => True) (.slice A L.length c) L ∧ Below w'.heap.size w' w'') := ⟨fun w' h => by
              refine (Td.calls o s4 w' h S4.out.bytes j2 20 (1 + (g : Int)) (1 + (k : Int)) (by omega) (by rw [LN.out]; omega)).mono ?_
              rintro e w'' ⟨v, r', q1, q2, q3, q4⟩
              obtain rfl := hr2.one q4
              obtain ⟨A, c, rfl⟩ := Kd.R_slice q2
              rw [hL, hB, hn] at q1
              rw [hL] at q2
              exact ⟨A, c, q1, q2, q3⟩⟩
            obtain ⟨ib, hib, _, hszb, _⟩ := info_parts info27
            have hcut := cut_from (P := Try.prog) 22 27 .i64 Try.underlying22 hib 1 hszb A5 20 c5 (j2 : Int) (by omega) (by omega)
            obtain ⟨Aj, hAj⟩ : ∃ X, X = (if c5 = j2 then A5 else A5.map (·.add (j2 * 1))) := ⟨_, rfl⟩
            simp only [Int.toNat_natCast, ← hAj] at hcut
            have FRM : Aside0 (∀ w', Kd.C (Kd.slice 5 (Kd.int .u8)) w' A5 s4.now.length s4.now → Calls Try.prog 15 #[.slice Aj (20 - j2) (c5 - j2), .int .i64 (1 + (g : Int)), .int .i64 (1 + (k : Int))] w' fun e w'' => ∃ A c, e = .returned (.tuple #[.slice A L.length c, .int .i64 (q : Int), .bool B]) ∧ Kd.R (Kd.int .u8) 5 w'' w'.heap.size (fun _ => True) (.slice A L.length c) L ∧ Below w'.heap.size w' w'') := ⟨fun w' h => by
              have h2 := Kd.C_drop h (m := j2) (c := c5) (by rw [LN.out]; omega) (by rw [LN.out]; exact HC5.out)
              have h3 : Kd.C (Kd.slice 5 (Kd.int .u8)) w' Aj (s4.now.drop j2).length (s4.now.drop j2) := by rw [hAj]; exact h2
              have h4 := chatelaineref24_Frame.calls 2000 Aj (c5 - j2) (s4.now.drop j2) (1 + (g : Int)) (1 + (k : Int)) L (q : Int) B w' h3 (by rw [List.length_drop, LN.out]; have := HC5.out; omega) HR1.out
              rw [List.length_drop, LN.out] at h4
              refine h4.mono ?_
              rintro e w'' ⟨v, q1, q2, q3⟩
              obtain ⟨A, c, rfl⟩ := Kd.R_slice q2
              exact ⟨A, c, q1, q2, q3⟩⟩
            have SBL : Aside0 (∀ w' A c A' c', Kd.C (Kd.int .u8) w' A L.length L → L.length ≤ c → Kd.C (Kd.int .u8) w' A' L.length L → L.length ≤ c' → Calls Try.prog 16 #[.slice A L.length c, .slice A' L.length c'] w' fun e w'' => e = .returned (.bool true) ∧ Below w'.heap.size w' w'') := ⟨fun w' A c A' c' h1 h2 h3 h4 => by
              have := Sb.calls A c L A' c' L w' h1 h2 h3 h4 HLS.out
              rw [decide_eq_true (rfl : L = L)] at this
              exact this⟩
            have HCJ2 := Aside0.mk cj2
            have u2 : ((j2 : Int) ≤ 20) = True := eq_true (by omega)
            have u3 : (0 ≤ (j2 : Int)) = True := eq_true (by omega)
            clear hr1 hr2 hL hq hB hn hLs hAj hib hszb
            cases B
            all_goals
              go_wp2_with (first | (go_at_call 16; (with_reducible refine (SBL.out _ _ _ _ _ (Kd.R_reads' X10.out).2.2 (Kd.R_reads' X10.out).2.1 (Kd.R_reads' Y10.out).2.2 (Kd.R_reads' Y10.out).2.1).mono ?_); rintro e w11 ⟨rfl, hb11⟩; have R11 := Aside0.mk (Kd.S_below R10.out hb11); have D11 := Aside0.mk (D10.out.below hb11); have B11 := Aside0.mk (below_step B10.out hb11); clear hb11) | (go_at_call 15; (with_reducible refine (FRM.out _ (Kd.S_reads' R9.out).2.2).mono ?_); rintro e w10 ⟨A10, c10, rfl, hr10, hb10⟩; have Y10 := Aside0.mk hr10; have X10 := Aside0.mk (Kd.R_below X9.out hb10); have R10 := Aside0.mk (Kd.S_below R9.out hb10); have D10 := Aside0.mk (D9.out.below hb10); have B10 := Aside0.mk (below_step B9.out hb10); clear hr10 hb10) | (go_at_call 14; (with_reducible refine (RDT.out _ D8.out).mono ?_); rintro e w9 ⟨A9, c9, rfl, hr9, hb9⟩; have X9 := Aside0.mk hr9; have R9 := Aside0.mk (Kd.S_below R8.out hb9); have D9 := Aside0.mk (D8.out.below hb9); have B9 := Aside0.mk (below_step B8.out hb9); clear hr9 hb9))
              go_roundg k2
              case measure => omega
              case rel => exact ⟨j2 + 1, (by
                have hw : wrap64 ((j2 : Int) + 1) = ((j2 + 1 : Nat) : Int) := by have := HCJ2.out; unfold wrap64; omega
                first | rfl | (rw [← hw]; rfl) | (simp [*]; done)), ⟨by have := HJ2.out; omega⟩, D11, R11, B11⟩
        · have u1 : decide ((j2 : Int) < 20) = false := decide_eq_false (by omega)
          have u1' : decide (j2 < 20) = false := decide_eq_false cj2
          go_wp2_with (first | (go_at_call 6; (with_reducible refine (Ak.calls _).mono ?_); rintro e w9 ⟨rfl, hb9⟩; have B9 := Aside0.mk (below_step B8.out hb9); clear hb9))
          go_ret
          exact ⟨rfl, B9.out⟩
    have z2 : decide ((j : Int) < (gs.length : Int)) = true := decide_eq_true (by omega)
    have z2' : decide (j < gs.length) = true := decide_eq_true cg_
    have z3 : ((j : Int) < (ls.length : Int)) = True := eq_true (by omega)
    have z4 : ((j : Int) < (gs.length : Int)) = True := eq_true (by omega)
    have z5 : (0 ≤ (j : Int)) = True := eq_true (by omega)
    cases gk with
    | zero => have := HJ.out.1; omega
    | succ k1 =>
      obtain ⟨ad, A0, c0, rfl, hx, hl0, hc0⟩ := row_at HC.out j cj
      obtain ⟨ag, xg, rfl, hxg⟩ := gens_at HGS.out j cg_
      obtain ⟨l, hll⟩ : ∃ l, l = ls.getD j [] := ⟨_, rfl⟩
      rw [← hll] at hx hl0 hc0
      have HC0 := Aside0.mk hc0
      have HL0 := Aside0.mk hl0
      have HLB : Aside0 (IsB l) := ⟨by rw [hll]; exact rows_len ls HIB.out j⟩
      clear hl0 hc0 hll
      have HX := Aside0.mk hx
      have HXG := Aside0.mk hxg
      replace hx := pw_cell_below B1.out hx
      replace hxg := pw_cell_below B1.out hxg
      by_cases cl : 1500 < l.length
      · have y1 : decide (1500 < (l.length : Int)) = true := decide_eq_true (by omega)
        have y2 : decide (1500 < l.length) = true := decide_eq_true cl
        go_wp2_with (first | (go_at_call 6; (with_reducible refine (Ak.calls _).mono ?_); rintro e w9 ⟨rfl, hb9⟩; have B9 := Aside0.mk (below_step B1.out hb9); clear hb9))
        go_ret
        exact ⟨rfl, B9.out⟩
      have y1 : decide (1500 < (l.length : Int)) = false := decide_eq_false (by omega)
      have y2 : decide (1500 < l.length) = false := decide_eq_false cl
      have HCL : Aside0 (l.length ≤ 1500) := ⟨by omega⟩
      obtain ⟨r, hr, hlow⟩ := low_f xg 3 (by decide) (by decide)
      have HLOW : Aside0 (chatelainelaw0_Low.f xg 3 = some (r : Int)) := ⟨hlow⟩
      obtain ⟨m, hm⟩ : ∃ m, m = prts l.length := ⟨_, rfl⟩
      have hm1 : 1 ≤ m ∧ m ≤ 4 := by rw [hm]; unfold prts; omega
      have HM := Aside0.mk hm
      have HS0 := Aside0.mk (And.intro hx hxg)
      have hj1 : j < 8 := by omega
      have HP : Aside0 (p ≤ 20) := ⟨HJ.out.2⟩
      have hp1 := HP.out
      have HCJ := Aside0.mk cj
      clear hm hlow
      have hw1 : IntKind.i64.wrap (1 + (r : Int)) = 1 + (r : Int) := (i64_w _).trans (w64' (by omega) (by omega))
      have hw2 : IntKind.i64.wrap (1 + (j : Int)) = 1 + (j : Int) := (i64_w _).trans (w64' (by omega) (by omega))
      by_cases cf : p + m ≤ 20
      · have WRT : Aside0 (∀ w0 w', Dk (fun _ => True) 52 w0 o s → Below w.heap.size w w0 → Below w0.heap.size w0 w' → Calls Try.prog 8 #[.pointer (some ⟨o.g, 0, none⟩), .int .i64 (p : Int), .int .i64 20, .int .i64 (1 + (r : Int)), .int .i64 (1 + (j : Int)), .slice A0 l.length c0] w' fun e w'' => e = .returned (.tuple #[.int .i64 ((p : Int) + (m : Int)), .nilIface]) ∧ (∃ s', S20 s' ∧ Dk (fun _ => True) 52 w'' o s') ∧ Below w.heap.size w w'') := ⟨fun w0 w' h0 h1 h2 => by
          have h3 := below_step h1 h2
          refine (Tw_Ok.calls o s w' (h0.below h2) p 20 (1 + (r : Int)) (1 + (j : Int)) A0 c0 l (Kd.C_below HC0.out h3) HL0.out (by have := HCL.out; omega) (fun ad e hne hh => by have := row_lt HC0.out ad e hne; have := GE.out _ hh; omega) (by rw [← HM.out]; exact cf) (Nat.le_of_eq S1.out.l20.symm) (by omega) (by omega)).mono ?_
          rintro e w'' ⟨q1, q2, q3⟩
          rw [← HM.out, Int.natCast_add] at q1
          exact ⟨q1, ⟨_, ⟨DS.lay_AllB S1.out.bytes _ _ _ _ HLB.out _, (DS.lay_len _ _ _ _ _ _ _).trans S1.out.l20⟩, q2⟩, q3.below GE.out h3.size h3⟩⟩
        go_wp2
        go_region_held3 (fun w' => w'.cell? (ad.add j) = some (.slice A0 l.length c0) ∧ w'.cell? (ag.add j) = some (.int .i64 xg)) (first | exact HS0.out | exact S2.out | exact S3.out | go_keep) (first | (go_at_call 8; (with_reducible refine (WRT.out _ _ D2.out B2.out ?side1).mono ?_); (case side1 => exact (by repeat (first | exact Below.refl _ _ | apply below_drew1 | apply pw_below_drewN))); rintro e w3 ⟨rfl, hd3, hb3⟩; have B3 := Aside0.mk hb3; have S3 : Aside0 (w3.cell? (ad.add j) = some (.slice A0 l.length c0) ∧ w3.cell? (ag.add j) = some (.int .i64 xg)) := ⟨pw_cell_below B3.out HX.out, pw_cell_below B3.out HXG.out⟩; clear hb3; obtain ⟨s3, hs3, hd3⟩ := hd3; have SS3 := Aside0.mk hs3; have D3 := Aside0.mk hd3; clear hs3 hd3) | (go_at_call 9; (with_reducible refine (chatelainelaw0_Low.calls _ _ _ _ HLOW.out).mono ?_); rintro e w2 ⟨rfl, hd2⟩; have hb2 := below_undrew hd2.below; have D2 := Aside0.mk (D1.out.below hb2); have B2 := Aside0.mk (below_step B1.out hb2); have S2 : Aside0 (w2.cell? (ad.add j) = some (.slice A0 l.length c0) ∧ w2.cell? (ag.add j) = some (.int .i64 xg)) := ⟨pw_cell_below B2.out HX.out, pw_cell_below B2.out HXG.out⟩; clear hd2 hb2))
        all_goals
          go_wp2
          go_roundg k1
          case measure => omega
          case rel => exact ⟨p + m, j + 1, s3, (by first | rfl | (simp; done) | (simp [*]; done)), (by
            have hw : wrap64 ((j : Int) + 1) = ((j + 1 : Nat) : Int) := by unfold wrap64; omega
            first | rfl | (rw [← hw]; rfl) | (simp [*]; done)), ⟨by have := HJ.out.1; omega, by omega⟩, SS3, D3, B3⟩
      · have WRT : Aside0 (∀ w0 w', Dk (fun _ => True) 52 w0 o s → Below w.heap.size w w0 → Below w0.heap.size w0 w' → Calls Try.prog 8 #[.pointer (some ⟨o.g, 0, none⟩), .int .i64 (p : Int), .int .i64 20, .int .i64 (1 + (r : Int)), .int .i64 (1 + (j : Int)), .slice A0 l.length c0] w' fun e w'' => ∃ gf, e = .returned (.tuple #[.int .i64 0, .iface 70 (.pointer (some ⟨gf, 0, none⟩))]) ∧ Dk (fun _ => True) 52 w'' o s ∧ Below w.heap.size w w'') := ⟨fun w0 w' h0 h1 h2 => by
          have h3 := below_step h1 h2
          refine (Tw_full.calls o s (p : Int) 20 (1 + (r : Int)) (1 + (j : Int)) A0 l.length c0 w' (h0.below h2) (by have := S1.out.l20; have := HP.out; unfold OffP; omega) (by omega) (by omega) (by have := HCL.out; omega) (by rw [← HM.out]; omega)).mono ?_
          rintro e w'' ⟨v, q1, ⟨gf, cs, rfl, q2⟩, q3⟩
          exact ⟨gf, q1, (h0.below h2).below q3, below_step h3 q3⟩⟩
        go_wp2
        go_region_held3 (fun w' => w'.cell? (ad.add j) = some (.slice A0 l.length c0) ∧ w'.cell? (ag.add j) = some (.int .i64 xg)) (first | exact HS0.out | exact S2.out | exact S3.out | go_keep) (first | (go_at_call 8; (with_reducible refine (WRT.out _ _ D2.out B2.out ?side1).mono ?_); (case side1 => exact (by repeat (first | exact Below.refl _ _ | apply below_drew1 | apply pw_below_drewN))); rintro e w3 ⟨gf3, rfl, hd3, hb3⟩; have B3 := Aside0.mk hb3; have D3 := Aside0.mk hd3; have S3 : Aside0 (w3.cell? (ad.add j) = some (.slice A0 l.length c0) ∧ w3.cell? (ag.add j) = some (.int .i64 xg)) := ⟨pw_cell_below B3.out HX.out, pw_cell_below B3.out HXG.out⟩; clear hb3 hd3) | (go_at_call 9; (with_reducible refine (chatelainelaw0_Low.calls _ _ _ _ HLOW.out).mono ?_); rintro e w2 ⟨rfl, hd2⟩; have hb2 := below_undrew hd2.below; have D2 := Aside0.mk (D1.out.below hb2); have B2 := Aside0.mk (below_step B1.out hb2); have S2 : Aside0 (w2.cell? (ad.add j) = some (.slice A0 l.length c0) ∧ w2.cell? (ag.add j) = some (.int .i64 xg)) := ⟨pw_cell_below B2.out HX.out, pw_cell_below B2.out HXG.out⟩; clear hd2 hb2))
        all_goals
          go_wp2
          go_roundg k1
          case measure => omega
          case rel => exact ⟨p, j + 1, s, (by first | rfl | (simp; done) | (simp [*]; done)), (by
            have hw : wrap64 ((j : Int) + 1) = ((j + 1 : Nat) : Int) := by unfold wrap64; omega
            first | rfl | (rw [← hw]; rfl) | (simp [*]; done)), ⟨by have := HJ.out.1; omega, by omega⟩, S1, D3, B3⟩
end

end Go.Proofs.Ytkiofhmpeokipaa.PTA
