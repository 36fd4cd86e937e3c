import Derived.Test.YtkiofhmpeokipaaTkD
namespace Go.Proofs.Ytkiofhmpeokipaa.PTA
open Go.RowKit Go.Proofs.YtkiofhmpeokipaaW.PrintWords Go.Proofs.YtkiofhmpeokipaaW.PrintLast Go.Proofs.YtkiofhmpeokipaaW.PrintMore
attribute [local go_sem] max2_int min2_int max_two min_two max_three min_three max_four min_four
set_option linter.unusedVariables false
set_option linter.unusedSimpArgs false
section
theorem row_lt {w : World} {A : Option Addr} {l : List Int} (h : Kd.C (Kd.int .u8) w A l.length l) : ∀ ad, A = some ad → l ≠ [] → ad.block < w.heap.size := by
  intro ad e hne
  obtain ⟨_, _, a3⟩ := Kd.reads_of_C (d := (0 : Int)) h
  have hl : 0 < l.length := List.length_pos_iff.mpr hne
  obtain ⟨ad2, e2, hcl⟩ := a3 hl
  rw [e] at e2
  cases e2
  have := World.block_lt_of_cell? w _ (hcl 0 hl)
  have hbl : (ad.add 0).block = ad.block := by unfold Addr.add; split <;> rfl
  rw [hbl] at this
  exact this
theorem keep_lt {w : World} {A : Option Addr} {xs : List Bool} (h : Kd.C Kd.bool w A xs.length xs) : ∀ ad, A = some ad → xs ≠ [] → ad.block < w.heap.size := by
  intro ad e hne
  obtain ⟨_, _, a3⟩ := Kd.reads_of_C (d := false) h
  have hl : 0 < xs.length := List.length_pos_iff.mpr hne
  obtain ⟨ad2, e2, hcl⟩ := a3 hl
  rw [e] at e2
  cases e2
  have := World.block_lt_of_cell? w _ (hcl 0 hl)
  have hbl : (ad.add 0).block = ad.block := by unfold Addr.add; split <;> rfl
  rw [hbl] at this
  exact this
theorem TornP.bytes {g g2 : Int} {a b : List Int} (ha : IsB a) (hb : IsB b) {x : Nat} {blk : List Int} (h : TornP g g2 a b x blk) : IsB blk ∧ blk.length = 512 := by
  rcases h with rfl | ⟨_, rfl⟩ | ⟨_, rfl⟩
  · exact ⟨zeroL_B, zeroL_len⟩
  · exact ⟨blkL_B (partL_B ha x), blkL_len _ _ _ _ _ (partL_le a x)⟩
  · exact ⟨blkL_B (partL_B hb x), blkL_len _ _ _ _ _ (partL_le b x)⟩
/-- The four disks. -/
structure Torn (g g2 : Int) (a b : List Int) (s : DS) : Prop where
  among : Among (TornP g g2 a b) s
  l8 : s.now.length = 8
theorem torn0 (g g2 : Int) (a b : List Int) : Torn g g2 a b (newS 8) := ⟨fun x hx => by
  rw [newS_len] at hx
  exact ⟨.inl (newS_at 8 x hx).1, .inl (newS_at 8 x hx).2⟩, newS_len 8⟩
theorem Torn.laya {g g2 : Int} {a b : List Int} {s : DS} (h : Torn g g2 a b s) : Torn g g2 a b (s.lay 0 g 4 (prts a.length) a (prts a.length)) :=
  ⟨h.among.lay 0 g 4 _ a _ fun i hi => .inr (.inl ⟨by omega, by rw [Nat.zero_add]⟩), (DS.lay_len _ _ _ _ _ _ _).trans h.l8⟩
theorem Torn.layb {g g2 : Int} {a b : List Int} {s : DS} (h : Torn g g2 a b s) : Torn g g2 a b (s.lay 0 g2 5 (prts b.length) b (prts b.length)) :=
  ⟨h.among.lay 0 g2 5 _ b _ fun i hi => .inr (.inr ⟨by omega, by rw [Nat.zero_add]⟩), (DS.lay_len _ _ _ _ _ _ _).trans h.l8⟩
theorem Torn.crash {g g2 : Int} {a b : List Int} {s : DS} (h : Torn g g2 a b s) (keep : List Bool) (X : List Nat) (k n : Nat) : Torn g g2 a b (crashL keep X k s n).1 :=
  ⟨(Among.crash keep X k s n h.among).1, (Among.crash keep X k s n h.among).2.trans h.l8⟩
theorem Torn.AllB {g g2 : Int} {a b : List Int} {s : DS} (h : Torn g g2 a b s) (ha : IsB a) (hb : IsB b) : s.AllB := Among.AllB fun x hx => ⟨(h.among x hx).1.bytes ha hb, (h.among x hx).2.bytes ha hb⟩
theorem Torn.read4 {g g2 : Int} {a b : List Int} {s : DS} (h : Torn g g2 a b s) (ha : a.length ≤ 100000) (hb : b.length ≤ 100000) (g0 : 1 ≤ g ∧ g ≤ 1000) (g20 : 1 ≤ g2 ∧ g2 ≤ 1000) {r : Option (List Int)} (hr : RdIs s.now 0 8 g 4 r) : r = none ∨ (r = some a ∧ s.now.getD 0 [] = blkL g 4 0 (prts a.length : Int) (partL a 0)) :=
  torn_one ha hb g0 (by decide) g20 (by decide) (by decide : (4 : Int) ≠ 5) (fun x hx => (h.among x (by rw [h.l8]; exact hx)).1) hr
theorem Torn.read5 {g g2 : Int} {a b : List Int} {s : DS} (h : Torn g g2 a b s) (ha : a.length ≤ 100000) (hb : b.length ≤ 100000) (g0 : 1 ≤ g ∧ g ≤ 1000) (g20 : 1 ≤ g2 ∧ g2 ≤ 1000) {r : Option (List Int)} (hr : RdIs s.now 0 8 g2 5 r) : r = none ∨ (r = some b ∧ s.now.getD 0 [] = blkL g2 5 0 (prts b.length : Int) (partL b 0)) :=
  torn_one hb ha g20 (by decide) g0 (by decide) (by decide : (5 : Int) ≠ 4) (fun x hx => (h.among x (by rw [h.l8]; exact hx)).1.imp id Or.symm) hr
set_option maxHeartbeats 8000000 in
set_option maxRecDepth 100000 in
theorem LTa.calls (w : World) (g : Int) (same : Bool) (A B K : Option Addr) (n m k c d e : Nat) (hh : 1500 < n) :
    Calls Try.prog 5 #[.slice A n c, .slice B m d, .slice K k e, .int .i64 g, .bool same] w fun e w' => e = .returned (.bool true) ∧ Below w.heap.size w w' := by
  have dn : decide (1500 < (n : Int)) = true := decide_eq_true (by omega)
  have dn' : decide (1500 < n) = true := decide_eq_true (by omega)
  clear hh
  go_enter Try.func5, Try.ntmps5
  go_wp2_with (first | (go_at_call 6; (with_reducible refine (Ak.calls _).mono ?_); rintro e w2 ⟨rfl, hb2⟩))
  go_ret
  exact ⟨rfl, hb2⟩
set_option maxHeartbeats 8000000 in
set_option maxRecDepth 100000 in
theorem LTb.calls (w : World) (g : Int) (same : Bool) (A B K : Option Addr) (n m k c d e : Nat) (h1 : n ≤ 1500) (hh : 1500 < m) :
    Calls Try.prog 5 #[.slice A n c, .slice B m d, .slice K k e, .int .i64 g, .bool same] w fun e w' => e = .returned (.bool true) ∧ Below w.heap.size w w' := by
  have dn : decide (1500 < (n : Int)) = false := decide_eq_false (by omega)
  have dn' : decide (1500 < n) = false := decide_eq_false (by omega)
  have dm : decide (1500 < (m : Int)) = true := decide_eq_true (by omega)
  have dm' : decide (1500 < m) = true := decide_eq_true (by omega)
  clear hh h1
  go_enter Try.func5, Try.ntmps5
  go_wp2_with (first | (go_at_call 6; (with_reducible refine (Ak.calls _).mono ?_); rintro e w2 ⟨rfl, hb2⟩))
  go_ret
  exact ⟨rfl, hb2⟩
set_option maxHeartbeats 8000000 in
set_option maxRecDepth 100000 in
theorem LTk.calls (w : World) (g : Int) (same : Bool) (A B K : Option Addr) (n m k c d e : Nat) (h1 : n ≤ 1500) (h2 : m ≤ 1500) (hh : 20 < k) :
    Calls Try.prog 5 #[.slice A n c, .slice B m d, .slice K k e, .int .i64 g, .bool same] w fun e w' => e = .returned (.bool true) ∧ Below w.heap.size w w' := by
  have dn : decide (1500 < (n : Int)) = false := decide_eq_false (by omega)
  have dn' : decide (1500 < n) = false := decide_eq_false (by omega)
  have dm : decide (1500 < (m : Int)) = false := decide_eq_false (by omega)
  have dm' : decide (1500 < m) = false := decide_eq_false (by omega)
  have dk : decide (20 < (k : Int)) = true := decide_eq_true (by omega)
  have dk' : decide (20 < k) = true := decide_eq_true (by omega)
  clear hh h1 h2
  go_enter Try.func5, Try.ntmps5
  go_wp2_with (first | (go_at_call 6; (with_reducible refine (Ak.calls _).mono ?_); rintro e w2 ⟨rfl, hb2⟩))
  go_ret
  exact ⟨rfl, hb2⟩
set_option maxHeartbeats 8000000 in
set_option maxRecDepth 100000 in
theorem LTdiff.calls (w : World) (g : Int) (A B K : Option Addr) (ca cb ck : Nat) (la lb : List Int) (lk : List Bool) (hCa : Kd.C (Kd.int .u8) w A la.length la) (hca : la.length ≤ ca) (hCb : Kd.C (Kd.int .u8) w B lb.length lb) (hcb : lb.length ≤ cb) (hCk : Kd.C Kd.bool w K lk.length lk) (hck : lk.length ≤ ck) (ha : la.length ≤ 1500) (hb : lb.length ≤ 1500) (hk : lk.length ≤ 20) (hIBa : IsB la) (hIBb : IsB lb) :
    Calls Try.prog 5 #[.slice A la.length ca, .slice B lb.length cb, .slice K lk.length ck, .int .i64 g, .bool false] w fun e w' => e = .returned (.bool true) ∧ Below w.heap.size w w' := by
  have d1 : decide (1500 < (la.length : Int)) = false := decide_eq_false (by omega)
  have d1' : decide (1500 < la.length) = false := decide_eq_false (by omega)
  have d2 : decide (1500 < (lb.length : Int)) = false := decide_eq_false (by omega)
  have d2' : decide (1500 < lb.length) = false := decide_eq_false (by omega)
  have d3 : decide (20 < (lk.length : Int)) = false := decide_eq_false (by omega)
  have d3' : decide (20 < lk.length) = false := decide_eq_false (by omega)

  have NEW : Aside0 (∀ w', Calls Try.prog 7 #[.int .i64 8] w' fun e w'' => ∃ o : Own, e = .returned (.pointer (some ⟨o.g, 0, none⟩)) ∧ Dk (fun _ => True) 52 w'' o (newS 8) ∧ (∀ k, o.has k → w'.heap.size ≤ k) ∧ Below w'.heap.size w' w'') := ⟨fun w' => Dk_New.calls 8 w' (by decide) (by decide)⟩
  obtain ⟨r, hr5, hlow⟩ := low_f g 5 (by decide) (by decide)
  have HLOW : Aside0 (chatelainelaw0_Low.f g 5 = some (r : Int)) := ⟨hlow⟩
  have HLEN := Aside0.mk (And.intro ha hb)
  have HCa := Aside0.mk hCa
  have Hca := Aside0.mk hca
  have HCb := Aside0.mk hCb
  have Hcb := Aside0.mk hcb
  have HCk := Aside0.mk hCk
  have Hck := Aside0.mk hck
  have HIBa := Aside0.mk hIBa
  have HIBb := Aside0.mk hIBb
  have HAK : Aside0 (∀ (o : Own), (∀ k, o.has k → w.heap.size ≤ k) → ∀ ad, K = some ad → lk ≠ [] → ¬ o.has ad.block) := ⟨fun o ge ad e hne hh => by have := keep_lt HCk.out ad e hne; have := ge _ hh; omega⟩
  clear hCa hca hCb hcb hCk hck ha hb hk hIBa hIBb hlow
  have WR1 : Aside0 (∀ (o : Own), (∀ k, o.has k → w.heap.size ≤ k) → ∀ w', Dk (fun _ => True) 52 w' o (newS 8) → Below w.heap.size w w' → Calls Try.prog 8 #[.pointer (some ⟨o.g, 0, none⟩), .int .i64 0, .int .i64 8, .int .i64 (1 + (r : Int)), .int .i64 4, .slice A la.length ca] w' fun e w'' => e = .returned (.tuple #[.int .i64 ((0 + prts la.length : Nat) : Int), .nilIface]) ∧ Dk (fun _ => True) 52 w'' o ((newS 8).lay 0 (1 + (r : Int)) 4 (prts la.length) la (prts la.length)) ∧ Keeps o.has w' w'') := ⟨fun o ge w' h1 h2 =>
    Tw_Ok.calls o _ w' h1 0 8 (1 + (r : Int)) 4 A ca la (Kd.C_below HCa.out h2) Hca.out (by have := HLEN.out; omega) (fun ad e hne hh => by have := row_lt HCa.out ad e hne; have := ge _ hh; omega) (by have := HLEN.out; unfold prts; omega) (Nat.le_of_eq (newS_len 8).symm) (by omega) (by decide)⟩

  obtain ⟨s2, hs2⟩ : ∃ s, (crashL [true] (dix ((newS 8).lay 0 (1 + (r : Int)) 4 (prts la.length) la (prts la.length)).dirty ((newS 8).lay 0 (1 + (r : Int)) 4 (prts la.length) la (prts la.length)).now.length) 0 ((newS 8).lay 0 (1 + (r : Int)) 4 (prts la.length) la (prts la.length)) 0).1 = s := ⟨_, rfl⟩
  have T2 : Aside0 (Torn (1 + (r : Int)) (1 + (r : Int) + 1) la lb s2) := ⟨by rw [← hs2]; exact ((torn0 _ _ la lb).laya).crash _ _ _ _⟩
  have WR2 : Aside0 (∀ (o : Own), (∀ k, o.has k → w.heap.size ≤ k) → ∀ w', Dk (fun _ => True) 52 w' o s2 → Below w.heap.size w w' → Calls Try.prog 8 #[.pointer (some ⟨o.g, 0, none⟩), .int .i64 0, .int .i64 8, .int .i64 (1 + (r : Int) + 1), .int .i64 5, .slice B lb.length cb] w' fun e w'' => e = .returned (.tuple #[.int .i64 ((0 + prts lb.length : Nat) : Int), .nilIface]) ∧ Dk (fun _ => True) 52 w'' o (s2.lay 0 (1 + (r : Int) + 1) 5 (prts lb.length) lb (prts lb.length)) ∧ Keeps o.has w' w'') := ⟨fun o ge w' h1 h2 =>
    Tw_Ok.calls o _ w' h1 0 8 (1 + (r : Int) + 1) 5 B cb lb (Kd.C_below HCb.out h2) Hcb.out (by have := HLEN.out; omega) (fun ad e hne hh => by have := row_lt HCb.out ad e hne; have := ge _ hh; omega) (by have := HLEN.out; unfold prts; omega) (Nat.le_of_eq T2.out.l8.symm) (by omega) (by decide)⟩

  have T3 := Aside0.mk T2.out.layb
  have T4 := Aside0.mk (T3.out.crash lk (dix (s2.lay 0 (1 + (r : Int) + 1) 5 (prts lb.length) lb (prts lb.length)).dirty (s2.lay 0 (1 + (r : Int) + 1) 5 (prts lb.length) lb (prts lb.length)).now.length) 0 0)
  have RD1 : Aside0 (∀ (o : Own) (s : DS) (w' : World), Torn (1 + (r : Int)) (1 + (r : Int) + 1) la lb s → Dk (fun _ => True) 52 w' o s → Calls Try.prog 14 #[.pointer (some ⟨o.g, 0, none⟩), .int .i64 0, .int .i64 8, .int .i64 (1 + (r : Int)), .int .i64 4] w' fun e w'' => ∃ A c L n p, e = .returned (.tuple #[.slice A L.length c, .int .i64 n, .bool p]) ∧ Kd.R (Kd.int .u8) 5 w'' w'.heap.size (fun _ => True) (.slice A L.length c) L ∧ Below w'.heap.size w' w'' ∧ (p = true → L = la ∧ s.now.getD 0 [] = blkL (1 + (r : Int)) 4 0 (prts la.length : Int) (partL la 0))) := ⟨fun o s w' ht hd => by
    refine (Td.calls o s w' hd (ht.AllB HIBa.out HIBb.out) 0 8 (1 + (r : Int)) 4 (by decide) (Nat.le_of_eq ht.l8.symm)).mono ?_
    rintro e w'' ⟨v, r, q1, q2, q3, q4⟩
    obtain ⟨A, c, rfl⟩ := Kd.R_slice q2
    refine ⟨A, c, r.getD [], rdN 0 r, r.isSome, q1, q2, q3, fun hp => ?_⟩
    rcases ht.read4 (by have := HLEN.out; omega) (by have := HLEN.out; omega) (by omega) (by omega) q4 with rfl | ⟨rfl, h0⟩
    · cases hp
    · exact ⟨rfl, h0⟩⟩
  have RD2 : Aside0 (∀ (o : Own) (s : DS) (w' : World), Torn (1 + (r : Int)) (1 + (r : Int) + 1) la lb s → Dk (fun _ => True) 52 w' o s → Calls Try.prog 14 #[.pointer (some ⟨o.g, 0, none⟩), .int .i64 0, .int .i64 8, .int .i64 (1 + (r : Int) + 1), .int .i64 5] w' fun e w'' => ∃ A c L n p, e = .returned (.tuple #[.slice A L.length c, .int .i64 n, .bool p]) ∧ Kd.R (Kd.int .u8) 5 w'' w'.heap.size (fun _ => True) (.slice A L.length c) L ∧ Below w'.heap.size w' w'' ∧ (p = true → L = lb ∧ s.now.getD 0 [] = blkL (1 + (r : Int) + 1) 5 0 (prts lb.length : Int) (partL lb 0))) := ⟨fun o s w' ht hd => by
    refine (Td.calls o s w' hd (ht.AllB HIBa.out HIBb.out) 0 8 (1 + (r : Int) + 1) 5 (by decide) (Nat.le_of_eq ht.l8.symm)).mono ?_
    rintro e w'' ⟨v, r, q1, q2, q3, q4⟩
    obtain ⟨A, c, rfl⟩ := Kd.R_slice q2
    refine ⟨A, c, r.getD [], rdN 0 r, r.isSome, q1, q2, q3, fun hp => ?_⟩
    rcases ht.read5 (by have := HLEN.out; omega) (by have := HLEN.out; omega) (by omega) (by omega) q4 with rfl | ⟨rfl, h0⟩
    · cases hp
    · exact ⟨rfl, h0⟩⟩

  have SBA : Aside0 (∀ (w' : World) (A' : Option Addr) (c' : Nat), Kd.C (Kd.int .u8) w' A' la.length la → la.length ≤ c' → Below w.heap.size w w' → Calls Try.prog 16 #[.slice A' la.length c', .slice A la.length ca] w' fun e w'' => e = .returned (.bool true) ∧ Below w'.heap.size w' w'') := ⟨fun w' A' c' h1 h2 h3 => by
    have := Sb.calls A' c' la A ca la w' h1 h2 (Kd.C_below HCa.out h3) Hca.out (by have := HLEN.out; omega)
    rw [decide_eq_true (rfl : la = la)] at this
    exact this⟩
  have SBB : Aside0 (∀ (w' : World) (A' : Option Addr) (c' : Nat), Kd.C (Kd.int .u8) w' A' lb.length lb → lb.length ≤ c' → Below w.heap.size w w' → Calls Try.prog 16 #[.slice A' lb.length c', .slice B lb.length cb] w' fun e w'' => e = .returned (.bool true) ∧ Below w'.heap.size w' w'') := ⟨fun w' A' c' h1 h2 h3 => by
    have := Sb.calls A' c' lb B cb lb w' h1 h2 (Kd.C_below HCb.out h3) Hcb.out (by have := HLEN.out; omega)
    rw [decide_eq_true (rfl : lb = lb)] at this
    exact this⟩
  have NB : Aside0 (∀ s : DS, s.now.getD 0 [] = blkL (1 + (r : Int)) 4 0 (prts la.length : Int) (partL la 0) → s.now.getD 0 [] = blkL (1 + (r : Int) + 1) 5 0 (prts lb.length : Int) (partL lb 0) → False) := ⟨fun s h1 h2 => by
    have n1 := part_BkN (g := 1 + (r : Int)) (k := 4) (l := la) (by have := HLEN.out; omega) (by omega) (by omega) (by decide) (by decide) (prts_pos la.length)
    have n2 := part_BkN (g := 1 + (r : Int) + 1) (k := 5) (l := lb) (by have := HLEN.out; omega) (by omega) (by omega) (by decide) (by decide) (prts_pos lb.length)
    exact blk_ne n1 n2 (by decide) (h1.symm.trans h2)⟩
  have FLS : Aside0 (∀ (o : Own) (w' : World), Dk (fun _ => True) 52 w' o ((newS 8).lay 0 (1 + (r : Int)) 4 (prts la.length) la (prts la.length)) → Calls Try.prog 21 #[.pointer (some ⟨o.g, 0, none⟩)] w' fun e w'' => e = .returned (.tuple #[]) ∧ Dk (fun _ => True) 52 w'' o s2 ∧ Keeps o.has w' w'') := ⟨fun o w' h => by rw [← hs2]; exact Dk_Flush.calls o _ w' h⟩
  clear hs2
  go_enter Try.func5, Try.ntmps5
  go_upto_region 19 with (first | (go_at_call 14; (with_reducible refine (RD2.out o _ _ T4.out D7.out).mono ?_); rintro e w8 ⟨A8, c8, L8, n8, p8, rfl, hr8, hb8, hp8⟩; have R8 := Aside0.mk hr8; have R78 := Aside0.mk (Kd.R_below R7.out hb8); have P8 := Aside0.mk hp8; have B8 := Aside0.mk (below_step B7.out hb8); clear hr8 hb8 hp8) | (go_at_call 14; (with_reducible refine (RD1.out o _ _ T4.out D6.out).mono ?_); rintro e w7 ⟨A7, c7, L7, n7, p7, rfl, hr7, hb7, hp7⟩; have D7 := Aside0.mk (D6.out.below hb7); have R7 := Aside0.mk hr7; have P7 := Aside0.mk hp7; have B7 := Aside0.mk (below_step B6.out hb7); clear hr7 hb7 hp7) | (go_at_call 19; (with_reducible refine (Dk_Crash.calls o _ _ D5.out K ck lk (Kd.C_below HCk.out B5.out) Hck.out (HAK.out o GE.out)).mono ?_); rintro e w6 ⟨rfl, hd6, hk6⟩; have D6 := Aside0.mk hd6; have B6 : Aside0 (Below w.heap.size w w6) := ⟨hk6.below GE.out B5.out.size B5.out⟩; clear hd6 hk6) | (go_at_call 8; (with_reducible refine (WR2.out o GE.out _ D4.out B4.out).mono ?_); rintro e w5 ⟨rfl, hd5, hk5⟩; have D5 := Aside0.mk hd5; have B5 : Aside0 (Below w.heap.size w w5) := ⟨hk5.below GE.out B4.out.size B4.out⟩; clear hd5 hk5) | (go_at_call 21; (with_reducible refine (FLS.out o _ D3.out).mono ?_); rintro e w4 ⟨rfl, hd4, hk4⟩; have D4 := Aside0.mk hd4; have B4 : Aside0 (Below w.heap.size w w4) := ⟨hk4.below GE.out B3.out.size B3.out⟩; clear hd4 hk4) | (go_at_call 8; (with_reducible refine (WR1.out o GE.out _ D2.out B2.out).mono ?_); rintro e w3 ⟨rfl, hd3, hk3⟩; have D3 := Aside0.mk hd3; have B3 : Aside0 (Below w.heap.size w w3) := ⟨hk3.below GE.out B2.out.size B2.out⟩; clear hd3 hk3) | (go_at_call 9; (with_reducible refine (chatelainelaw0_Low.calls _ _ _ _ HLOW.out).mono ?_); rintro e w2 ⟨rfl, hd2⟩; have hb2 := hd2.below; have D2 := Aside0.mk (D1.out.below hb2); have B2 := Aside0.mk (below_step B1.out hb2); clear hd2 hb2) | (go_at_call 7; (with_reducible refine (NEW.out _).mono ?_); rintro e w1 ⟨o, rfl, hd1, hge1, hb1⟩; have D1 := Aside0.mk hd1; have GE := Aside0.mk hge1; have B1 := Aside0.mk hb1; clear hd1 hge1 hb1))
  cases p7
  · cases p8
    · go_wp2_with (first | (go_at_call 6; (with_reducible refine (Ak.calls _).mono ?_); rintro e w9 ⟨rfl, hb9⟩; have B9 := Aside0.mk (below_step B8.out hb9); clear hb9))
      go_ret
      exact ⟨rfl, B9.out⟩
    · obtain rfl := (P8.out rfl).1
      go_wp2_with (first | (go_at_call 6; (with_reducible refine (Ak.calls _).mono ?_); rintro e w10 ⟨rfl, hb10⟩; have B10 := Aside0.mk (below_step B9.out hb10); clear hb10) | (go_at_call 16; (with_reducible refine (SBB.out _ _ _ (Kd.R_reads' R8.out).2.2 (Kd.R_reads' R8.out).2.1 B8.out).mono ?_); rintro e w9 ⟨rfl, hb9⟩; have B9 := Aside0.mk (below_step B8.out hb9); clear hb9))
      go_ret
      exact ⟨rfl, B10.out⟩
  · cases p8
    · obtain rfl := (P7.out rfl).1
      go_wp2_with (first | (go_at_call 6; (with_reducible refine (Ak.calls _).mono ?_); rintro e w10 ⟨rfl, hb10⟩; have B10 := Aside0.mk (below_step B9.out hb10); clear hb10) | (go_at_call 16; (with_reducible refine (SBA.out _ _ _ (Kd.R_reads' R78.out).2.2 (Kd.R_reads' R78.out).2.1 B8.out).mono ?_); rintro e w9 ⟨rfl, hb9⟩; have B9 := Aside0.mk (below_step B8.out hb9); clear hb9))
      go_ret
      exact ⟨rfl, B10.out⟩
    · exact absurd (P8.out rfl).2 (fun h => NB.out _ (P7.out rfl).2 h)
set_option maxHeartbeats 8000000 in
set_option maxRecDepth 100000 in
theorem LTsame.calls (w : World) (g : Int) (A B K : Option Addr) (ca cb ck : Nat) (la lb : List Int) (lk : List Bool) (hCa : Kd.C (Kd.int .u8) w A la.length la) (hca : la.length ≤ ca) (hCb : Kd.C (Kd.int .u8) w B lb.length lb) (hcb : lb.length ≤ cb) (hCk : Kd.C Kd.bool w K lk.length lk) (hck : lk.length ≤ ck) (ha : la.length ≤ 1500) (hb : lb.length ≤ 1500) (hk : lk.length ≤ 20) (hIBa : IsB la) (hIBb : IsB lb) :
    Calls Try.prog 5 #[.slice A la.length ca, .slice B lb.length cb, .slice K lk.length ck, .int .i64 g, .bool true] w fun e w' => e = .returned (.bool true) ∧ Below w.heap.size w w' := by
  have d1 : decide (1500 < (la.length : Int)) = false := decide_eq_false (by omega)
  have d1' : decide (1500 < la.length) = false := decide_eq_false (by omega)
  have d2 : decide (1500 < (lb.length : Int)) = false := decide_eq_false (by omega)
  have d2' : decide (1500 < lb.length) = false := decide_eq_false (by omega)
  have d3 : decide (20 < (lk.length : Int)) = false := decide_eq_false (by omega)
  have d3' : decide (20 < lk.length) = false := decide_eq_false (by omega)

  have NEW : Aside0 (∀ w', Calls Try.prog 7 #[.int .i64 8] w' fun e w'' => ∃ o : Own, e = .returned (.pointer (some ⟨o.g, 0, none⟩)) ∧ Dk (fun _ => True) 52 w'' o (newS 8) ∧ (∀ k, o.has k → w'.heap.size ≤ k) ∧ Below w'.heap.size w' w'') := ⟨fun w' => Dk_New.calls 8 w' (by decide) (by decide)⟩
  obtain ⟨r, hr5, hlow⟩ := low_f g 5 (by decide) (by decide)
  have HLOW : Aside0 (chatelainelaw0_Low.f g 5 = some (r : Int)) := ⟨hlow⟩
  have HLEN := Aside0.mk (And.intro ha hb)
  have HCa := Aside0.mk hCa
  have Hca := Aside0.mk hca
  have HCb := Aside0.mk hCb
  have Hcb := Aside0.mk hcb
  have HCk := Aside0.mk hCk
  have Hck := Aside0.mk hck
  have HIBa := Aside0.mk hIBa
  have HIBb := Aside0.mk hIBb
  have HAK : Aside0 (∀ (o : Own), (∀ k, o.has k → w.heap.size ≤ k) → ∀ ad, K = some ad → lk ≠ [] → ¬ o.has ad.block) := ⟨fun o ge ad e hne hh => by have := keep_lt HCk.out ad e hne; have := ge _ hh; omega⟩
  clear hCa hca hCb hcb hCk hck ha hb hk hIBa hIBb hlow
  have WR1 : Aside0 (∀ (o : Own), (∀ k, o.has k → w.heap.size ≤ k) → ∀ w', Dk (fun _ => True) 52 w' o (newS 8) → Below w.heap.size w w' → Calls Try.prog 8 #[.pointer (some ⟨o.g, 0, none⟩), .int .i64 0, .int .i64 8, .int .i64 (1 + (r : Int)), .int .i64 4, .slice A la.length ca] w' fun e w'' => e = .returned (.tuple #[.int .i64 ((0 + prts la.length : Nat) : Int), .nilIface]) ∧ Dk (fun _ => True) 52 w'' o ((newS 8).lay 0 (1 + (r : Int)) 4 (prts la.length) la (prts la.length)) ∧ Keeps o.has w' w'') := ⟨fun o ge w' h1 h2 =>
    Tw_Ok.calls o _ w' h1 0 8 (1 + (r : Int)) 4 A ca la (Kd.C_below HCa.out h2) Hca.out (by have := HLEN.out; omega) (fun ad e hne hh => by have := row_lt HCa.out ad e hne; have := ge _ hh; omega) (by have := HLEN.out; unfold prts; omega) (Nat.le_of_eq (newS_len 8).symm) (by omega) (by decide)⟩

  obtain ⟨s2, hs2⟩ : ∃ s, (crashL [true] (dix ((newS 8).lay 0 (1 + (r : Int)) 4 (prts la.length) la (prts la.length)).dirty ((newS 8).lay 0 (1 + (r : Int)) 4 (prts la.length) la (prts la.length)).now.length) 0 ((newS 8).lay 0 (1 + (r : Int)) 4 (prts la.length) la (prts la.length)) 0).1 = s := ⟨_, rfl⟩
  have T2 : Aside0 (Torn (1 + (r : Int)) (1 + (r : Int)) la lb s2) := ⟨by rw [← hs2]; exact ((torn0 _ _ la lb).laya).crash _ _ _ _⟩
  have WR2 : Aside0 (∀ (o : Own), (∀ k, o.has k → w.heap.size ≤ k) → ∀ w', Dk (fun _ => True) 52 w' o s2 → Below w.heap.size w w' → Calls Try.prog 8 #[.pointer (some ⟨o.g, 0, none⟩), .int .i64 0, .int .i64 8, .int .i64 (1 + (r : Int)), .int .i64 5, .slice B lb.length cb] w' fun e w'' => e = .returned (.tuple #[.int .i64 ((0 + prts lb.length : Nat) : Int), .nilIface]) ∧ Dk (fun _ => True) 52 w'' o (s2.lay 0 (1 + (r : Int)) 5 (prts lb.length) lb (prts lb.length)) ∧ Keeps o.has w' w'') := ⟨fun o ge w' h1 h2 =>
    Tw_Ok.calls o _ w' h1 0 8 (1 + (r : Int)) 5 B cb lb (Kd.C_below HCb.out h2) Hcb.out (by have := HLEN.out; omega) (fun ad e hne hh => by have := row_lt HCb.out ad e hne; have := ge _ hh; omega) (by have := HLEN.out; unfold prts; omega) (Nat.le_of_eq T2.out.l8.symm) (by omega) (by decide)⟩

  have T3 := Aside0.mk T2.out.layb
  have T4 := Aside0.mk (T3.out.crash lk (dix (s2.lay 0 (1 + (r : Int)) 5 (prts lb.length) lb (prts lb.length)).dirty (s2.lay 0 (1 + (r : Int)) 5 (prts lb.length) lb (prts lb.length)).now.length) 0 0)
  have RD1 : Aside0 (∀ (o : Own) (s : DS) (w' : World), Torn (1 + (r : Int)) (1 + (r : Int)) la lb s → Dk (fun _ => True) 52 w' o s → Calls Try.prog 14 #[.pointer (some ⟨o.g, 0, none⟩), .int .i64 0, .int .i64 8, .int .i64 (1 + (r : Int)), .int .i64 4] w' fun e w'' => ∃ A c L n p, e = .returned (.tuple #[.slice A L.length c, .int .i64 n, .bool p]) ∧ Kd.R (Kd.int .u8) 5 w'' w'.heap.size (fun _ => True) (.slice A L.length c) L ∧ Below w'.heap.size w' w'' ∧ (p = true → L = la ∧ s.now.getD 0 [] = blkL (1 + (r : Int)) 4 0 (prts la.length : Int) (partL la 0))) := ⟨fun o s w' ht hd => by
    refine (Td.calls o s w' hd (ht.AllB HIBa.out HIBb.out) 0 8 (1 + (r : Int)) 4 (by decide) (Nat.le_of_eq ht.l8.symm)).mono ?_
    rintro e w'' ⟨v, r, q1, q2, q3, q4⟩
    obtain ⟨A, c, rfl⟩ := Kd.R_slice q2
    refine ⟨A, c, r.getD [], rdN 0 r, r.isSome, q1, q2, q3, fun hp => ?_⟩
    rcases ht.read4 (by have := HLEN.out; omega) (by have := HLEN.out; omega) (by omega) (by omega) q4 with rfl | ⟨rfl, h0⟩
    · cases hp
    · exact ⟨rfl, h0⟩⟩
  have RD2 : Aside0 (∀ (o : Own) (s : DS) (w' : World), Torn (1 + (r : Int)) (1 + (r : Int)) la lb s → Dk (fun _ => True) 52 w' o s → Calls Try.prog 14 #[.pointer (some ⟨o.g, 0, none⟩), .int .i64 0, .int .i64 8, .int .i64 (1 + (r : Int)), .int .i64 5] w' fun e w'' => ∃ A c L n p, e = .returned (.tuple #[.slice A L.length c, .int .i64 n, .bool p]) ∧ Kd.R (Kd.int .u8) 5 w'' w'.heap.size (fun _ => True) (.slice A L.length c) L ∧ Below w'.heap.size w' w'' ∧ (p = true → L = lb ∧ s.now.getD 0 [] = blkL (1 + (r : Int)) 5 0 (prts lb.length : Int) (partL lb 0))) := ⟨fun o s w' ht hd => by
    refine (Td.calls o s w' hd (ht.AllB HIBa.out HIBb.out) 0 8 (1 + (r : Int)) 5 (by decide) (Nat.le_of_eq ht.l8.symm)).mono ?_
    rintro e w'' ⟨v, r, q1, q2, q3, q4⟩
    obtain ⟨A, c, rfl⟩ := Kd.R_slice q2
    refine ⟨A, c, r.getD [], rdN 0 r, r.isSome, q1, q2, q3, fun hp => ?_⟩
    rcases ht.read5 (by have := HLEN.out; omega) (by have := HLEN.out; omega) (by omega) (by omega) q4 with rfl | ⟨rfl, h0⟩
    · cases hp
    · exact ⟨rfl, h0⟩⟩

  have SBA : Aside0 (∀ (w' : World) (A' : Option Addr) (c' : Nat), Kd.C (Kd.int .u8) w' A' la.length la → la.length ≤ c' → Below w.heap.size w w' → Calls Try.prog 16 #[.slice A' la.length c', .slice A la.length ca] w' fun e w'' => e = .returned (.bool true) ∧ Below w'.heap.size w' w'') := ⟨fun w' A' c' h1 h2 h3 => by
    have := Sb.calls A' c' la A ca la w' h1 h2 (Kd.C_below HCa.out h3) Hca.out (by have := HLEN.out; omega)
    rw [decide_eq_true (rfl : la = la)] at this
    exact this⟩
  have SBB : Aside0 (∀ (w' : World) (A' : Option Addr) (c' : Nat), Kd.C (Kd.int .u8) w' A' lb.length lb → lb.length ≤ c' → Below w.heap.size w w' → Calls Try.prog 16 #[.slice A' lb.length c', .slice B lb.length cb] w' fun e w'' => e = .returned (.bool true) ∧ Below w'.heap.size w' w'') := ⟨fun w' A' c' h1 h2 h3 => by
    have := Sb.calls A' c' lb B cb lb w' h1 h2 (Kd.C_below HCb.out h3) Hcb.out (by have := HLEN.out; omega)
    rw [decide_eq_true (rfl : lb = lb)] at this
    exact this⟩
  have NB : Aside0 (∀ s : DS, s.now.getD 0 [] = blkL (1 + (r : Int)) 4 0 (prts la.length : Int) (partL la 0) → s.now.getD 0 [] = blkL (1 + (r : Int)) 5 0 (prts lb.length : Int) (partL lb 0) → False) := ⟨fun s h1 h2 => by
    have n1 := part_BkN (g := 1 + (r : Int)) (k := 4) (l := la) (by have := HLEN.out; omega) (by omega) (by omega) (by decide) (by decide) (prts_pos la.length)
    have n2 := part_BkN (g := 1 + (r : Int)) (k := 5) (l := lb) (by have := HLEN.out; omega) (by omega) (by omega) (by decide) (by decide) (prts_pos lb.length)
    exact blk_ne n1 n2 (by decide) (h1.symm.trans h2)⟩
  have FLS : Aside0 (∀ (o : Own) (w' : World), Dk (fun _ => True) 52 w' o ((newS 8).lay 0 (1 + (r : Int)) 4 (prts la.length) la (prts la.length)) → Calls Try.prog 21 #[.pointer (some ⟨o.g, 0, none⟩)] w' fun e w'' => e = .returned (.tuple #[]) ∧ Dk (fun _ => True) 52 w'' o s2 ∧ Keeps o.has w' w'') := ⟨fun o w' h => by rw [← hs2]; exact Dk_Flush.calls o _ w' h⟩
  clear hs2
  go_enter Try.func5, Try.ntmps5
  go_upto_region 19 with (first | (go_at_call 14; (with_reducible refine (RD2.out o _ _ T4.out D7.out).mono ?_); rintro e w8 ⟨A8, c8, L8, n8, p8, rfl, hr8, hb8, hp8⟩; have R8 := Aside0.mk hr8; have R78 := Aside0.mk (Kd.R_below R7.out hb8); have P8 := Aside0.mk hp8; have B8 := Aside0.mk (below_step B7.out hb8); clear hr8 hb8 hp8) | (go_at_call 14; (with_reducible refine (RD1.out o _ _ T4.out D6.out).mono ?_); rintro e w7 ⟨A7, c7, L7, n7, p7, rfl, hr7, hb7, hp7⟩; have D7 := Aside0.mk (D6.out.below hb7); have R7 := Aside0.mk hr7; have P7 := Aside0.mk hp7; have B7 := Aside0.mk (below_step B6.out hb7); clear hr7 hb7 hp7) | (go_at_call 19; (with_reducible refine (Dk_Crash.calls o _ _ D5.out K ck lk (Kd.C_below HCk.out B5.out) Hck.out (HAK.out o GE.out)).mono ?_); rintro e w6 ⟨rfl, hd6, hk6⟩; have D6 := Aside0.mk hd6; have B6 : Aside0 (Below w.heap.size w w6) := ⟨hk6.below GE.out B5.out.size B5.out⟩; clear hd6 hk6) | (go_at_call 8; (with_reducible refine (WR2.out o GE.out _ D4.out B4.out).mono ?_); rintro e w5 ⟨rfl, hd5, hk5⟩; have D5 := Aside0.mk hd5; have B5 : Aside0 (Below w.heap.size w w5) := ⟨hk5.below GE.out B4.out.size B4.out⟩; clear hd5 hk5) | (go_at_call 21; (with_reducible refine (FLS.out o _ D3.out).mono ?_); rintro e w4 ⟨rfl, hd4, hk4⟩; have D4 := Aside0.mk hd4; have B4 : Aside0 (Below w.heap.size w w4) := ⟨hk4.below GE.out B3.out.size B3.out⟩; clear hd4 hk4) | (go_at_call 8; (with_reducible refine (WR1.out o GE.out _ D2.out B2.out).mono ?_); rintro e w3 ⟨rfl, hd3, hk3⟩; have D3 := Aside0.mk hd3; have B3 : Aside0 (Below w.heap.size w w3) := ⟨hk3.below GE.out B2.out.size B2.out⟩; clear hd3 hk3) | (go_at_call 9; (with_reducible refine (chatelainelaw0_Low.calls _ _ _ _ HLOW.out).mono ?_); rintro e w2 ⟨rfl, hd2⟩; have hb2 := hd2.below; have D2 := Aside0.mk (D1.out.below hb2); have B2 := Aside0.mk (below_step B1.out hb2); clear hd2 hb2) | (go_at_call 7; (with_reducible refine (NEW.out _).mono ?_); rintro e w1 ⟨o, rfl, hd1, hge1, hb1⟩; have D1 := Aside0.mk hd1; have GE := Aside0.mk hge1; have B1 := Aside0.mk hb1; clear hd1 hge1 hb1))
  cases p7
  · cases p8
    · go_wp2_with (first | (go_at_call 6; (with_reducible refine (Ak.calls _).mono ?_); rintro e w9 ⟨rfl, hb9⟩; have B9 := Aside0.mk (below_step B8.out hb9); clear hb9))
      go_ret
      exact ⟨rfl, B9.out⟩
    · obtain rfl := (P8.out rfl).1
      go_wp2_with (first | (go_at_call 6; (with_reducible refine (Ak.calls _).mono ?_); rintro e w10 ⟨rfl, hb10⟩; have B10 := Aside0.mk (below_step B9.out hb10); clear hb10) | (go_at_call 16; (with_reducible refine (SBB.out _ _ _ (Kd.R_reads' R8.out).2.2 (Kd.R_reads' R8.out).2.1 B8.out).mono ?_); rintro e w9 ⟨rfl, hb9⟩; have B9 := Aside0.mk (below_step B8.out hb9); clear hb9))
      go_ret
      exact ⟨rfl, B10.out⟩
  · cases p8
    · obtain rfl := (P7.out rfl).1
      go_wp2_with (first | (go_at_call 6; (with_reducible refine (Ak.calls _).mono ?_); rintro e w10 ⟨rfl, hb10⟩; have B10 := Aside0.mk (below_step B9.out hb10); clear hb10) | (go_at_call 16; (with_reducible refine (SBA.out _ _ _ (Kd.R_reads' R78.out).2.2 (Kd.R_reads' R78.out).2.1 B8.out).mono ?_); rintro e w9 ⟨rfl, hb9⟩; have B9 := Aside0.mk (below_step B8.out hb9); clear hb9))
      go_ret
      exact ⟨rfl, B10.out⟩
    · exact absurd (P8.out rfl).2 (fun h => NB.out _ (P7.out rfl).2 h)
end

end Go.Proofs.Ytkiofhmpeokipaa.PTA
