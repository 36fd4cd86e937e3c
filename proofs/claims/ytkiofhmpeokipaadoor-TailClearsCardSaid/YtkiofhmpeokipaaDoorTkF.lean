import Derived.Test.YtkiofhmpeokipaaDoorTkE
namespace Go.Proofs.YtkiofhmpeokipaaDoor.PTA
open Go.RowKit Go.Proofs.YtkiofhmpeokipaaDoorW.PrintWords Go.Proofs.YtkiofhmpeokipaaDoorW.PrintLast Go.Proofs.YtkiofhmpeokipaaDoorW.PrintMore
attribute [local go_sem] max2_int min2_int max_two min_two max_three min_three max_four min_four
set_option linter.unusedVariables false
set_option linter.unusedSimpArgs false
section
variable {ok ok2 : Nat → Prop}
def nz (x : Int) : Bool := x != 0
set_option maxHeartbeats 8000000 in
set_option maxRecDepth 100000 in
theorem nz_idx.calls (A : Option Addr) (c : Nat) (l : List Int) (w : World) (hr : Kd.C (Kd.int .u8) w A l.length l) (hc : l.length ≤ c) (hl : l.length < 9223372036854775807) :
    Calls Tryd.prog 46 #[.slice A l.length c, .func (.func 33) #[] #[]] w fun e w' => (∃ i : Int, e = .returned (.int .i64 i) ∧ (decide (i ≥ 0) = l.any nz)) ∧ Below w.heap.size w w' := by
  have HR := Aside0.mk hr
  have HL := Aside0.mk hl
  clear hr hl
  have HB := Aside0.mk (Below.refl w.heap.size w)
  go_enter Tryd.func46, Tryd.ntmps46
  go_wp2
  go_loopg [8] l.length (fun kq v8 w' => ∃ (j : Nat), v8 = .int .i64 (j : Int) ∧ Aside0 (j + kq = l.length) ∧ Aside0 ((l.take j).any nz = false) ∧ Aside0 (Below w.heap.size w w'))
  case atStart => exact ⟨0, (by first | rfl | (simp; done) | (simp [*]; done)), ⟨by omega⟩, ⟨by simp⟩, HB⟩
  case round =>
    obtain ⟨j, rfl, HJ, HA, HB⟩ := hrel
    by_cases c3 : (j : Int) < (l.length : Int)
    · have c3b0 : decide ((j : Int) < (l.length : Int)) = true := decide_eq_true c3
      have c4b0 : decide (0 ≤ (j : Int)) = true := decide_eq_true (by omega)
      obtain ⟨ad, e, hx⟩ := Kd.at_int HR.out (j : Int) (by omega) c3
      cases e
      replace hx := (HB.out.cell (World.block_lt_of_cell? w _ hx)).trans hx
      rw [Int.toNat_natCast] at hx
      have hjl : j < l.length := by omega
      have hrd : rd l (j : Int) = l[j] := rdI' l j hjl
      have htk : (l.take (j + 1)).any nz = ((l.take j).any nz || nz l[j]) := by
        rw [List.take_succ_eq_append_getElem hjl, List.any_append]; simp
      have h0 : (0 : Int) ≤ (j : Int) := by omega
      clear c3
      cases gk with
      | zero => have := HJ.out; omega
      | succ k1 =>
        cases hodd : nz l[j] with
        | true =>
          go_wp2_with (go_at_call 33; (with_reducible refine (tail_Read_1.calls l[j] (nz l[j]) _ rfl).mono ?_); rintro e w8 ⟨rfl, hb⟩; have HB2 := below_step HB.out hb.below; rw [hodd])
          go_ret
          exact ⟨⟨(j : Int), by first | rfl | (simp [*]; done), by
            have h2 : l[j] ∈ l := List.getElem_mem hjl
            rw [List.any_eq_true.mpr ⟨_, h2, hodd⟩]; simp⟩, HB2⟩
        | false =>
          go_wp2_with (go_at_call 33; (with_reducible refine (tail_Read_1.calls l[j] (nz l[j]) _ rfl).mono ?_); rintro e w8 ⟨rfl, hb⟩; have HB2 := below_step HB.out hb.below; rw [hodd])
          go_roundg k1
          case measure => omega
          case rel => exact ⟨j + 1, (by
            have hw : wrap64 ((j : Int) + 1) = ((j + 1 : Nat) : Int) := by have := HL.out; unfold wrap64; omega
            first | rfl | (rw [← hw]; rfl) | (simp [*]; done)), ⟨by have := HJ.out; omega⟩, ⟨by rw [htk, HA.out, hodd]; rfl⟩, ⟨HB2⟩⟩
    · have c3b0 : decide ((j : Int) < (l.length : Int)) = false := decide_eq_false c3
      have hall : l.any nz = false := by
        have h := HA.out
        rw [List.take_of_length_le (by omega)] at h
        exact h
      go_wp2
      go_ret
      exact ⟨⟨-1, by first | rfl | (simp [*]; done), by first | (rw [hall]; decide) | decide⟩, HB.out⟩
set_option maxHeartbeats 8000000 in
set_option maxRecDepth 100000 in
theorem nz_any.calls (A : Option Addr) (c : Nat) (l : List Int) (w : World) (hr : Kd.C (Kd.int .u8) w A l.length l) (hc : l.length ≤ c) (hl : l.length < 9223372036854775807) :
    Calls Tryd.prog 32 #[.slice A l.length c, .func (.func 33) #[] #[]] w fun e w' => e = .returned (.bool (l.any nz)) ∧ Below w.heap.size w w' := by
  go_enter Tryd.func32, Tryd.ntmps32
  go_wp2_with (go_at_call 46; (with_reducible refine (nz_idx.calls A c l _ hr hc hl).mono ?_); rintro e w8 ⟨⟨i, rfl, hi⟩, hb⟩)
  go_ret
  exact ⟨by first | rfl | (rw [← hi]; rfl) | (simp [*]; done), hb⟩
/-- Is this a frame's block? -/
def gdB (g k i n : Int) (b : List Int) : Bool := hOk b && (hG b == g) && (hN b == k) && (hW b 0 == i) && (hW b 1 == n) && !((b.drop (24 + (hW b 2).toNat)).any nz)
/-- What stands in it. -/
def payL (b : List Int) : List Int := (b.take (24 + (hW b 2).toNat)).drop 24
def RdOk (now : List (List Int)) (a b : Nat) (g k : Int) (n : Nat) : Prop := 1 ≤ n ∧ a + n ≤ b ∧ ∀ j : Nat, j < n → gdB g k (j : Int) (n : Int) (now.getD (a + j) []) = true
def outL (now : List (List Int)) (a : Nat) : Nat → List Int
  | 0 => []
  | j + 1 => outL now a j ++ payL (now.getD (a + j) [])
theorem payL_len (b : List Int) (hs : (hW b 2).toNat ≤ 488) (hb : b.length = 512) : (payL b).length = (hW b 2).toNat := by unfold payL; rw [List.length_drop, List.length_take]; omega
/-- What is read. -/
def RdIs (now : List (List Int)) (a b : Nat) (g k : Int) : Option (List Int) → Prop
  | some out => ∃ n, RdOk now a b g k n ∧ out = outL now a n
  | none => ∀ n, ¬ RdOk now a b g k n
def rdN (a : Nat) : Option (List Int) → Int
  | some out => (a : Int) + (prts out.length : Int)
  | none => 0
theorem hW_bd {b : List Int} (h : IsB b) (j : Nat) : 0 ≤ hW b j := (bv_lt _ ((h.take _).drop _)).1
theorem hOk_size {b : List Int} (h : hOk b = true) : hW b 2 ≤ 488 := by
  unfold hOk hOk5 hS at h
  simp only [Bool.and_eq_true, Bool.or_eq_true, decide_eq_true_eq, beq_iff_eq] at h
  omega
/-- What a round of the loop goes on from. -/
def RdI (now : List (List Int)) (a b : Nat) (g k : Int) (i : Nat) (n : Int) (out : List Int) : Prop :=
  (i = 0 ∧ n = 1 ∧ out = []) ∨ (0 < i ∧ a + i ≤ b ∧ (i : Int) ≤ n ∧ (∀ j : Nat, j < i → gdB g k (j : Int) n (now.getD (a + j) []) = true) ∧ out = outL now a i)
theorem gdB_n {g k i n : Int} {b : List Int} (h : gdB g k i n b = true) : hW b 1 = n := by
  unfold gdB at h
  simp only [Bool.and_eq_true, beq_iff_eq] at h
  omega
/-- Once it is off the frame's end there is none. -/
theorem RdI.off {now : List (List Int)} {a b : Nat} {g k : Int} {i : Nat} {n : Int} {out : List Int} (h : RdI now a b g k i n out) (hi : (i : Int) < n) (hb : b ≤ a + i) : RdIs now a b g k none := by
  rintro m ⟨m1, m2, m3⟩
  rcases h with ⟨rfl, rfl, rfl⟩ | ⟨h0, h1, h2, h3, _⟩
  · omega
  · have e1 := gdB_n (h3 0 h0)
    have e2 := gdB_n (m3 0 (by omega))
    omega
/-- A block that is none of the frame. -/
theorem RdI.odd {now : List (List Int)} {a b : Nat} {g k : Int} {i : Nat} {n n' : Int} {out : List Int} (h : RdI now a b g k i n out) (hi : (i : Int) < n) (hn : n' = if i = 0 then hW (now.getD (a + i) []) 1 else n) (hg : gdB g k (i : Int) n' (now.getD (a + i) []) = false) : RdIs now a b g k none := by
  rintro m ⟨m1, m2, m3⟩
  rcases h with ⟨rfl, rfl, rfl⟩ | ⟨h0, h1, h2, h3, _⟩
  · rw [if_pos rfl] at hn
    have := m3 0 (by omega)
    rw [hn, gdB_n this] at hg
    rw [hg] at this
    cases this
  · rw [if_neg (by omega)] at hn
    have e1 := gdB_n (h3 0 h0)
    have e2 := gdB_n (m3 0 (by omega))
    have := m3 i (by omega)
    rw [hn, ← e1, e2] at hg
    rw [hg] at this
    cases this
theorem RdI.next {now : List (List Int)} {a b : Nat} {g k : Int} {i : Nat} {n n' : Int} {out : List Int} (h : RdI now a b g k i n out) (hi : (i : Int) < n) (hb : a + i < b) (hn : n' = if i = 0 then hW (now.getD (a + i) []) 1 else n) (hg : gdB g k (i : Int) n' (now.getD (a + i) []) = true) (hp : (i : Int) < n') : RdI now a b g k (i + 1) n' (out ++ payL (now.getD (a + i) [])) := by
  refine .inr ⟨by omega, by omega, by omega, ?_, ?_⟩
  · intro j hj
    by_cases e : j = i
    · subst e; exact hg
    · rcases h with ⟨rfl, rfl, rfl⟩ | ⟨h0, h1, h2, h3, _⟩
      · omega
      · rw [if_neg (by omega)] at hn
        rw [hn]
        exact h3 j (by omega)
  · rcases h with ⟨rfl, rfl, rfl⟩ | ⟨h0, h1, h2, h3, h4⟩
    · rfl
    · rw [outL, h4]
theorem RdI.done {now : List (List Int)} {a b : Nat} {g k : Int} {i : Nat} {n : Int} {out : List Int} (h : RdI now a b g k i n out) (hi : ¬ (i : Int) < n) : RdIs now a b g k (some out) := by
  rcases h with ⟨rfl, rfl, rfl⟩ | ⟨h0, h1, h2, h3, h4⟩
  · exact absurd (by decide) hi
  · obtain rfl : n = (i : Int) := by omega
    exact ⟨i, ⟨h0, h1, h3⟩, h4⟩
theorem outL_le (now : List (List Int)) (a : Nat) (hB : ∀ l ∈ now, l.length ≤ 512) : ∀ i, (outL now a i).length ≤ 512 * i
  | 0 => by simp [outL]
  | i + 1 => by
    rw [outL, List.length_append]
    have ih := outL_le now a hB i
    have : (payL (now.getD (a + i) [])).length ≤ 512 := by
      unfold payL
      have : (now.getD (a + i) []).length ≤ 512 := by
        rw [List.getD_eq_getElem?_getD]
        cases e : now[a + i]? with
        | none => simp
        | some l => exact hB l (List.mem_of_getElem? e)
      rw [List.length_drop, List.length_take]
      omega
    omega
theorem RdI.le {now : List (List Int)} {a b : Nat} {g k : Int} {i : Nat} {n : Int} {out : List Int} (h : RdI now a b g k i n out) (hB : ∀ l ∈ now, l.length ≤ 512) (hb : b ≤ 256) : out.length ≤ 131072 := by
  rcases h with ⟨rfl, rfl, rfl⟩ | ⟨h0, h1, h2, h3, rfl⟩
  · simp
  · have := outL_le now a hB i
    omega
/-- The two cuts of a block. -/
theorem cutQ (A : Option Addr) (c : Nat) (l : List Int) (z : Int) (hc : l.length ≤ c) (h0 : 0 ≤ z) (hz : 24 + z ≤ (l.length : Int)) :
    ∃ A' c', (∀ W : World, (Instr.slice 22 (.slice A l.length c) (some (.int .i64 24)) (some (.int .i64 (24 + z))) none).run Tryd.prog W = .ok (.slice A' ((l.take (24 + z.toNat)).drop 24).length c') W) ∧ (∀ w, Kd.C (Kd.int .u8) w A l.length l → Kd.C (Kd.int .u8) w A' ((l.take (24 + z.toNat)).drop 24).length ((l.take (24 + z.toNat)).drop 24)) ∧ ((l.take (24 + z.toNat)).drop 24).length ≤ c' := by
  obtain ⟨i0, hi0, _, hsz, _⟩ := info_parts info5
  obtain ⟨A', h1, h2, h3⟩ := print_mid_of (P := Tryd.prog) (Value.int .u8) 0 22 5 .i64 .i64 Tryd.underlying22 hi0 hsz A c l 24 (24 + z) (by omega) (by omega) hz hc
  rw [show (24 + z).toNat = 24 + z.toNat by omega] at h1 h2 h3
  exact ⟨A', _, h1, fun w hw => Kd.C_of_reads (h1 := fun _ => rfl) (h2 w (Kd.reads_of_C hw)), h3⟩
theorem cutR (A : Option Addr) (c : Nat) (l : List Int) (z : Int) (hc : l.length ≤ c) (h0 : 0 ≤ z) (hz : 24 + z ≤ (l.length : Int)) :
    ∃ A' c', (∀ W : World, (Instr.slice 22 (.slice A l.length c) (some (.int .i64 (24 + z))) none none).run Tryd.prog W = .ok (.slice A' (l.drop (24 + z.toNat)).length c') W) ∧ (∀ w, Kd.C (Kd.int .u8) w A l.length l → Kd.C (Kd.int .u8) w A' (l.drop (24 + z.toNat)).length (l.drop (24 + z.toNat))) ∧ (l.drop (24 + z.toNat)).length ≤ c' := by
  obtain ⟨i0, hi0, _, hsz, _⟩ := info_parts info5
  obtain ⟨A', h1, h2, h3⟩ := print_drop_of (P := Tryd.prog) (Value.int .u8) 0 22 5 .i64 Tryd.underlying22 hi0 hsz A c l (24 + z) (by omega) hz hc
  rw [show (24 + z).toNat = 24 + z.toNat by omega] at h1 h2 h3
  exact ⟨A', _, h1, fun w hw => Kd.C_of_reads (h1 := fun _ => rfl) (h2 w (Kd.reads_of_C hw)), h3⟩
/-- The test of a block, limb by limb. -/
def gdL (o : Bool) (g xg k xn i p n m : Int) (y : Bool) : Bool := o && (xg == g) && (xn == k) && (p == i) && (m == n) && !y
theorem gdL_F (o : Bool) (g xg k xn i p n m : Int) (y : Bool) (h : (!o || (xg != g) || (xn != k) || (p != i) || (m != n) || y) = true) : gdL o g xg k xn i p n m y = false := by
  unfold gdL
  cases o <;> cases h1 : (xg == g) <;> cases h2 : (xn == k) <;> cases h3 : (p == i) <;> cases h4 : (m == n) <;> cases y <;> simp_all
set_option maxHeartbeats 8000000 in
set_option maxRecDepth 100000 in
theorem Td_off.calls (o : Own) (s : DS) (w : World) (h : Dk ok 49 w o s) (a b g k : Int) (hb : OffP s a b) :
    Calls Tryd.prog 18 #[.pointer (some ⟨o.g, 0, none⟩), .int .i64 a, .int .i64 b, .int .i64 g, .int .i64 k] w fun e w' => e = .returned (.tuple #[.slice none 0 0, .int .i64 0, .bool false]) ∧ Below w.heap.size w w' := by
  have HA := Aside0.mk (Tp_Bad.calls o s w h a b hb)
  clear h hb
  go_enter Tryd.func18, Tryd.ntmps18
  go_wp2_with (first | (go_at_call 21; refine HA.out.mono ?_; rintro e w2 ⟨v, rfl, hv, hb⟩; have HV := Aside0.mk hv; obtain ⟨gf, cs, rfl, hv⟩ := hv))
  go_ret3
  exact ⟨rfl, hb⟩
set_option maxHeartbeats 8000000 in
set_option maxRecDepth 100000 in
theorem Td_N.calls (a b g k : Int) (w : World) :
    Calls Tryd.prog 18 #[.pointer none, .int .i64 a, .int .i64 b, .int .i64 g, .int .i64 k] w fun e w' => e = .returned (.tuple #[.slice none 0 0, .int .i64 0, .bool false]) ∧ Below w.heap.size w w' := by
  have HA := Aside0.mk (Tp_N.calls a b w)
  go_enter Tryd.func18, Tryd.ntmps18
  go_wp2_with (first | (go_at_call 21; refine HA.out.mono ?_; rintro e w2 ⟨v, rfl, hv, hb⟩; have HV := Aside0.mk hv; obtain ⟨gf, cs, rfl, hv⟩ := hv))
  go_ret3
  exact ⟨rfl, hb⟩
set_option maxHeartbeats 8000000 in
set_option maxRecDepth 100000 in
theorem Td.calls (o : Own) (s : DS) (w : World) (h : Dk ok 49 w o s) (hB : s.AllB) (a b : Nat) (g k : Int) (h1 : a ≤ b) (h2 : b ≤ s.now.length) :
    Calls Tryd.prog 18 #[.pointer (some ⟨o.g, 0, none⟩), .int .i64 (a : Int), .int .i64 (b : Int), .int .i64 g, .int .i64 k] w fun e w' => ∃ v r, e = .returned (.tuple #[v, .int .i64 (rdN a r), .bool r.isSome]) ∧ Kd.R (Kd.int .u8) 5 w' w.heap.size (fun _ => True) v (r.getD []) ∧ Below w.heap.size w w' ∧ RdIs s.now a b g k r := by
  have hn1 := h.n1
  have hOK := Aside0.mk (Tp_Ok.calls o s w h (a : Int) (b : Int) (by omega) (by omega) (by omega))
  have hb5 : b ≤ 256 := by omega
  have ha5 : a ≤ 256 := by omega
  have HD := Aside0.mk h
  have HBS := Aside0.mk hB
  have H12 := Aside0.mk (And.intro h1 h2)
  clear h hB h1 h2 hn1
  go_enter Tryd.func18, Tryd.ntmps18
  go_wp2_with (first | (go_at_call 21; with_reducible refine hOK.out.mono ?_; rintro e wc ⟨rfl, hw⟩; replace hw := hw.symm; subst hw))
  go_loopg [13, 14, 15] (b - a + 1) (fun kq v13 v14 v15 w' => ∃ (i : Nat) (n : Int) (out : List Int), v14 = .int .i64 (i : Int) ∧ v15 = .int .i64 n ∧ Aside0 (i + kq = b - a + 1) ∧ Aside0 (RdI s.now a b g k i n out) ∧ Aside0 (Kd.R (Kd.int .u8) 5 w' w.heap.size (fun _ => True) v13 out) ∧ Aside0 (Below w.heap.size w w'))
  case atStart => exact ⟨0, 1, [], (by first | rfl | (simp; done)), (by first | rfl | (simp; done)), ⟨by omega⟩, ⟨.inl ⟨rfl, rfl, rfl⟩⟩, ⟨Kd.R_nil _ _ _ _ _⟩, ⟨Below.refl _ _⟩⟩
  case round =>
    obtain ⟨i, n, out, rfl, rfl, HJ, HI, HO, HB⟩ := hrel
    by_cases ci : (i : Int) < n
    · have d1 : decide ((i : Int) < n) = true := decide_eq_true ci
      have HCI := Aside0.mk ci
      cases gk with
      | zero =>
        have d2 : decide ((b : Int) ≤ (a : Int) + (i : Int)) = true := decide_eq_true (by have := HJ.out; omega)
        have hi5 : i ≤ 1000 := by have := HJ.out; omega
        clear ci
        go_wp2
        go_ret3
        exact ⟨_, none, rfl, Kd.R_nil _ _ _ _ _, HB.out, HI.out.off HCI.out (by have := HJ.out; omega)⟩
      | succ k1 =>
        have hi5 : i ≤ 256 := by have := HJ.out; omega
        by_cases cb : b ≤ a + i
        · have d2 : decide ((b : Int) ≤ (a : Int) + (i : Int)) = true := decide_eq_true (by omega)
          have HCB := Aside0.mk cb
          clear ci cb
          go_wp2
          go_ret3
          exact ⟨_, none, rfl, Kd.R_nil _ _ _ _ _, HB.out, HI.out.off HCI.out HCB.out⟩
        · have d2 : decide ((b : Int) ≤ (a : Int) + (i : Int)) = false := decide_eq_false (by omega)
          have HCB : Aside0 (a + i < b) := ⟨by omega⟩
          clear ci cb
          have hl0 : a + i < s.now.length := by have := H12.out; have := HCB.out; omega
          obtain ⟨l, hl⟩ : ∃ l, s.now[a + i]? = some l := ⟨_, List.getElem?_eq_getElem hl0⟩
          obtain ⟨hIB, hL⟩ := HBS.out.at hl
          have hgd : s.now.getD (a + i) [] = l := by rw [List.getD_eq_getElem?_getD, hl]; rfl
          have RD : Aside0 (∀ w', Below w.heap.size w w' → Calls Tryd.prog 26 #[.pointer (some ⟨o.g, 0, none⟩), .int .i64 ((a : Int) + (i : Int))] w' fun e w'' => ∃ v, e = .returned (.tuple #[v, .nilIface]) ∧ Kd.R (Kd.int .u8) 5 w'' w'.heap.size (fun _ => True) v l ∧ Below w'.heap.size w' w'') := ⟨fun w' hb => by
            have := Dk_Read.calls o s w' (HD.out.below hb) (a + i) hl0 l hl (clone_f l (by omega))
            rw [show ((a + i : Nat) : Int) = (a : Int) + (i : Int) by omega] at this
            exact this⟩
          have HSZ := Aside0.mk (fun h => hOk_size (b := l) h)
          have HPOS := Aside0.mk (hW_bd hIB 2)
          have HL := Aside0.mk hL
          have TR : Aside0 (∀ A c w', Kd.C (Kd.int .u8) w' A l.length l → l.length ≤ c → Calls Tryd.prog 31 #[.slice A l.length c] w' fun e w'' => e = .returned (.tuple #[.agg #[.int .i64 (hG l), .int .i64 (hN l), .int .i64 (hW l 0), .int .i64 (hW l 1), .int .i64 (hW l 2)], .bool (hOk l)]) ∧ Below w'.heap.size w' w'') := ⟨fun A c w' h1 h2 => Tr.calls A c l w' h1 h2 hL hIB⟩
          have HGB : Aside0 (∀ n', gdB g k (i : Int) n' l = gdL (hOk l) g (hG l) k (hN l) (i : Int) (hW l 0) n' (hW l 1) ((l.drop (24 + (hW l 2).toNat)).any nz)) := ⟨fun n' => rfl⟩
          have ODD : Aside0 (∀ n', (n' = if i = 0 then hW l 1 else n) → gdB g k (i : Int) n' l = false → RdIs s.now a b g k none) := ⟨fun n' e1 e2 => HI.out.odd HCI.out (n' := n') (by rw [hgd]; exact e1) (by rw [hgd]; exact e2)⟩
          have NEXT : Aside0 (∀ n', (n' = if i = 0 then hW l 1 else n) → gdB g k (i : Int) n' l = true → (i : Int) < n' → RdI s.now a b g k (i + 1) n' (out ++ payL l)) := ⟨fun n' e1 e2 e3 => by have := HI.out.next HCI.out HCB.out (n' := n') (by rw [hgd]; exact e1) (by rw [hgd]; exact e2) e3; rw [hgd] at this; exact this⟩
          have HPM : Aside0 (hOk l = true → hW l 0 < hW l 1) := ⟨fun h => by
            unfold hOk hOk5 at h
            simp only [Bool.and_eq_true, decide_eq_true_eq] at h
            exact h.1.1.2⟩
          have HPD : Aside0 (payL l = (l.take (24 + (hW l 2).toNat)).drop 24) := ⟨rfl⟩
          generalize hG l = xg at *
          generalize hN l = xn at *
          generalize hW l 0 = p at *
          generalize hW l 1 = m at *
          generalize hW l 2 = z at *
          generalize hok : hOk l = okv at *
          generalize payL l = PL at *
          clear hl0 hl hIB hL hgd hok
          by_cases hi0 : i = 0
          · have e0 : ((i : Int) == 0) = true := by rw [hi0]; rfl
            have HN : Aside0 (m = if i = 0 then m else n) := ⟨(if_pos hi0).symm⟩
            have HI0 := Aside0.mk hi0
            clear hi0
            go_upto_region 13 with (first | (go_at_call 31; (with_reducible refine (TR.out _ _ _ (Kd.R_reads' R1.out).2.2 (Kd.R_reads' R1.out).2.1).mono ?_); rintro e w2 ⟨rfl, hb2⟩; have B2 := Aside0.mk (below_step B1.out hb2); have O2 := Aside0.mk (Kd.R_below O1.out hb2); have R2 := Aside0.mk (Kd.R_below R1.out hb2); clear hb2) | (go_at_call 26; with_reducible refine (RD.out _ HB.out).mono ?_; rintro e w1 ⟨v1, rfl, hr1, hb1⟩; have R1 := Aside0.mk hr1; obtain ⟨A1, c1, rfl⟩ := Kd.R_slice hr1; have B1 := Aside0.mk (below_step HB.out hb1); have O1 := Aside0.mk (Kd.R_below HO.out hb1); clear hr1 hb1))
            cases okv
            · go_wp2
              go_ret3
              exact ⟨_, none, rfl, Kd.R_nil _ _ _ _ _, B2.out.alloc B2.out.size _, ODD.out _ HN.out ((HGB.out _).trans (gdL_F _ _ _ _ _ _ _ _ _ _ (by rfl)))⟩
            have hsz := HSZ.out rfl
            have hpos := HPOS.out
            cases q1 : (xg != g)
            rotate_left
            · go_wp2
              go_ret3
              exact ⟨_, none, rfl, Kd.R_nil _ _ _ _ _, B2.out.alloc B2.out.size _, ODD.out _ HN.out ((HGB.out _).trans (gdL_F _ _ _ _ _ _ _ _ _ _ (by rw [q1]; simp only [Bool.or_true, Bool.true_or])))⟩
            cases q2 : (xn != k)
            rotate_left
            · go_wp2
              go_ret3
              exact ⟨_, none, rfl, Kd.R_nil _ _ _ _ _, B2.out.alloc B2.out.size _, ODD.out _ HN.out ((HGB.out _).trans (gdL_F _ _ _ _ _ _ _ _ _ _ (by rw [q2]; simp only [Bool.or_true, Bool.true_or])))⟩
            cases q3 : (p != (i : Int))
            rotate_left
            · go_wp2
              go_ret3
              exact ⟨_, none, rfl, Kd.R_nil _ _ _ _ _, B2.out.alloc B2.out.size _, ODD.out _ HN.out ((HGB.out _).trans (gdL_F _ _ _ _ _ _ _ _ _ _ (by rw [q3]; simp only [Bool.or_true, Bool.true_or])))⟩
            obtain ⟨A3, c3, hcut3, hrow3, hle3⟩ := cutR A1 c1 l z (Kd.R_reads' R2.out).2.1 hpos (by rw [HL.out]; omega)
            obtain ⟨A4, c4, hcut4, hrow4, hle4⟩ := cutQ A1 c1 l z (Kd.R_reads' R2.out).2.1 hpos (by rw [HL.out]; omega)
            have HR3 := Aside0.mk (hrow3 _ (Kd.R_reads' R2.out).2.2)
            have HR4 := Aside0.mk (hrow4 _ (Kd.R_reads' R2.out).2.2)
            have HC3 := Aside0.mk hle3
            have HC4 := Aside0.mk hle4
            have HL3 : Aside0 ((l.drop (24 + z.toNat)).length < 9223372036854775807) := ⟨by rw [List.length_drop, HL.out]; omega⟩
            have HL4 : Aside0 (((l.take (24 + z.toNat)).drop 24).length ≤ 488) := ⟨by rw [List.length_drop, List.length_take]; omega⟩
            have HLO := Aside0.mk (HI.out.le (fun l hl => Nat.le_of_eq (HBS.out l hl).2) hb5)
            rw [← HPD.out] at hcut4 HR4 HC4 HL4
            generalize l.drop (24 + z.toNat) = DR at *
            clear hrow3 hrow4 hle3 hle4
            cases hy : DR.any nz
            rotate_left
            · go_wp2_with (first | (go_at_call 32; (with_reducible refine (nz_any.calls A3 c3 DR _ (Kd.C_alloc HR3.out _) HC3.out HL3.out).mono ?_); rintro e w3 ⟨rfl, hb3⟩; have B3 := Aside0.mk (below_step (B2.out.alloc B2.out.size _) hb3); clear hb3; rw [hy]))
              go_ret3
              exact ⟨_, none, rfl, Kd.R_nil _ _ _ _ _, B3.out, ODD.out _ HN.out ((HGB.out _).trans (gdL_F _ _ _ _ _ _ _ _ _ _ (by rw [hy]; simp only [Bool.or_true, Bool.true_or])))⟩
            · have hgood : gdB g k (i : Int) m l = true := by
                rw [HGB.out, hy]
                unfold gdL
                have w1 := bne_eq_false_iff_eq.mp q1
                have w2 := bne_eq_false_iff_eq.mp q2
                have w3 := bne_eq_false_iff_eq.mp q3
                have w4 : m = m := rfl
                simp only [w1, w2, w3, beq_self_eq_true, Bool.and_self, Bool.not_false]
              have hlt : (i : Int) < m := by
                have w3 := bne_eq_false_iff_eq.mp q3
                have := HPM.out rfl
                skip
                omega
              have NX := Aside0.mk (NEXT.out _ HN.out hgood hlt)
              clear hgood hlt
              go_wp2_with (first | (go_at_call 32; (with_reducible refine (nz_any.calls A3 c3 DR _ (Kd.C_alloc HR3.out _) HC3.out HL3.out).mono ?_); rintro e w3 ⟨rfl, hb3⟩; have B3 := Aside0.mk (below_step (B2.out.alloc B2.out.size _) hb3); have O3 := Aside0.mk (Kd.R_below (Kd.R_alloc O2.out _) hb3); have R3 := Aside0.mk (Kd.C_below (Kd.C_alloc HR4.out _) hb3); have X3 : Aside0 (w3.heap[w2.heap.size]? = some (.cells #[.int .i64 xg, .int .i64 xn, .int .i64 p, .int .i64 m, .int .i64 z] 54 (0, 0))) := ⟨blk_below (blk_new w2 _) hb3⟩; have x34 : w3.cell? ⟨w2.heap.size, 4, none⟩ = some (.int .i64 z) := (blk_cell X3.out 4).trans rfl; clear hb3; rw [hy]) | ((with_reducible refine gate_builtin (b := .append) (xs := #[.tmp 86, .tmp 91]) rfl ?_); at_builtin; refine Kd.R_append_rows (Kd.int .u8) (w0 := w) w.heap.size rfl (.tmp 86) (.tmp 91) 22 5 (.int .u8 0) 1 rfl Tryd.underlying22 info5 rfl (by decide) (by omega) u13 out PL _ _ _ (fun _ => True) (fun _ => False) rfl rfl ?aO ?aR (fun _ _ h => h) (fun _ h => h.elim) ?aF ?aB ?aS ?aL ?_; (case aR => exact R3.out); (case aB => exact B3.out); (case aF => exact (fun _ _ => trivial)); (case aO => exact O3.out); (case aS => exact B3.out.size); (case aL => have := HL4.out; have := HLO.out; omega); intro v136 w24 ho hb hg hat; have O4 := Aside0.mk ho; have B4 := Aside0.mk hb; clear ho hb hg hat))
              go_roundg k1
              case measure => omega
              case rel => exact ⟨i + 1, m, out ++ PL, (by
                have hw : wrap64 ((i : Int) + 1) = ((i + 1 : Nat) : Int) := by unfold wrap64; omega
                first | rfl | (rw [← hw]; rfl) | (simp [*]; done)), (by first | rfl | (simp; done)), ⟨by have := HJ.out; omega⟩, NX, O4, B4⟩
          · have e0 : ((i : Int) == 0) = false := by rw [beq_eq_false_iff_ne]; omega
            have HN : Aside0 (n = if i = 0 then m else n) := ⟨(if_neg hi0).symm⟩
            have HI0 := Aside0.mk hi0
            clear hi0
            go_upto_region 13 with (first | (go_at_call 31; (with_reducible refine (TR.out _ _ _ (Kd.R_reads' R1.out).2.2 (Kd.R_reads' R1.out).2.1).mono ?_); rintro e w2 ⟨rfl, hb2⟩; have B2 := Aside0.mk (below_step B1.out hb2); have O2 := Aside0.mk (Kd.R_below O1.out hb2); have R2 := Aside0.mk (Kd.R_below R1.out hb2); clear hb2) | (go_at_call 26; with_reducible refine (RD.out _ HB.out).mono ?_; rintro e w1 ⟨v1, rfl, hr1, hb1⟩; have R1 := Aside0.mk hr1; obtain ⟨A1, c1, rfl⟩ := Kd.R_slice hr1; have B1 := Aside0.mk (below_step HB.out hb1); have O1 := Aside0.mk (Kd.R_below HO.out hb1); clear hr1 hb1))
            cases okv
            · go_wp2
              go_ret3
              exact ⟨_, none, rfl, Kd.R_nil _ _ _ _ _, B2.out.alloc B2.out.size _, ODD.out _ HN.out ((HGB.out _).trans (gdL_F _ _ _ _ _ _ _ _ _ _ (by rfl)))⟩
            have hsz := HSZ.out rfl
            have hpos := HPOS.out
            cases q1 : (xg != g)
            rotate_left
            · go_wp2
              go_ret3
              exact ⟨_, none, rfl, Kd.R_nil _ _ _ _ _, B2.out.alloc B2.out.size _, ODD.out _ HN.out ((HGB.out _).trans (gdL_F _ _ _ _ _ _ _ _ _ _ (by rw [q1]; simp only [Bool.or_true, Bool.true_or])))⟩
            cases q2 : (xn != k)
            rotate_left
            · go_wp2
              go_ret3
              exact ⟨_, none, rfl, Kd.R_nil _ _ _ _ _, B2.out.alloc B2.out.size _, ODD.out _ HN.out ((HGB.out _).trans (gdL_F _ _ _ _ _ _ _ _ _ _ (by rw [q2]; simp only [Bool.or_true, Bool.true_or])))⟩
            cases q3 : (p != (i : Int))
            rotate_left
            · go_wp2
              go_ret3
              exact ⟨_, none, rfl, Kd.R_nil _ _ _ _ _, B2.out.alloc B2.out.size _, ODD.out _ HN.out ((HGB.out _).trans (gdL_F _ _ _ _ _ _ _ _ _ _ (by rw [q3]; simp only [Bool.or_true, Bool.true_or])))⟩
            cases q4 : (m != n)
            rotate_left
            · go_wp2
              go_ret3
              exact ⟨_, none, rfl, Kd.R_nil _ _ _ _ _, B2.out.alloc B2.out.size _, ODD.out _ HN.out ((HGB.out _).trans (gdL_F _ _ _ _ _ _ _ _ _ _ (by rw [q4]; simp only [Bool.or_true, Bool.true_or])))⟩
            obtain ⟨A3, c3, hcut3, hrow3, hle3⟩ := cutR A1 c1 l z (Kd.R_reads' R2.out).2.1 hpos (by rw [HL.out]; omega)
            obtain ⟨A4, c4, hcut4, hrow4, hle4⟩ := cutQ A1 c1 l z (Kd.R_reads' R2.out).2.1 hpos (by rw [HL.out]; omega)
            have HR3 := Aside0.mk (hrow3 _ (Kd.R_reads' R2.out).2.2)
            have HR4 := Aside0.mk (hrow4 _ (Kd.R_reads' R2.out).2.2)
            have HC3 := Aside0.mk hle3
            have HC4 := Aside0.mk hle4
            have HL3 : Aside0 ((l.drop (24 + z.toNat)).length < 9223372036854775807) := ⟨by rw [List.length_drop, HL.out]; omega⟩
            have HL4 : Aside0 (((l.take (24 + z.toNat)).drop 24).length ≤ 488) := ⟨by rw [List.length_drop, List.length_take]; omega⟩
            have HLO := Aside0.mk (HI.out.le (fun l hl => Nat.le_of_eq (HBS.out l hl).2) hb5)
            rw [← HPD.out] at hcut4 HR4 HC4 HL4
            generalize l.drop (24 + z.toNat) = DR at *
            clear hrow3 hrow4 hle3 hle4
            cases hy : DR.any nz
            rotate_left
            · go_wp2_with (first | (go_at_call 32; (with_reducible refine (nz_any.calls A3 c3 DR _ (Kd.C_alloc HR3.out _) HC3.out HL3.out).mono ?_); rintro e w3 ⟨rfl, hb3⟩; have B3 := Aside0.mk (below_step (B2.out.alloc B2.out.size _) hb3); clear hb3; rw [hy]))
              go_ret3
              exact ⟨_, none, rfl, Kd.R_nil _ _ _ _ _, B3.out, ODD.out _ HN.out ((HGB.out _).trans (gdL_F _ _ _ _ _ _ _ _ _ _ (by rw [hy]; simp only [Bool.or_true, Bool.true_or])))⟩
            · have hgood : gdB g k (i : Int) n l = true := by
                rw [HGB.out, hy]
                unfold gdL
                have w1 := bne_eq_false_iff_eq.mp q1
                have w2 := bne_eq_false_iff_eq.mp q2
                have w3 := bne_eq_false_iff_eq.mp q3
                have w4 : m = n := bne_eq_false_iff_eq.mp q4
                simp only [w1, w2, w3, w4, beq_self_eq_true, Bool.and_self, Bool.not_false]
              have hlt : (i : Int) < n := by
                have w3 := bne_eq_false_iff_eq.mp q3
                have := HPM.out rfl
                have w4 : m = n := bne_eq_false_iff_eq.mp q4
                omega
              have NX := Aside0.mk (NEXT.out _ HN.out hgood hlt)
              clear hgood hlt
              go_wp2_with (first | (go_at_call 32; (with_reducible refine (nz_any.calls A3 c3 DR _ (Kd.C_alloc HR3.out _) HC3.out HL3.out).mono ?_); rintro e w3 ⟨rfl, hb3⟩; have B3 := Aside0.mk (below_step (B2.out.alloc B2.out.size _) hb3); have O3 := Aside0.mk (Kd.R_below (Kd.R_alloc O2.out _) hb3); have R3 := Aside0.mk (Kd.C_below (Kd.C_alloc HR4.out _) hb3); have X3 : Aside0 (w3.heap[w2.heap.size]? = some (.cells #[.int .i64 xg, .int .i64 xn, .int .i64 p, .int .i64 m, .int .i64 z] 54 (0, 0))) := ⟨blk_below (blk_new w2 _) hb3⟩; have x34 : w3.cell? ⟨w2.heap.size, 4, none⟩ = some (.int .i64 z) := (blk_cell X3.out 4).trans rfl; clear hb3; rw [hy]) | ((with_reducible refine gate_builtin (b := .append) (xs := #[.tmp 86, .tmp 91]) rfl ?_); at_builtin; refine Kd.R_append_rows (Kd.int .u8) (w0 := w) w.heap.size rfl (.tmp 86) (.tmp 91) 22 5 (.int .u8 0) 1 rfl Tryd.underlying22 info5 rfl (by decide) (by omega) u13 out PL _ _ _ (fun _ => True) (fun _ => False) rfl rfl ?aO ?aR (fun _ _ h => h) (fun _ h => h.elim) ?aF ?aB ?aS ?aL ?_; (case aR => exact R3.out); (case aB => exact B3.out); (case aF => exact (fun _ _ => trivial)); (case aO => exact O3.out); (case aS => exact B3.out.size); (case aL => have := HL4.out; have := HLO.out; omega); intro v136 w24 ho hb hg hat; have O4 := Aside0.mk ho; have B4 := Aside0.mk hb; clear ho hb hg hat))
              go_roundg k1
              case measure => omega
              case rel => exact ⟨i + 1, n, out ++ PL, (by
                have hw : wrap64 ((i : Int) + 1) = ((i + 1 : Nat) : Int) := by unfold wrap64; omega
                first | rfl | (rw [← hw]; rfl) | (simp [*]; done)), (by first | rfl | (simp; done)), ⟨by have := HJ.out; omega⟩, NX, O4, B4⟩
    · have d1 : decide ((i : Int) < n) = false := decide_eq_false ci
      have HR := Aside0.mk (HI.out.done ci)
      have HLE := Aside0.mk (HI.out.le (fun l hl => Nat.le_of_eq (HBS.out l hl).2) hb5)
      have HPF := Aside0.mk (parts_f out.length (by have := HLE.out; omega))
      have hpq : prts out.length ≤ 300 := by have := HLE.out; unfold prts; omega
      obtain ⟨Ao, co, rfl⟩ := Kd.R_slice HO.out
      clear ci
      go_wp2_with (first | (go_at_call 14; with_reducible refine (tail_Parts.calls _ _ _ HPF.out).mono ?_; rintro e w1 ⟨rfl, hb1⟩; have B1 := Aside0.mk hb1; clear hb1))
      go_ret3
      exact ⟨_, some out, rfl, Kd.R_below HO.out B1.out, below_step HB.out B1.out, HR.out⟩
end

end Go.Proofs.YtkiofhmpeokipaaDoor.PTA
