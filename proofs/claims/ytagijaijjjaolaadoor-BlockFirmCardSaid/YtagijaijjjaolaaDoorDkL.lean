import Derived.Test.YtagijaijjjaolaaDoorDkK
namespace Go.Proofs.YtagijaijjjaolaaDoor.PBL
open Go.RowKit Go.Proofs.YtagijaijjjaolaaDoorW.PrintWords Go.Proofs.YtagijaijjjaolaaDoorW.PrintLast Go.Proofs.YtagijaijjjaolaaDoorW.PrintMore
attribute [local go_sem] max2_int min2_int max_two min_two max_three min_three max_four min_four
set_option linter.unusedVariables false
set_option linter.unusedSimpArgs false
section
variable {ok ok2 : Nat → Prop}
/-- A disk in the making: what its cells hold, its two rows. -/
structure MidR (T : TypeId) (w0 w : World) (g bd n jN jF : Nat) (cN cF vN vF : Value) : Prop where
  below : Below w0.heap.size w0 w
  g0 : w0.heap.size ≤ g
  hg : w.heap[g]? = some (.cells #[cN, cF, .slice (some ⟨bd, 0, none⟩) n n] T (0, 0))
  rN : ∃ vs, vs.length = jN ∧ w.ownsRow w0.heap.size 22 1 vN jN vs ∧ Byts (fun _ => True) w vs (List.replicate jN (List.replicate 512 0))
  rF : ∃ vs, vs.length = jF ∧ w.ownsRow w0.heap.size 22 1 vF jF vs ∧ Byts (fun _ => True) w vs (List.replicate jF (List.replicate 512 0))
  ne : vN.ownBlock = none ∨ vN.ownBlock ≠ vF.ownBlock
  hd : Row w bd 4 (List.replicate n (.bool false))
theorem MidR.below_ {T : TypeId} {w0 w : World} {g bd n jN jF : Nat} {cN cF vN vF : Value} (h : MidR T w0 w g bd n jN jF cN cF vN vF) {w1 : World} (hb : Below w.heap.size w w1) : MidR T w0 w1 g bd n jN jF cN cF vN vF := by
  obtain ⟨l, e1, e2, e3⟩ := h.rN
  obtain ⟨l', e1', e2', e3'⟩ := h.rF
  have own : ∀ (v : Value) (m : Nat) (xs : List Value), w.ownsRow w0.heap.size 22 1 v m xs → w1.ownsRow w0.heap.size 22 1 v m xs := fun v m xs ho => by
    refine ⟨ho.1, ?_⟩
    rcases ho.2 with e | ⟨q, cap, cur, e, e1, e2, r⟩
    · exact .inl e
    · exact .inr ⟨q, cap, cur, e, e1, blk_below e2 hb, r⟩
  exact ⟨below_step h.below hb, h.g0, blk_below h.hg hb, ⟨l, e1, own _ _ _ e2, e3.same fun q cs e => hb.block q (blk_lt e)⟩, ⟨l', e1', own _ _ _ e2', e3'.same fun q cs e => hb.block q (blk_lt e)⟩, h.ne, h.hd.same (hb.block _ h.hd.lt)⟩
theorem MidR.alloc {T : TypeId} {w0 w : World} {g bd n jN jF : Nat} {cN cF vN vF : Value} (h : MidR T w0 w g bd n jN jF cN cF vN vF) (o : Obj) : MidR T w0 (w.alloc o) g bd n jN jF cN cF vN vF := h.below_ ((Below.refl _ _).alloc (Nat.le_refl _) o)
theorem MidR.drew {T : TypeId} {w0 w : World} {g bd n jN jF : Nat} {cN cF vN vF : Value} (h : MidR T w0 w g bd n jN jF cN cF vN vF) : MidR T w0 w.drew g bd n jN jF cN cF vN vF := h.below_ (Below.drew (Below.refl _ _))
theorem MidR.c0 {T : TypeId} {w0 w : World} {g bd n jN jF : Nat} {cN cF vN vF : Value} (h : MidR T w0 w g bd n jN jF cN cF vN vF) : w.cell? ⟨g, 0, none⟩ = some cN := (blk_cell h.hg 0).trans rfl
theorem MidR.c1 {T : TypeId} {w0 w : World} {g bd n jN jF : Nat} {cN cF vN vF : Value} (h : MidR T w0 w g bd n jN jF cN cF vN vF) : w.cell? ⟨g, 1, none⟩ = some cF := (blk_cell h.hg 1).trans rfl
theorem Byts.snoc {w : World} {vs : List Value} {j : Nat} {z : Value} (h : Byts (fun _ => True) w vs (List.replicate j (List.replicate 512 0))) (hl : vs.length = j) (hz : Byt (fun _ => True) w z (List.replicate 512 0)) : Byts (fun _ => True) w (vs ++ [z]) (List.replicate (j + 1) (List.replicate 512 0)) := by
  refine ⟨by rw [List.length_append, hl, List.length_replicate]; rfl, fun i v m hv hm => ?_⟩
  rw [List.getElem?_replicate] at hm
  split at hm
  · obtain rfl := Option.some.inj hm
    by_cases hi : i < j
    · rw [List.getElem?_append_left (by rw [hl]; exact hi)] at hv
      exact h.2 i v _ hv (by rw [List.getElem?_replicate, if_pos hi])
    · obtain rfl : i = j := by omega
      rw [List.getElem?_append_right (by rw [hl]; exact Nat.le_refl _), hl, Nat.sub_self] at hv
      obtain rfl := Option.some.inj hv
      exact hz
  · cases hm
theorem MidR.appN {T : TypeId} {w0 w : World} {g bd n jN jF : Nat} {cN cF vN vF : Value} (h : MidR T w0 w g bd n jN jF cN cF vN vF) (hT : T ≠ 22) {w1 : World} {g1 m cap : Nat} {l : List Value} {z : Value} (hl : l.length = jN) (hb : Byts (fun _ => True) w l (List.replicate jN (List.replicate 512 0))) (hz : Byt (fun _ => True) w z (List.replicate 512 0)) (hm : m = jN + 1) (ho : w1.ownsRow w0.heap.size 22 1 (.slice (some ⟨g1, 0, none⟩) m cap) m (l ++ [z])) (hg : w.grownBy w1 vN.ownBlock) (ha : vN.ownBlock = some g1 ∨ g1 = w.heap.size) : MidR T w0 w1 g bd n (jN + 1) jF cN cF (.slice (some ⟨g1, 0, none⟩) m cap) vF := by
  obtain ⟨lN, _, rN, _⟩ := h.rN
  obtain ⟨lF, q1, rF, q3⟩ := h.rF
  have q8 : ∀ (q : Nat) (cs : Array Value), w.heap[q]? = some (.cells cs 5 (0, 0)) → w1.heap[q]? = w.heap[q]? := fun q cs e => hg.block q (blk_lt e) (own_ne rN e (by decide))
  refine ⟨h.below.grown hg h.below.size (fun k hk => (rN.lt k hk).1), h.g0, blk_grown h.hg hg (own_ne rN h.hg (Ne.symm hT)), ⟨l ++ [z], by rw [List.length_append, hl]; rfl, by subst hm; exact ho, (hb.snoc hl hz).same q8⟩, ⟨lF, q1, rF.kept hg (h.ne.elim (fun e => by rw [e]; cases vF.ownBlock <;> simp) fun e => .inr (Ne.symm e)), q3.same q8⟩, .inr ?_, h.hd.same (hg.block _ h.hd.lt (own_ne rN h.hd.choose_spec.1 (by decide)))⟩
  show some g1 ≠ vF.ownBlock
  rcases ha with e | e
  · rw [← e]; exact h.ne.resolve_left (by rw [e]; simp)
  · intro e2
    have := (rF.lt g1 e2.symm).2
    omega
theorem MidR.appF {T : TypeId} {w0 w : World} {g bd n jN jF : Nat} {cN cF vN vF : Value} (h : MidR T w0 w g bd n jN jF cN cF vN vF) (hT : T ≠ 22) {w1 : World} {g1 m cap : Nat} {l : List Value} {z : Value} (hl : l.length = jF) (hb : Byts (fun _ => True) w l (List.replicate jF (List.replicate 512 0))) (hz : Byt (fun _ => True) w z (List.replicate 512 0)) (hm : m = jF + 1) (ho : w1.ownsRow w0.heap.size 22 1 (.slice (some ⟨g1, 0, none⟩) m cap) m (l ++ [z])) (hg : w.grownBy w1 vF.ownBlock) (ha : vF.ownBlock = some g1 ∨ g1 = w.heap.size) : MidR T w0 w1 g bd n jN (jF + 1) cN cF vN (.slice (some ⟨g1, 0, none⟩) m cap) := by
  obtain ⟨lN, q1, rN, q3⟩ := h.rN
  obtain ⟨lF, _, rF, _⟩ := h.rF
  have q8 : ∀ (q : Nat) (cs : Array Value), w.heap[q]? = some (.cells cs 5 (0, 0)) → w1.heap[q]? = w.heap[q]? := fun q cs e => hg.block q (blk_lt e) (own_ne rF e (by decide))
  have hne2 : vN.ownBlock = none ∨ vN.ownBlock ≠ some g1 := by
    rcases h.ne with e | e
    · exact .inl e
    · rcases ha with e2 | e2
      · exact .inr (by rw [← e2]; exact e)
      · refine .inr fun e3 => ?_
        have := (rN.lt g1 e3).2
        omega
  exact ⟨h.below.grown hg h.below.size (fun k hk => (rF.lt k hk).1), h.g0, blk_grown h.hg hg (own_ne rF h.hg (Ne.symm hT)), ⟨lN, q1, rN.kept hg h.ne, q3.same q8⟩, ⟨l ++ [z], by rw [List.length_append, hl]; rfl, by subst hm; exact ho, (hb.snoc hl hz).same q8⟩, hne2, h.hd.same (hg.block _ h.hd.lt (own_ne rF h.hd.choose_spec.1 (by decide)))⟩
theorem MidR.put {T : TypeId} {w0 w : World} {g bd n jN jF : Nat} {cN cF vN vF : Value} (h : MidR T w0 w g bd n jN jF cN cF vN vF) (hT : T ≠ 22) (hT2 : T ≠ 4) (hT3 : T ≠ 5) (i : Nat) (v c0 c1 : Value) (he : (#[cN, cF, .slice (some ⟨bd, 0, none⟩) n n] : Array Value).setIfInBounds i v = #[c0, c1, .slice (some ⟨bd, 0, none⟩) n n]) : MidR T w0 (w.setCell ⟨g, i, none⟩ v) g bd n jN jF c0 c1 vN vF := by
  have hb : Keeps (fun k => k = g) w (w.setCell ⟨g, i, none⟩ v) := Keeps.set (fun k => k = g) w g i v rfl
  have q8 : ∀ (q : Nat) (cs : Array Value), w.heap[q]? = some (.cells cs 5 (0, 0)) → (w.setCell ⟨g, i, none⟩ v).heap[q]? = w.heap[q]? := fun q cs e => hb.far q (blk_lt e) (fun e2 => by rw [e2] at e; exact blk_ne h.hg e hT3 rfl)
  have own : ∀ (v' : Value) (m : Nat) (xs : List Value), w.ownsRow w0.heap.size 22 1 v' m xs → (w.setCell ⟨g, i, none⟩ v).ownsRow w0.heap.size 22 1 v' m xs := fun v' m xs ho => by
    refine ⟨ho.1, ?_⟩
    rcases ho.2 with e | ⟨q, cap, cur, e, e1, e2, r⟩
    · exact .inl e
    · exact .inr ⟨q, cap, cur, e, e1, (hb.far q (blk_lt e2) (fun e3 => by rw [e3] at e2; exact blk_ne h.hg e2 hT rfl)).trans e2, r⟩
  obtain ⟨l, e1, e2, e3⟩ := h.rN
  obtain ⟨l', e1', e2', e3'⟩ := h.rF
  exact ⟨hb.below (fun k hk => by rw [hk]; exact h.g0) h.below.size h.below, h.g0, blk_put h.hg i v he, ⟨l, e1, own _ _ _ e2, e3.same q8⟩, ⟨l', e1', own _ _ _ e2', e3'.same q8⟩, h.ne, h.hd.same (hb.far _ h.hd.lt (fun e => by obtain ⟨cs, ec, _⟩ := h.hd; rw [show bd = g from e] at ec; exact blk_ne h.hg ec hT2 rfl))⟩
theorem MidR.start {T : TypeId} (w : World) {n : Nat} {Z : Array Value} (hZ : Z.toList = List.replicate n (.bool false)) : MidR T w ((w.alloc (.cells Z 4 (0, 0))).alloc (.cells #[.slice none 0 0, .slice none 0 0, .slice (some ⟨w.heap.size, 0, none⟩) n n] T (0, 0))) (w.heap.size + 1) w.heap.size n 0 0 (.slice none 0 0) (.slice none 0 0) (.slice none 0 0) (.slice none 0 0) := by
  have h1 : Below w.heap.size w (w.alloc (.cells Z 4 (0, 0))) := (Below.refl _ _).alloc (Nat.le_refl _) _
  refine ⟨h1.alloc h1.size _, Nat.le_succ _, blk_new2 _ _ _, ⟨[], rfl, World.ownsRow_nil _ _ _ _, ⟨rfl, fun i v l e => by simp at e⟩⟩, ⟨[], rfl, World.ownsRow_nil _ _ _ _, ⟨rfl, fun i v l e => by simp at e⟩⟩, .inl rfl, ?_⟩
  exact Row.of_toList (blk_alloc (blk_new _ _) _) hZ
theorem MidR.done {T : TypeId} {w0 w : World} {bd n : Nat} {vN vF : Value} (h : MidR T w0 w (bd + 1) bd n n n vN vF vN vF) (hbd : bd = w0.heap.size) (h1 : 1 ≤ n) (h2 : n ≤ 256) : ∃ o : Own, o.g = bd + 1 ∧ Dk (fun _ => True) T w o ⟨List.replicate n (List.replicate 512 0), List.replicate n (List.replicate 512 0), List.replicate n false⟩ ∧ (∀ k, o.has k → w0.heap.size ≤ k) := by
  obtain ⟨l, hl, r1, b⟩ := h.rN
  obtain ⟨l', hl', r2, b'⟩ := h.rF
  have hne := h.ne
  obtain ⟨gN, cN, rfl, q1, q2, q3, q4⟩ := Row.of_own r1 (by omega)
  obtain ⟨gF, cF, rfl, p1, p2, p3, p4⟩ := Row.of_own r2 (by omega)
  refine ⟨⟨bd + 1, gN, gF, bd, cN, cF, n⟩, rfl, ⟨by show 0 < (List.replicate n _).length; rw [List.length_replicate]; omega, by show (List.replicate n _).length ≤ 256; rw [List.length_replicate]; omega, rfl, by show (List.replicate n _).length = (List.replicate n _).length; rw [List.length_replicate, List.length_replicate], ?_, ⟨l, q4, b⟩, ⟨l', p4, b'⟩, ?_, ?_⟩, ?_⟩
  · show w.heap[bd + 1]? = some (.cells #[.slice (some ⟨gN, 0, none⟩) (List.replicate n (List.replicate 512 (0 : Int))).length cN, .slice (some ⟨gF, 0, none⟩) (List.replicate n (List.replicate 512 (0 : Int))).length cF, .slice (some ⟨bd, 0, none⟩) (List.replicate n (List.replicate 512 (0 : Int))).length n] T (0, 0)) ∧ (List.replicate n (List.replicate 512 (0 : Int))).length ≤ cN ∧ (List.replicate n (List.replicate 512 (0 : Int))).length ≤ cF ∧ (List.replicate n (List.replicate 512 (0 : Int))).length ≤ n
    rw [List.length_replicate]
    exact ⟨h.hg, q1, p1, Nat.le_refl _⟩
  · show Row w bd 4 ((List.replicate n false).map .bool)
    rw [List.map_replicate]
    exact h.hd
  · show gN ≠ gF
    rcases hne with e | e
    · cases e
    · intro e2; exact e (by rw [e2]; rfl)
  · intro k hk
    have hk : k = bd + 1 ∨ k = gN ∨ k = gF ∨ k = bd := hk
    omega
theorem Byt.zeros {w : World} {Z : Array Value} (hZ : Z.toList = List.replicate 512 (.int .u8 0)) {q : Nat} (hq : w.heap[q]? = some (.cells Z 5 (0, 0))) : Byt (fun _ => True) w (.slice (some ⟨q, 0, none⟩) 512 512) (List.replicate 512 0) := by
  refine ⟨q, 512, trivial, by rw [List.length_replicate], by rw [List.length_replicate]; exact Nat.le_refl _, List.length_replicate, ?_⟩
  refine Row.of_toList hq (hZ.trans ?_)
  rw [List.map_replicate]

set_option maxHeartbeats 8000000 in
set_option maxRecDepth 100000 in
theorem Rk_New.calls (n : Nat) (w : World) (h1 : 1 ≤ n) (h2 : n ≤ 256) :
    Calls Tryd.prog 18 #[.int .i64 (n : Int)] w fun e w' => ∃ o : Own, e = .returned (.pointer (some ⟨o.g, 0, none⟩)) ∧ Dk (fun _ => True) 64 w' o ⟨List.replicate n (List.replicate 512 0), List.replicate n (List.replicate 512 0), List.replicate n false⟩ ∧ (∀ k, o.has k → w.heap.size ≤ k) ∧ Below w.heap.size w w' := by
  have c1 : decide ((n : Int) < 1) = false := decide_eq_false (by omega)
  have c2 : decide ((n : Int) > 256) = false := decide_eq_false (by omega)
  have c3 : decide (256 < (n : Int)) = false := decide_eq_false (by omega)
  have H1 := Aside0.mk h1
  have H2 := Aside0.mk h2
  obtain ⟨i0, hi, hz0, hz1, hz2⟩ := info_parts info_bytes
  have HI := Aside0.mk (And.intro hi (And.intro hz0 (And.intro hz1 hz2)))
  clear hi hz0 hz1 hz2
  obtain ⟨ZB, hZB, hmb⟩ := make_run (e := 4) (t := 23) (z := .bool false) Tryd.underlying23 info_bool rfl n (by omega) (by omega)
  obtain ⟨ZU, hZU, hmu⟩ := make_run (e := 5) (t := 22) (z := .int .u8 0) Tryd.underlying22 info_u8 rfl 512 (by omega) (by omega)
  have hmu : ∀ W : World, (Instr.makeSlice 22 (.int .i64 512) (.int .i64 512)).run Tryd.prog W = .ok (.slice (some ⟨W.heap.size, 0, none⟩) 512 512) (W.alloc (.cells ZU 5 (0, 0))) := hmu
  have HZB := Aside0.mk hZB
  have HZU := Aside0.mk hZU
  clear h1 h2 hZB hZU
  go_enter Tryd.func18, Tryd.ntmps18
  go_wp2
  have HST := Aside0.mk (MidR.start (T := 64) w HZB.out)
  obtain ⟨gd, hgd⟩ : ∃ gd, gd = w.heap.size := ⟨_, rfl⟩
  rw [← hgd] at HST ⊢
  have HGD := Aside0.mk hgd
  clear hgd
  go_loopg [4] n (fun kq v4 w' => ∃ (j : Nat) (vN vF : Value), v4 = .int .i64 (j : Int) ∧ Aside0 (j + kq = n) ∧ Aside0 (MidR 64 w w' (gd + 1) gd n j j vN vF vN vF))
  case atStart => exact ⟨0, _, _, (by first | rfl | (simp; done)), ⟨by omega⟩, HST⟩
  case round =>
    obtain ⟨j, vN, vF, rfl, HJ, HP⟩ := hrel
    by_cases c8 : j < n
    · have c8b : decide ((j : Int) < (n : Int)) = true := decide_eq_true (by omega)
      cases gk with
      | zero => have := HJ.out; omega
      | succ k1 =>
        go_wp2
        have hM := HP.out.drew
        clear HP
        refine start_ (n := 11) (S := fun w' => w'.cell? ⟨gd + 1, 0, none⟩ = some vN) (ds := [10]) #[false, false, false, false, false, false, false, false, false, false, false] (by kernel_rfl) rfl rfl (hM.c0) (fun hHeld => ?_)
        refine pure_ (i := 0) (N := some 20) (v := ?_) (a' := ?_) #[true, false, false, false, false, false, false, false, false, false, false] rfl rfl (by kernel_rfl) (fun _ _ _ h => h) (Or.inl ⟨by rfl, ?_⟩) ?_ ?_
        rotate_left
        · intro w'
          go_simp
          with_reducible rfl
        rotate_left
        · simp only [Act.put, List.setIfInBounds_toArray, List.set_cons_zero, List.set_cons_succ, i64_w, i32_w]
          rfl
        refine pure_ (i := 1) (N := some 21) (v := ?_) (a' := ?_) #[true, true, false, false, false, false, false, false, false, false, false] rfl rfl (by kernel_rfl) (fun _ _ _ h => h) (Or.inl ⟨by rfl, ?_⟩) ?_ ?_
        rotate_left
        · intro w'
          go_simp
          with_reducible rfl
        rotate_left
        · simp only [Act.put, List.setIfInBounds_toArray, List.set_cons_zero, List.set_cons_succ, i64_w, i32_w]
          rfl
        refine pure_ (i := 2) (N := some 22) (v := ?_) (a' := ?_) #[true, true, true, false, false, false, false, false, false, false, false] rfl rfl (by kernel_rfl) (fun _ _ _ h => h) (Or.inl ⟨by rfl, ?_⟩) ?_ ?_
        rotate_left
        · intro w'
          go_simp
          with_reducible rfl
        rotate_left
        · simp only [Act.put, List.setIfInBounds_toArray, List.set_cons_zero, List.set_cons_succ, i64_w, i32_w]
          rfl
        refine pure_ (i := 3) (N := some 23) (v := ?_) (a' := ?_) #[true, true, true, true, false, false, false, false, false, false, false] rfl rfl (by kernel_rfl) (fun _ _ _ h => h) (Or.inl ⟨by rfl, ?_⟩) ?_ ?_
        rotate_left
        · intro w'
          go_simp
          with_reducible rfl
        rotate_left
        · simp only [Act.put, List.setIfInBounds_toArray, List.set_cons_zero, List.set_cons_succ, i64_w, i32_w]
          rfl
        refine take_ (i := 4) (N := some 24) (v := ?_) (a' := ?_) #[true, true, true, true, true, false, false, false, false, false, false] rfl rfl (by kernel_rfl) (fun _ _ _ h => h) (Or.inl ⟨by rfl, ?_⟩) hHeld ?_ ?_
        rotate_left
        · intro w' s0
          go_simp
          with_reducible rfl
        rotate_left
        · simp only [Act.put, List.setIfInBounds_toArray, List.set_cons_zero, List.set_cons_succ, i64_w, i32_w]
          rfl
        refine one_ (i := 5) (N := some 25) #[true, true, true, true, true, true, false, false, false, false, false] rfl rfl (by kernel_rfl) (by decide) (fun K hK => ?_)
        refine value_ (w1 := ?_) (v := ?_) (by rfl) rfl ?_ ?_
        rotate_left 2
        · go_simp
          constructor
          · rfl
          · rfl
        replace hM := hM.alloc (.cells ZU 5 (0, 0))
        have hZ := blk_new wr.drew (.cells ZU 5 (0, 0))
        refine hK.out _ _ (hM.c0) (fun hHeld => ?_)
        clear hK K
        refine norm_ (a' := ?_) ?_ ?_
        rotate_left
        · show Act.put _ (some 25) _ = _
          simp only [Act.put, List.setIfInBounds_toArray, List.set_cons_zero, List.set_cons_succ, i64_w, i32_w]
          rfl
        refine one_ (i := 6) (N := some 26) #[true, true, true, true, true, true, true, false, false, false, false] rfl rfl (by kernel_rfl) (by decide) (fun K hK => ?_)
        refine value_ (w1 := ?_) (v := ?_) (by rfl) rfl ?_ ?_
        rotate_left 2
        · go_simp
          constructor
          · rfl
          · rfl
        replace hM := hM.alloc (.cells #[(.slice (some ⟨wr.heap.size, 0, none⟩) 512 512)] 22 (0, 0))
        replace hZ := blk_alloc hZ (.cells #[(.slice (some ⟨wr.heap.size, 0, none⟩) 512 512)] 22 (0, 0))
        have hB := blk_new2 wr.drew (.cells ZU 5 (0, 0)) (.cells #[(.slice (some ⟨wr.heap.size, 0, none⟩) 512 512)] 22 (0, 0))
        refine hK.out _ _ (hM.c0) (fun hHeld => ?_)
        clear hK K
        refine norm_ (a' := ?_) ?_ ?_
        rotate_left
        · show Act.put _ (some 26) _ = _
          simp only [Act.put, List.setIfInBounds_toArray, List.set_cons_zero, List.set_cons_succ, i64_w, i32_w]
          rfl
        refine one_ (i := 7) (N := some 27) #[true, true, true, true, true, true, true, true, false, false, false] rfl rfl (by kernel_rfl) (by decide) (fun K hK => ?_)
        have hZb := Byt.zeros HZU.out hZ
        obtain ⟨l, hl, hR, hbs⟩ := hM.rN
        refine step_append_lies _ rfl (.tmp 24) (.tmp 26) 56 rfl w.heap.size 22 i0 (.slice none 0 0) 1 24 Tryd.underlying56 HI.out.1 HI.out.2.1 HI.out.2.2.1 HI.out.2.2.2 rfl (by decide) vN j l rfl hR _ 1 1 [(.slice (some ⟨wr.heap.size, 0, none⟩) 512 512)] rfl rfl (news1 hB) (by intro u hu; rw [List.mem_singleton.mp hu]; rfl) (by decide) (by have := H2.out; have := HJ.out; unfold maxLen; omega) (by have := H2.out; have := HJ.out; omega) hM.below.size _ rfl ?_
        intro g7 cap7 w7 ho hg ha hlt
        replace hM := hM.appN (by decide) hl hbs hZb rfl ho hg ha
        clear ho hg ha hB hZ hZb hl hbs hR
        have k0 := hM.c0
        have z0 := blk_frozen hM.hg 0
        refine hK.out _ _ (hM.c0) (fun hHeld => ?_)
        clear hK K
        refine norm_ (a' := ?_) ?_ ?_
        rotate_left
        · show Act.put _ (some 27) _ = _
          simp only [Act.put, List.setIfInBounds_toArray, List.set_cons_zero, List.set_cons_succ, i64_w, i32_w]
          rfl
        refine pure_ (i := 8) (N := some 28) (v := ?_) (a' := ?_) #[true, true, true, true, true, true, true, true, true, false, false] rfl rfl (by kernel_rfl) (fun _ _ _ h => h) (Or.inl ⟨by rfl, ?_⟩) ?_ ?_
        rotate_left
        · intro w'
          go_simp
          with_reducible rfl
        rotate_left
        · simp only [Act.put, List.setIfInBounds_toArray, List.set_cons_zero, List.set_cons_succ, i64_w, i32_w]
          rfl
        refine pure_ (i := 9) (N := some 29) (v := ?_) (a' := ?_) #[true, true, true, true, true, true, true, true, true, true, false] rfl rfl (by kernel_rfl) (fun _ _ _ h => h) (Or.inl ⟨by rfl, ?_⟩) ?_ ?_
        rotate_left
        · intro w'
          go_simp
          with_reducible rfl
        rotate_left
        · simp only [Act.put, List.setIfInBounds_toArray, List.set_cons_zero, List.set_cons_succ, i64_w, i32_w]
          rfl
        refine last_ (i := 10) (N := none) #[true, true, true, true, true, true, true, true, true, true, true] rfl rfl (by kernel_rfl) (by decide) (fun K hK => ?_)
        refine skip_ (w1 := ?_) (by rfl) rfl ?_ ?_
        rotate_left
        · go_simp
          rfl
        refine hK.out _ _ ?_
        clear hK K
        refine done_ (by kernel_rfl) ?_
        replace hM := hM.put (by decide) (by decide) (by decide) 0 (.slice (some ⟨g7, 0, none⟩) (j + 1) cap7) _ _ rfl
        clear k0 z0 hHeld
        generalize hws : w7.setCell ⟨gd + 1, 0, none⟩ (.slice (some ⟨g7, 0, none⟩) (j + 1) cap7) = ws at *
        clear hws
        have HM := Aside0.mk hM
        clear hM
        go_wp2
        have hM := HM.out.drew
        clear HM
        refine start_ (n := 11) (S := fun w' => w'.cell? ⟨gd + 1, 1, none⟩ = some vF) (ds := [10]) #[false, false, false, false, false, false, false, false, false, false, false] (by kernel_rfl) rfl rfl (hM.c1) (fun hHeld => ?_)
        refine pure_ (i := 0) (N := some 30) (v := ?_) (a' := ?_) #[true, false, false, false, false, false, false, false, false, false, false] rfl rfl (by kernel_rfl) (fun _ _ _ h => h) (Or.inl ⟨by rfl, ?_⟩) ?_ ?_
        rotate_left
        · intro w'
          go_simp
          with_reducible rfl
        rotate_left
        · simp only [Act.put, List.setIfInBounds_toArray, List.set_cons_zero, List.set_cons_succ, i64_w, i32_w]
          rfl
        refine pure_ (i := 1) (N := some 31) (v := ?_) (a' := ?_) #[true, true, false, false, false, false, false, false, false, false, false] rfl rfl (by kernel_rfl) (fun _ _ _ h => h) (Or.inl ⟨by rfl, ?_⟩) ?_ ?_
        rotate_left
        · intro w'
          go_simp
          with_reducible rfl
        rotate_left
        · simp only [Act.put, List.setIfInBounds_toArray, List.set_cons_zero, List.set_cons_succ, i64_w, i32_w]
          rfl
        refine pure_ (i := 2) (N := some 32) (v := ?_) (a' := ?_) #[true, true, true, false, false, false, false, false, false, false, false] rfl rfl (by kernel_rfl) (fun _ _ _ h => h) (Or.inl ⟨by rfl, ?_⟩) ?_ ?_
        rotate_left
        · intro w'
          go_simp
          with_reducible rfl
        rotate_left
        · simp only [Act.put, List.setIfInBounds_toArray, List.set_cons_zero, List.set_cons_succ, i64_w, i32_w]
          rfl
        refine pure_ (i := 3) (N := some 33) (v := ?_) (a' := ?_) #[true, true, true, true, false, false, false, false, false, false, false] rfl rfl (by kernel_rfl) (fun _ _ _ h => h) (Or.inl ⟨by rfl, ?_⟩) ?_ ?_
        rotate_left
        · intro w'
          go_simp
          with_reducible rfl
        rotate_left
        · simp only [Act.put, List.setIfInBounds_toArray, List.set_cons_zero, List.set_cons_succ, i64_w, i32_w]
          rfl
        refine take_ (i := 4) (N := some 34) (v := ?_) (a' := ?_) #[true, true, true, true, true, false, false, false, false, false, false] rfl rfl (by kernel_rfl) (fun _ _ _ h => h) (Or.inl ⟨by rfl, ?_⟩) hHeld ?_ ?_
        rotate_left
        · intro w' s0
          go_simp
          with_reducible rfl
        rotate_left
        · simp only [Act.put, List.setIfInBounds_toArray, List.set_cons_zero, List.set_cons_succ, i64_w, i32_w]
          rfl
        refine one_ (i := 5) (N := some 35) #[true, true, true, true, true, true, false, false, false, false, false] rfl rfl (by kernel_rfl) (by decide) (fun K hK => ?_)
        refine value_ (w1 := ?_) (v := ?_) (by rfl) rfl ?_ ?_
        rotate_left 2
        · go_simp
          constructor
          · rfl
          · rfl
        replace hM := hM.alloc (.cells ZU 5 (0, 0))
        have hZ := blk_new ws.drew (.cells ZU 5 (0, 0))
        refine hK.out _ _ (hM.c1) (fun hHeld => ?_)
        clear hK K
        refine norm_ (a' := ?_) ?_ ?_
        rotate_left
        · show Act.put _ (some 35) _ = _
          simp only [Act.put, List.setIfInBounds_toArray, List.set_cons_zero, List.set_cons_succ, i64_w, i32_w]
          rfl
        refine one_ (i := 6) (N := some 36) #[true, true, true, true, true, true, true, false, false, false, false] rfl rfl (by kernel_rfl) (by decide) (fun K hK => ?_)
        refine value_ (w1 := ?_) (v := ?_) (by rfl) rfl ?_ ?_
        rotate_left 2
        · go_simp
          constructor
          · rfl
          · rfl
        replace hM := hM.alloc (.cells #[(.slice (some ⟨ws.heap.size, 0, none⟩) 512 512)] 22 (0, 0))
        replace hZ := blk_alloc hZ (.cells #[(.slice (some ⟨ws.heap.size, 0, none⟩) 512 512)] 22 (0, 0))
        have hB := blk_new2 ws.drew (.cells ZU 5 (0, 0)) (.cells #[(.slice (some ⟨ws.heap.size, 0, none⟩) 512 512)] 22 (0, 0))
        refine hK.out _ _ (hM.c1) (fun hHeld => ?_)
        clear hK K
        refine norm_ (a' := ?_) ?_ ?_
        rotate_left
        · show Act.put _ (some 36) _ = _
          simp only [Act.put, List.setIfInBounds_toArray, List.set_cons_zero, List.set_cons_succ, i64_w, i32_w]
          rfl
        refine one_ (i := 7) (N := some 37) #[true, true, true, true, true, true, true, true, false, false, false] rfl rfl (by kernel_rfl) (by decide) (fun K hK => ?_)
        have hZb := Byt.zeros HZU.out hZ
        obtain ⟨l, hl, hR, hbs⟩ := hM.rF
        refine step_append_lies _ rfl (.tmp 34) (.tmp 36) 56 rfl w.heap.size 22 i0 (.slice none 0 0) 1 24 Tryd.underlying56 HI.out.1 HI.out.2.1 HI.out.2.2.1 HI.out.2.2.2 rfl (by decide) vF j l rfl hR _ 1 1 [(.slice (some ⟨ws.heap.size, 0, none⟩) 512 512)] rfl rfl (news1 hB) (by intro u hu; rw [List.mem_singleton.mp hu]; rfl) (by decide) (by have := H2.out; have := HJ.out; unfold maxLen; omega) (by have := H2.out; have := HJ.out; omega) hM.below.size _ rfl ?_
        intro g8 cap8 w8 ho hg ha hlt
        replace hM := hM.appF (by decide) hl hbs hZb rfl ho hg ha
        clear ho hg ha hB hZ hZb hl hbs hR
        have k0 := hM.c1
        have z0 := blk_frozen hM.hg 1
        refine hK.out _ _ (hM.c1) (fun hHeld => ?_)
        clear hK K
        refine norm_ (a' := ?_) ?_ ?_
        rotate_left
        · show Act.put _ (some 37) _ = _
          simp only [Act.put, List.setIfInBounds_toArray, List.set_cons_zero, List.set_cons_succ, i64_w, i32_w]
          rfl
        refine pure_ (i := 8) (N := some 38) (v := ?_) (a' := ?_) #[true, true, true, true, true, true, true, true, true, false, false] rfl rfl (by kernel_rfl) (fun _ _ _ h => h) (Or.inl ⟨by rfl, ?_⟩) ?_ ?_
        rotate_left
        · intro w'
          go_simp
          with_reducible rfl
        rotate_left
        · simp only [Act.put, List.setIfInBounds_toArray, List.set_cons_zero, List.set_cons_succ, i64_w, i32_w]
          rfl
        refine pure_ (i := 9) (N := some 39) (v := ?_) (a' := ?_) #[true, true, true, true, true, true, true, true, true, true, false] rfl rfl (by kernel_rfl) (fun _ _ _ h => h) (Or.inl ⟨by rfl, ?_⟩) ?_ ?_
        rotate_left
        · intro w'
          go_simp
          with_reducible rfl
        rotate_left
        · simp only [Act.put, List.setIfInBounds_toArray, List.set_cons_zero, List.set_cons_succ, i64_w, i32_w]
          rfl
        refine last_ (i := 10) (N := none) #[true, true, true, true, true, true, true, true, true, true, true] rfl rfl (by kernel_rfl) (by decide) (fun K hK => ?_)
        refine skip_ (w1 := ?_) (by rfl) rfl ?_ ?_
        rotate_left
        · go_simp
          rfl
        refine hK.out _ _ ?_
        clear hK K
        refine done_ (by kernel_rfl) ?_
        replace hM := Aside0.mk (hM.put (by decide) (by decide) (by decide) 1 (.slice (some ⟨g8, 0, none⟩) (j + 1) cap8) _ _ rfl)
        clear k0 z0 hHeld
        go_wp2
        go_roundg k1
        case measure => omega
        case rel => exact ⟨j + 1, _, _, (by
            have hw : wrap64 ((j : Int) + 1) = ((j + 1 : Nat) : Int) := by have := HJ.out; have := H2.out; unfold wrap64; omega
            first | rfl | (rw [← hw]; rfl) | (simp [*]; done)), ⟨by have := HJ.out; omega⟩, hM⟩
    · have c8b : decide ((j : Int) < (n : Int)) = false := decide_eq_false (by omega)
      have c8i : (n : Int) ≤ (j : Int) := by omega
      have c8d : decide (j < n) = false := decide_eq_false c8
      obtain rfl : j = n := by have := HJ.out; omega
      go_wp2
      go_ret
      obtain ⟨o, ho, hD, hge⟩ := HP.out.done HGD.out H1.out H2.out
      exact ⟨o, by rw [ho]; rfl, hD, hge, HP.out.below⟩

end

end Go.Proofs.YtagijaijjjaolaaDoor.PBL
