import Derived.Test.YtagijaijjjaolaaDoorDkG
namespace Go.Proofs.YtagijaijjjaolaaDoor.PBL
open Go.RowKit Go.Proofs.YtagijaijjjaolaaDoorW.PrintWords Go.Proofs.YtagijaijjjaolaaDoorW.PrintLast Go.Proofs.YtagijaijjjaolaaDoorW.PrintMore
attribute [local go_sem] max2_int min2_int max_two min_two max_three min_three max_four min_four
set_option linter.unusedVariables false
set_option linter.unusedSimpArgs false
section
variable {ok ok2 : Nat → Prop}
structure DkP (T : TypeId) (w0 w : World) (g bd n j : Nat) (vN vF : Value) : Prop where
  below : Below w0.heap.size w0 w
  hg : w.heap[g]? = some (.cells #[vN, vF, .slice (some ⟨bd, 0, none⟩) n n] T (0, 0))
  rows : ∃ vs, vs.length = j ∧ w.ownsRow w0.heap.size 22 1 vN j vs ∧ w.ownsRow w0.heap.size 22 1 vF j vs ∧ Byts (fun _ => True) w vs (List.replicate j (List.replicate 512 0))
  ne : vN.ownBlock = none ∨ vN.ownBlock ≠ vF.ownBlock
  hd : Row w bd 4 (List.replicate n (.bool false))
theorem DkP.c0 {T : TypeId} {w0 w : World} {g bd n j : Nat} {vN vF : Value} (h : DkP T w0 w g bd n j vN vF) : w.cell? ⟨g, 0, none⟩ = some vN := (blk_cell h.hg 0).trans rfl
theorem DkP.c1 {T : TypeId} {w0 w : World} {g bd n j : Nat} {vN vF : Value} (h : DkP T w0 w g bd n j vN vF) : w.cell? ⟨g, 1, none⟩ = some vF := (blk_cell h.hg 1).trans rfl
/-- In the middle of a round: the cells, the two rows, what they hold, and one more. -/
structure Mid (T : TypeId) (w0 w : World) (g bd n j : Nat) (cN cF vN vF z : Value) (lN lF l : List Value) : Prop where
  below : Below w0.heap.size w0 w
  g0 : w0.heap.size ≤ g
  hg : w.heap[g]? = some (.cells #[cN, cF, .slice (some ⟨bd, 0, none⟩) n n] T (0, 0))
  rN : w.ownsRow w0.heap.size 22 1 vN lN.length lN
  rF : w.ownsRow w0.heap.size 22 1 vF lF.length lF
  ne : vN.ownBlock = none ∨ vN.ownBlock ≠ vF.ownBlock
  hd : Row w bd 4 (List.replicate n (.bool false))
  hl : l.length = j
  bs : Byts (fun _ => True) w l (List.replicate j (List.replicate 512 0))
  bz : Byt (fun _ => True) w z (List.replicate 512 0)
theorem own_type {w : World} {base : Nat} {e : TypeId} {v : Value} {n : Nat} {xs : List Value} (h : w.ownsRow base e 1 v n xs) : ∀ k, v.ownBlock = some k → ∃ cs, w.heap[k]? = some (.cells cs e (0, 0)) := by
  intro k hk
  rcases h.2 with ⟨rfl, _⟩ | ⟨g, cap, cur, rfl, _, hg, _⟩
  · cases hk
  · obtain rfl := Option.some.inj hk
    exact ⟨cur, hg⟩
theorem own_ne {w : World} {base : Nat} {e t : TypeId} {v : Value} {n : Nat} {xs : List Value} {k : Nat} {cs : Array Value} (h : w.ownsRow base e 1 v n xs) (hk : w.heap[k]? = some (.cells cs t (0, 0))) (ht : e ≠ t) : some k ≠ v.ownBlock := by
  intro he
  obtain ⟨cs', h'⟩ := own_type h k he.symm
  exact blk_ne h' hk ht rfl
theorem Mid.alloc {T : TypeId} {w0 w : World} {g bd n j : Nat} {cN cF vN vF z : Value} {lN lF l : List Value} (h : Mid T w0 w g bd n j cN cF vN vF z lN lF l) (o : Obj) : Mid T w0 (w.alloc o) g bd n j cN cF vN vF z lN lF l := by
  have hb : Below w.heap.size w (w.alloc o) := (Below.refl _ _).alloc (Nat.le_refl _) o
  exact ⟨below_step h.below hb, h.g0, blk_below h.hg hb, h.rN.alloc o, h.rF.alloc o, h.ne, h.hd.same (hb.block _ h.hd.lt), h.hl, h.bs.same fun q cs e => hb.block q (blk_lt e), h.bz.same fun q cs e => hb.block q (blk_lt e)⟩
theorem Mid.drew {T : TypeId} {w0 w : World} {g bd n j : Nat} {cN cF vN vF z : Value} {lN lF l : List Value} (h : Mid T w0 w g bd n j cN cF vN vF z lN lF l) : Mid T w0 w.drew g bd n j cN cF vN vF z lN lF l := by
  have hb : Below w.heap.size w w.drew := Below.drew (Below.refl _ _)
  exact ⟨below_step h.below hb, h.g0, h.hg, h.rN, h.rF, h.ne, h.hd, h.hl, h.bs, h.bz⟩
theorem Mid.c0 {T : TypeId} {w0 w : World} {g bd n j : Nat} {cN cF vN vF z : Value} {lN lF l : List Value} (h : Mid T w0 w g bd n j cN cF vN vF z lN lF l) : w.cell? ⟨g, 0, none⟩ = some cN := (blk_cell h.hg 0).trans rfl
theorem Mid.c1 {T : TypeId} {w0 w : World} {g bd n j : Nat} {cN cF vN vF z : Value} {lN lF l : List Value} (h : Mid T w0 w g bd n j cN cF vN vF z lN lF l) : w.cell? ⟨g, 1, none⟩ = some cF := (blk_cell h.hg 1).trans rfl
theorem news1 {w : World} {a : Nat} {z : Value} {t : TypeId} (h : w.heap[a]? = some (.cells #[z] t (0, 0))) : ∀ (j : Nat) (u : Value), [z][j]? = some u → w.cell? ((⟨a, 0, none⟩ : Addr).add j) = some u := by
  intro j u hu
  rw [add_plain, blk_cell h]
  simpa using hu
theorem blk_new2 (w : World) (o o' : Obj) : ((w.alloc o).alloc o').heap[w.heap.size + 1]? = some o' := by
  have h := blk_new (w.alloc o) o'
  rwa [World.size_alloc] at h
theorem Mid.appN {T : TypeId} {w0 w w1 : World} {g bd n j : Nat} {cN cF vN vF z : Value} {lN lF l : List Value} {g1 m cap : Nat} (h : Mid T w0 w g bd n j cN cF vN vF z lN lF l) (hT : T ≠ 22) (ho : w1.ownsRow w0.heap.size 22 1 (.slice (some ⟨g1, 0, none⟩) m cap) m (lN ++ [z])) (hg : w.grownBy w1 vN.ownBlock) (ha : vN.ownBlock = some g1 ∨ g1 = w.heap.size) : Mid T w0 w1 g bd n j cN cF (.slice (some ⟨g1, 0, none⟩) m cap) vF z (lN ++ [z]) lF l := by
  have hm : m = (lN ++ [z]).length := by rw [ho.1, Nat.mul_one]
  have q8 : ∀ (q : Nat) (cs : Array Value), w.heap[q]? = some (.cells cs 5 (0, 0)) → w1.heap[q]? = w.heap[q]? := fun q cs e => hg.block q (blk_lt e) (own_ne h.rN e (by decide))
  refine ⟨h.below.grown hg h.below.size (fun k hk => (h.rN.lt k hk).1), h.g0, blk_grown h.hg hg (own_ne h.rN h.hg (Ne.symm hT)), by rw [← hm]; exact ho, h.rF.kept hg (h.ne.elim (fun e => by rw [e]; cases vF.ownBlock <;> simp) fun e => .inr (Ne.symm e)), .inr ?_, h.hd.same (hg.block _ h.hd.lt (own_ne h.rN h.hd.choose_spec.1 (by decide))), h.hl, h.bs.same q8, h.bz.same q8⟩
  show some g1 ≠ vF.ownBlock
  rcases ha with e | e
  · rw [← e]; exact h.ne.resolve_left (by rw [e]; simp)
  · intro e2
    have := (h.rF.lt g1 e2.symm).2
    omega
theorem Mid.appF {T : TypeId} {w0 w w1 : World} {g bd n j : Nat} {cN cF vN vF z : Value} {lN lF l : List Value} {g1 m cap : Nat} (h : Mid T w0 w g bd n j cN cF vN vF z lN lF l) (hT : T ≠ 22) (ho : w1.ownsRow w0.heap.size 22 1 (.slice (some ⟨g1, 0, none⟩) m cap) m (lF ++ [z])) (hg : w.grownBy w1 vF.ownBlock) (ha : vF.ownBlock = some g1 ∨ g1 = w.heap.size) : Mid T w0 w1 g bd n j cN cF vN (.slice (some ⟨g1, 0, none⟩) m cap) z lN (lF ++ [z]) l := by
  have hm : m = (lF ++ [z]).length := by rw [ho.1, Nat.mul_one]
  have q8 : ∀ (q : Nat) (cs : Array Value), w.heap[q]? = some (.cells cs 5 (0, 0)) → w1.heap[q]? = w.heap[q]? := fun q cs e => hg.block q (blk_lt e) (own_ne h.rF e (by decide))
  have hne2 : vN.ownBlock = none ∨ vN.ownBlock ≠ some g1 := by
    rcases h.ne with e | e
    · exact .inl e
    · rcases ha with e2 | e2
      · exact .inr (by rw [← e2]; exact e)
      · refine .inr fun e3 => ?_
        have := (h.rN.lt g1 e3).2
        omega
  refine ⟨h.below.grown hg h.below.size (fun k hk => (h.rF.lt k hk).1), h.g0, blk_grown h.hg hg (own_ne h.rF h.hg (Ne.symm hT)), h.rN.kept hg h.ne, by rw [← hm]; exact ho, hne2, h.hd.same (hg.block _ h.hd.lt (own_ne h.rF h.hd.choose_spec.1 (by decide))), h.hl, h.bs.same q8, h.bz.same q8⟩
/-- The cells are stored: the round is over. -/
theorem Mid.stored {T : TypeId} {w0 w : World} {g bd n j : Nat} {cN cF vN vF z : Value} {l : List Value} (h : Mid T w0 w g bd n j cN cF vN vF z (l ++ [z]) (l ++ [z]) l) (hT : T ≠ 22) (hT2 : T ≠ 4) (hT3 : T ≠ 5) : DkP T w0 ((w.setCell ⟨g, 0, none⟩ vN).setCell ⟨g, 1, none⟩ vF) g bd n (j + 1) vN vF := by
  have hb : Keeps (fun k => k = g) w ((w.setCell ⟨g, 0, none⟩ vN).setCell ⟨g, 1, none⟩ vF) := (Keeps.set (fun k => k = g) w g 0 vN rfl).trans (Keeps.set (fun k => k = g) _ g 1 vF rfl)
  have q8 : ∀ (q : Nat) (cs : Array Value), w.heap[q]? = some (.cells cs 5 (0, 0)) → ((w.setCell ⟨g, 0, none⟩ vN).setCell ⟨g, 1, none⟩ vF).heap[q]? = w.heap[q]? := fun q cs e => hb.far q (blk_lt e) (fun e2 => blk_ne h.hg (e2 ▸ e) hT3 rfl)
  have hl : (l ++ [z]).length = j + 1 := by rw [List.length_append, h.hl]; rfl
  have own : ∀ (v : Value) (m : Nat) (xs : List Value), w.ownsRow w0.heap.size 22 1 v m xs → ((w.setCell ⟨g, 0, none⟩ vN).setCell ⟨g, 1, none⟩ vF).ownsRow w0.heap.size 22 1 v m xs := fun v m xs ho => by
    refine ⟨ho.1, ?_⟩
    rcases ho.2 with e | ⟨q, cap, cur, e, e1, e2, r⟩
    · exact .inl e
    · exact .inr ⟨q, cap, cur, e, e1, (hb.far q (blk_lt e2) (fun e3 => blk_ne h.hg (e3 ▸ e2) hT rfl)).trans e2, r⟩
  have hN := own _ _ _ h.rN
  have hF := own _ _ _ h.rF
  rw [hl] at hN hF
  refine ⟨hb.below (fun k hk => by rw [hk]; exact h.g0) h.below.size h.below, blk_put (blk_put h.hg 0 vN rfl) 1 vF rfl, ⟨l ++ [z], hl, hN, hF, ?_⟩, h.ne, h.hd.same (hb.far _ h.hd.lt (fun e => by obtain ⟨cs, ec, _⟩ := h.hd; rw [show bd = g from e] at ec; exact blk_ne h.hg ec hT2 rfl))⟩
  have h1 := h.bs.same q8
  have h2 := h.bz.same q8
  refine ⟨by rw [hl, List.length_replicate], fun i v m hv hm => ?_⟩
  rw [List.getElem?_replicate] at hm
  split at hm
  · obtain rfl := Option.some.inj hm
    by_cases hi : i < j
    · rw [List.getElem?_append_left (by rw [h.hl]; exact hi)] at hv
      exact h1.2 i v _ hv (by rw [List.getElem?_replicate, if_pos hi])
    · obtain rfl : i = j := by omega
      rw [List.getElem?_append_right (by rw [h.hl]; exact Nat.le_refl _), h.hl, Nat.sub_self] at hv
      obtain rfl := Option.some.inj hv
      exact h2
  · cases hm
theorem info_u8 : (Tryd.prog.info? 5).map (fun i => (i.zero, i.size, i.bytes)) = some (some (.int .u8 0), 1, 1) := by kernel_rfl
theorem make_run {e t : TypeId} {z : Value} {by_ : Nat} (ht : Tryd.prog.underlying t = some (.slice e)) (hinf : (Tryd.prog.info? e).map (fun i => (i.zero, i.size, i.bytes)) = some (some z, 1, by_)) (hz : z.cells = #[z]) (n : Nat) (hn : n ≤ 1000) (hb : by_ ≤ 1000) : ∃ Z : Array Value, Z.toList = List.replicate n z ∧ ∀ W : World, (Instr.makeSlice t (.int .i64 (n : Int)) (.int .i64 (n : Int))).run Tryd.prog W = .ok (.slice (some ⟨W.heap.size, 0, none⟩) n n) (W.alloc (.cells Z e (0, 0))) := by
  obtain ⟨i, hi, hzz⟩ := Option.map_eq_some_iff.1 hinf
  simp only [Prod.mk.injEq] at hzz
  obtain ⟨hz0, hz1, hz2⟩ := hzz
  refine ⟨madeCells #[z] n, toList_madeCells_one z n, fun W => ?_⟩
  have h3 : ((i.bytes * n : Nat) : Int) ≤ 281474976710656 := by
    have : i.bytes * n ≤ 1000 * 1000 := Nat.mul_le_mul (by omega) hn
    omega
  have h := run_make (P := Tryd.prog) W t e i z ht hi hz0 .i64 .i64 (n : Int) (n : Int) (by omega) (Int.le_refl _) (by rw [← Int.natCast_mul]; exact h3) (by omega)
  rw [hz1, hz, Int.toNat_natCast, Nat.mul_one] at h
  exact h
theorem Row.of_toList {w : World} {b : Nat} {t : TypeId} {cs : Array Value} {vs : List Value} (h : w.heap[b]? = some (.cells cs t (0, 0))) (hv : cs.toList = vs) : Row w b t vs := ⟨cs, h, fun i v e => by rw [← hv] at e; simpa using e⟩
/-- A round begins: one more block of zeros is made. -/
theorem DkP.mid {T : TypeId} {w0 w : World} {g bd n j : Nat} {vN vF : Value} (h : DkP T w0 w g bd n j vN vF) (g0 : w0.heap.size ≤ g) {Z : Array Value} (hZ : Z.toList = List.replicate 512 (.int .u8 0)) : ∃ l, l.length = j ∧ Mid T w0 (w.alloc (.cells Z 5 (0, 0))) g bd n j vN vF vN vF (.slice (some ⟨w.heap.size, 0, none⟩) 512 512) l l l := by
  obtain ⟨l, hl, r1, r2, b⟩ := h.rows
  have hb : Below w.heap.size w (w.alloc (.cells Z 5 (0, 0))) := (Below.refl _ _).alloc (Nat.le_refl _) _
  have e1 := r1.alloc (.cells Z 5 (0, 0))
  have e2 := r2.alloc (.cells Z 5 (0, 0))
  refine ⟨l, hl, below_step h.below hb, g0, blk_below h.hg hb, by rw [hl]; exact e1, by rw [hl]; exact e2, h.ne, h.hd.same (hb.block _ h.hd.lt), hl, b.same fun q cs e => hb.block q (blk_lt e), ⟨w.heap.size, 512, trivial, by rw [List.length_replicate], by rw [List.length_replicate]; exact Nat.le_refl _, List.length_replicate, ?_⟩⟩
  refine Row.of_toList (blk_new _ _) (hZ.trans ?_)
  rw [List.map_replicate]
theorem DkP.start {T : TypeId} (w : World) {n : Nat} {Z : Array Value} (hZ : Z.toList = List.replicate n (.bool false)) : DkP T w ((w.alloc (.cells Z 4 (0, 0))).alloc (.cells #[.slice none 0 0, .slice none 0 0, .slice (some ⟨w.heap.size, 0, none⟩) n n] T (0, 0))) (w.heap.size + 1) w.heap.size n 0 (.slice none 0 0) (.slice none 0 0) := by
  have h1 : Below w.heap.size w (w.alloc (.cells Z 4 (0, 0))) := (Below.refl _ _).alloc (Nat.le_refl _) _
  refine ⟨h1.alloc h1.size _, blk_new2 _ _ _, ⟨[], rfl, World.ownsRow_nil _ _ _ _, World.ownsRow_nil _ _ _ _, ⟨rfl, fun i v l e => by simp at e⟩⟩, .inl rfl, ?_⟩
  exact Row.of_toList (blk_alloc (blk_new _ _) _) hZ
theorem DkP.done {T : TypeId} {w0 w : World} {bd n : Nat} {vN vF : Value} (h : DkP T w0 w (bd + 1) bd n n vN vF) (hbd : bd = w0.heap.size) (h1 : 1 ≤ n) (h2 : n ≤ 256) : ∃ o : Own, o.g = bd + 1 ∧ Dk (fun _ => True) T w o ⟨List.replicate n (List.replicate 512 0), List.replicate n (List.replicate 512 0), List.replicate n false⟩ ∧ (∀ k, o.has k → w0.heap.size ≤ k) := by
  obtain ⟨l, hl, r1, r2, b⟩ := h.rows
  have hne := h.ne
  obtain ⟨gN, cN, rfl, q1, q2, q3, q4⟩ := Row.of_own r1 (by omega)
  obtain ⟨gF, cF, rfl, p1, p2, p3, p4⟩ := Row.of_own r2 (by omega)
  refine ⟨⟨bd + 1, gN, gF, bd, cN, cF, n⟩, rfl, ⟨by show 0 < (List.replicate n _).length; rw [List.length_replicate]; omega, by show (List.replicate n _).length ≤ 256; rw [List.length_replicate]; omega, rfl, by show (List.replicate n _).length = (List.replicate n _).length; rw [List.length_replicate, List.length_replicate], ?_, ⟨l, q4, b⟩, ⟨l, p4, b⟩, ?_, ?_⟩, ?_⟩
  · show w.heap[bd + 1]? = some (.cells #[.slice (some ⟨gN, 0, none⟩) (List.replicate n (List.replicate 512 (0 : Int))).length cN, .slice (some ⟨gF, 0, none⟩) (List.replicate n (List.replicate 512 (0 : Int))).length cF, .slice (some ⟨bd, 0, none⟩) (List.replicate n (List.replicate 512 (0 : Int))).length n] T (0, 0)) ∧ (List.replicate n (List.replicate 512 (0 : Int))).length ≤ cN ∧ (List.replicate n (List.replicate 512 (0 : Int))).length ≤ cF ∧ (List.replicate n (List.replicate 512 (0 : Int))).length ≤ n
    rw [List.length_replicate]
    exact ⟨h.hg, q1, p1, Nat.le_refl _⟩
  · show Row w bd 4 ((List.replicate n false).map .bool)
    rw [List.map_replicate]
    exact h.hd
  · show gN ≠ gF
    rcases hne with e | e
    · cases e
    · intro e2; exact e (by rw [e2]; rfl)
  · intro k hk
    have hk : k = bd + 1 ∨ k = gN ∨ k = gF ∨ k = bd := hk
    omega

set_option maxHeartbeats 8000000 in
set_option maxRecDepth 100000 in
theorem Dk_NewNo.calls (n : Int) (w : World) (hn : n < 1 ∨ 256 < n) :
    Calls Tryd.prog 9 #[.int .i64 n] w fun e w' => e = .returned (.pointer none) ∧ w' = w := by
  by_cases h1 : n < 1
  · have c1 : decide (n < 1) = true := decide_eq_true h1
    go_enter Tryd.func9, Tryd.ntmps9
    go_wp2
    go_ret
    exact ⟨rfl, rfl⟩
  · have h2 := hn.resolve_left h1
    have c1 : decide (n < 1) = false := decide_eq_false h1
    have c2 : decide (n > 256) = true := decide_eq_true (by omega)
    have c3 : decide (256 < n) = true := decide_eq_true h2
    go_enter Tryd.func9, Tryd.ntmps9
    go_wp2
    go_ret
    exact ⟨rfl, rfl⟩

set_option maxHeartbeats 8000000 in
set_option maxRecDepth 100000 in
theorem Rk_NewNo.calls (n : Int) (w : World) (hn : n < 1 ∨ 256 < n) :
    Calls Tryd.prog 18 #[.int .i64 n] w fun e w' => e = .returned (.pointer none) ∧ w' = w := by
  by_cases h1 : n < 1
  · have c1 : decide (n < 1) = true := decide_eq_true h1
    go_enter Tryd.func18, Tryd.ntmps18
    go_wp2
    go_ret
    exact ⟨rfl, rfl⟩
  · have h2 := hn.resolve_left h1
    have c1 : decide (n < 1) = false := decide_eq_false h1
    have c2 : decide (n > 256) = true := decide_eq_true (by omega)
    have c3 : decide (256 < n) = true := decide_eq_true h2
    go_enter Tryd.func18, Tryd.ntmps18
    go_wp2
    go_ret
    exact ⟨rfl, rfl⟩

set_option maxHeartbeats 8000000 in
set_option maxRecDepth 100000 in
theorem Dk_New.calls (n : Nat) (w : World) (h1 : 1 ≤ n) (h2 : n ≤ 256) :
    Calls Tryd.prog 9 #[.int .i64 (n : Int)] w fun e w' => ∃ o : Own, e = .returned (.pointer (some ⟨o.g, 0, none⟩)) ∧ Dk (fun _ => True) 58 w' o ⟨List.replicate n (List.replicate 512 0), List.replicate n (List.replicate 512 0), List.replicate n false⟩ ∧ (∀ k, o.has k → w.heap.size ≤ k) ∧ Below w.heap.size w w' := by
  have c1 : decide ((n : Int) < 1) = false := decide_eq_false (by omega)
  have c2 : decide ((n : Int) > 256) = false := decide_eq_false (by omega)
  have c3 : decide (256 < (n : Int)) = false := decide_eq_false (by omega)
  have H1 := Aside0.mk h1
  have H2 := Aside0.mk h2
  obtain ⟨i0, hi, hz0, hz1, hz2⟩ := info_parts info_bytes
  have HI := Aside0.mk (And.intro hi (And.intro hz0 (And.intro hz1 hz2)))
  clear hi hz0 hz1 hz2
  obtain ⟨ZB, hZB, hmb⟩ := make_run (e := 4) (t := 23) (z := .bool false) Tryd.underlying23 info_bool rfl n (by omega) (by omega)
  obtain ⟨ZU, hZU, hmu⟩ := make_run (e := 5) (t := 22) (z := .int .u8 0) Tryd.underlying22 info_u8 rfl 512 (by omega) (by omega)
  have hmu : ∀ W : World, (Instr.makeSlice 22 (.int .i64 512) (.int .i64 512)).run Tryd.prog W = .ok (.slice (some ⟨W.heap.size, 0, none⟩) 512 512) (W.alloc (.cells ZU 5 (0, 0))) := hmu
  have HZB := Aside0.mk hZB
  have HZU := Aside0.mk hZU
  clear h1 h2 hZB hZU
  go_enter Tryd.func9, Tryd.ntmps9
  go_wp2
  have HST := Aside0.mk (DkP.start (T := 58) w HZB.out)
  obtain ⟨gd, hgd⟩ : ∃ gd, gd = w.heap.size := ⟨_, rfl⟩
  rw [← hgd] at HST ⊢
  have HGD := Aside0.mk hgd
  clear hgd
  go_loopg [16] n (fun kq v16 w' => ∃ (j : Nat) (vN vF : Value), v16 = .int .i64 (j : Int) ∧ Aside0 (j + kq = n) ∧ Aside0 (DkP 58 w w' (gd + 1) gd n j vN vF))
  case atStart => exact ⟨0, _, _, (by first | rfl | (simp; done)), ⟨by omega⟩, HST⟩
  case round =>
    obtain ⟨j, vN, vF, rfl, HJ, HP⟩ := hrel
    by_cases c8 : j < n
    · have c8b : decide ((j : Int) < (n : Int)) = true := decide_eq_true (by omega)
      cases gk with
      | zero => have := HJ.out; omega
      | succ k1 =>
        go_wp2
        obtain ⟨l, hl, hM⟩ := HP.out.mid (by have := HGD.out; omega) HZU.out
        have HLl := Aside0.mk hl
        generalize hwz : wr.alloc (.cells ZU 5 (0, 0)) = wz at *
        generalize hz : wr.heap.size = zq at *
        have hvN := Aside0.mk (fun k hk => (hM.rN.lt k hk).2)
        replace hM := hM.drew
        clear hwz hz hl HP
        refine start_ (n := 22) (S := fun w' => w'.cell? ⟨gd + 1, 0, none⟩ = some vN ∧ w'.cell? ⟨gd + 1, 1, none⟩ = some vF) (ds := [18, 21]) #[false, false, false, false, false, false, false, false, false, false, false, false, false, false, false, false, false, false, false, false, false, false] (by kernel_rfl) rfl rfl ⟨hM.c0, hM.c1⟩ (fun hHeld => ?_)
        refine pure_ (i := 0) (N := some 19) (v := ?_) (a' := ?_) #[true, false, false, false, false, false, false, false, false, false, false, false, false, false, false, false, false, false, false, false, false, false] rfl rfl (by kernel_rfl) (fun _ _ _ h => h) (Or.inl ⟨by rfl, ?_⟩) ?_ ?_
        rotate_left
        · intro w'
          go_simp
          with_reducible rfl
        rotate_left
        · simp only [Act.put, List.setIfInBounds_toArray, List.set_cons_zero, List.set_cons_succ, i64_w, i32_w]
          rfl
        refine pure_ (i := 1) (N := some 20) (v := ?_) (a' := ?_) #[true, true, false, false, false, false, false, false, false, false, false, false, false, false, false, false, false, false, false, false, false, false] rfl rfl (by kernel_rfl) (fun _ _ _ h => h) (Or.inl ⟨by rfl, ?_⟩) ?_ ?_
        rotate_left
        · intro w'
          go_simp
          with_reducible rfl
        rotate_left
        · simp only [Act.put, List.setIfInBounds_toArray, List.set_cons_zero, List.set_cons_succ, i64_w, i32_w]
          rfl
        refine pure_ (i := 2) (N := some 21) (v := ?_) (a' := ?_) #[true, true, true, false, false, false, false, false, false, false, false, false, false, false, false, false, false, false, false, false, false, false] rfl rfl (by kernel_rfl) (fun _ _ _ h => h) (Or.inl ⟨by rfl, ?_⟩) ?_ ?_
        rotate_left
        · intro w'
          go_simp
          with_reducible rfl
        rotate_left
        · simp only [Act.put, List.setIfInBounds_toArray, List.set_cons_zero, List.set_cons_succ, i64_w, i32_w]
          rfl
        refine pure_ (i := 3) (N := some 22) (v := ?_) (a' := ?_) #[true, true, true, true, false, false, false, false, false, false, false, false, false, false, false, false, false, false, false, false, false, false] rfl rfl (by kernel_rfl) (fun _ _ _ h => h) (Or.inl ⟨by rfl, ?_⟩) ?_ ?_
        rotate_left
        · intro w'
          go_simp
          with_reducible rfl
        rotate_left
        · simp only [Act.put, List.setIfInBounds_toArray, List.set_cons_zero, List.set_cons_succ, i64_w, i32_w]
          rfl
        refine pure_ (i := 4) (N := some 23) (v := ?_) (a' := ?_) #[true, true, true, true, true, false, false, false, false, false, false, false, false, false, false, false, false, false, false, false, false, false] rfl rfl (by kernel_rfl) (fun _ _ _ h => h) (Or.inl ⟨by rfl, ?_⟩) ?_ ?_
        rotate_left
        · intro w'
          go_simp
          with_reducible rfl
        rotate_left
        · simp only [Act.put, List.setIfInBounds_toArray, List.set_cons_zero, List.set_cons_succ, i64_w, i32_w]
          rfl
        refine pure_ (i := 6) (N := some 25) (v := ?_) (a' := ?_) #[true, true, true, true, true, false, true, false, false, false, false, false, false, false, false, false, false, false, false, false, false, false] rfl rfl (by kernel_rfl) (fun _ _ _ h => h) (Or.inl ⟨by rfl, ?_⟩) ?_ ?_
        rotate_left
        · intro w'
          go_simp
          with_reducible rfl
        rotate_left
        · simp only [Act.put, List.setIfInBounds_toArray, List.set_cons_zero, List.set_cons_succ, i64_w, i32_w]
          rfl
        refine pure_ (i := 9) (N := some 28) (v := ?_) (a' := ?_) #[true, true, true, true, true, false, true, false, false, true, false, false, false, false, false, false, false, false, false, false, false, false] rfl rfl (by kernel_rfl) (fun _ _ _ h => h) (Or.inl ⟨by rfl, ?_⟩) ?_ ?_
        rotate_left
        · intro w'
          go_simp
          with_reducible rfl
        rotate_left
        · simp only [Act.put, List.setIfInBounds_toArray, List.set_cons_zero, List.set_cons_succ, i64_w, i32_w]
          rfl
        refine pure_ (i := 10) (N := some 29) (v := ?_) (a' := ?_) #[true, true, true, true, true, false, true, false, false, true, true, false, false, false, false, false, false, false, false, false, false, false] rfl rfl (by kernel_rfl) (fun _ _ _ h => h) (Or.inl ⟨by rfl, ?_⟩) ?_ ?_
        rotate_left
        · intro w'
          go_simp
          with_reducible rfl
        rotate_left
        · simp only [Act.put, List.setIfInBounds_toArray, List.set_cons_zero, List.set_cons_succ, i64_w, i32_w]
          rfl
        refine pure_ (i := 11) (N := some 30) (v := ?_) (a' := ?_) #[true, true, true, true, true, false, true, false, false, true, true, true, false, false, false, false, false, false, false, false, false, false] rfl rfl (by kernel_rfl) (fun _ _ _ h => h) (Or.inl ⟨by rfl, ?_⟩) ?_ ?_
        rotate_left
        · intro w'
          go_simp
          with_reducible rfl
        rotate_left
        · simp only [Act.put, List.setIfInBounds_toArray, List.set_cons_zero, List.set_cons_succ, i64_w, i32_w]
          rfl
        refine pure_ (i := 13) (N := some 32) (v := ?_) (a' := ?_) #[true, true, true, true, true, false, true, false, false, true, true, true, false, true, false, false, false, false, false, false, false, false] rfl rfl (by kernel_rfl) (fun _ _ _ h => h) (Or.inl ⟨by rfl, ?_⟩) ?_ ?_
        rotate_left
        · intro w'
          go_simp
          with_reducible rfl
        rotate_left
        · simp only [Act.put, List.setIfInBounds_toArray, List.set_cons_zero, List.set_cons_succ, i64_w, i32_w]
          rfl
        refine take_ (i := 5) (N := some 24) (v := ?_) (a' := ?_) #[true, true, true, true, true, true, true, false, false, true, true, true, false, true, false, false, false, false, false, false, false, false] rfl rfl (by kernel_rfl) (fun _ _ _ h => h) (Or.inl ⟨by rfl, ?_⟩) hHeld ?_ ?_
        rotate_left
        · rintro w' ⟨s0, s1⟩
          go_simp
          with_reducible rfl
        rotate_left
        · simp only [Act.put, List.setIfInBounds_toArray, List.set_cons_zero, List.set_cons_succ, i64_w, i32_w]
          rfl
        refine take_ (i := 12) (N := some 31) (v := ?_) (a' := ?_) #[true, true, true, true, true, true, true, false, false, true, true, true, true, true, false, false, false, false, false, false, false, false] rfl rfl (by kernel_rfl) (fun _ _ _ h => h) (Or.inl ⟨by rfl, ?_⟩) hHeld ?_ ?_
        rotate_left
        · rintro w' ⟨s0, s1⟩
          go_simp
          with_reducible rfl
        rotate_left
        · simp only [Act.put, List.setIfInBounds_toArray, List.set_cons_zero, List.set_cons_succ, i64_w, i32_w]
          rfl
        refine join_ (σ := Value × Nat × Nat × Nat) 7 #[true, true, true, true, true, true, true, true, true, true, true, true, true, true, true, false, false, false, false, false, false, false] (fun s => [(26, s.1), (27, .slice (some ⟨s.2.1, 0, none⟩) (l.length + 1) s.2.2.1), (33, .slice (some ⟨s.2.2.2, 0, none⟩) 1 1)]) (fun s w' => Mid 58 w w' (gd + 1) gd n j vN vF (.slice (some ⟨s.2.1, 0, none⟩) (l.length + 1) s.2.2.1) vF (.slice (some ⟨zq, 0, none⟩) 512 512) (l ++ [(.slice (some ⟨zq, 0, none⟩) 512 512)]) l l ∧ w'.heap[s.2.2.2]? = some (.cells #[(.slice (some ⟨zq, 0, none⟩) 512 512)] 22 (0, 0))) ?_ ?_
        rotate_left
        · intro hCont
          refine two_ (i := 7) (j := 14) (Ni := some 26) (Nj := some 33) #[true, true, true, true, true, true, true, true, false, true, true, true, true, true, false, false, false, false, false, false, false, false] #[true, true, true, true, true, true, true, false, false, true, true, true, true, true, true, false, false, false, false, false, false, false] rfl rfl rfl rfl (by kernel_rfl) (by decide) (by decide) (fun K hK => ?_) (fun K hK => ?_)
          · skip
            refine value_ (w1 := ?_) (v := ?_) (by rfl) rfl ?_ ?_
            rotate_left 2
            · go_simp
              constructor
              · rfl
              · rfl
            have hB1 := blk_new wz.drew (.cells #[(.slice (some ⟨zq, 0, none⟩) 512 512)] 22 (0, 0))
            replace hM := hM.alloc (.cells #[(.slice (some ⟨zq, 0, none⟩) 512 512)] 22 (0, 0))
            refine hK.out _ _ ⟨hM.c0, hM.c1⟩ (fun hHeld => ?_)
            clear hK K
            refine norm_ (a' := ?_) ?_ ?_
            rotate_left
            · show Act.put _ (some 26) _ = _
              simp only [Act.put, List.setIfInBounds_toArray, List.set_cons_zero, List.set_cons_succ, i64_w, i32_w]
              rfl
            refine two_ (i := 8) (j := 14) (Ni := some 27) (Nj := some 33) #[true, true, true, true, true, true, true, true, true, true, true, true, true, true, false, false, false, false, false, false, false, false] #[true, true, true, true, true, true, true, true, false, true, true, true, true, true, true, false, false, false, false, false, false, false] rfl rfl rfl rfl (by kernel_rfl) (by decide) (by decide) (fun K hK => ?_) (fun K hK => ?_)
            · skip
              refine step_append_lies _ rfl (.tmp 24) (.tmp 26) 56 rfl w.heap.size 22 i0 (.slice none 0 0) 1 24 Tryd.underlying56 HI.out.1 HI.out.2.1 HI.out.2.2.1 HI.out.2.2.2 rfl (by decide) vN l.length l rfl hM.rN ⟨_, 0, none⟩ 1 1 [(.slice (some ⟨zq, 0, none⟩) 512 512)] rfl rfl (news1 hB1) (by intro u hu; rw [List.mem_singleton.mp hu]; rfl) (by decide) (by have := H2.out; have := HJ.out; have := HLl.out; unfold maxLen; omega) (by have := H2.out; have := HJ.out; have := HLl.out; omega) hM.below.size _ rfl ?_
              intro g1 cap1 w1 ho hg ha hlt
              replace hM := hM.appN (by decide) ho hg ha
              clear ho hg ha hB1
              refine hK.out _ _ ⟨hM.c0, hM.c1⟩ (fun hHeld => ?_)
              clear hK K
              refine norm_ (a' := ?_) ?_ ?_
              rotate_left
              · show Act.put _ (some 27) _ = _
                simp only [Act.put, List.setIfInBounds_toArray, List.set_cons_zero, List.set_cons_succ, i64_w, i32_w]
                rfl
              refine one_ (i := 14) (N := some 33) #[true, true, true, true, true, true, true, true, true, true, true, true, true, true, true, false, false, false, false, false, false, false] rfl rfl (by kernel_rfl) (by decide) (fun K hK => ?_)
              refine value_ (w1 := ?_) (v := ?_) (by rfl) rfl ?_ ?_
              rotate_left 2
              · go_simp
                constructor
                · rfl
                · rfl
              have hB2 := blk_new w1 (.cells #[(.slice (some ⟨zq, 0, none⟩) 512 512)] 22 (0, 0))
              replace hM := hM.alloc (.cells #[(.slice (some ⟨zq, 0, none⟩) 512 512)] 22 (0, 0))
              refine hK.out _ _ ⟨hM.c0, hM.c1⟩ (fun hHeld => ?_)
              clear hK K
              refine norm_ (a' := ?_) ?_ ?_
              rotate_left
              · show Act.put _ (some 33) _ = _
                simp only [Act.put, List.setIfInBounds_toArray, List.set_cons_zero, List.set_cons_succ, i64_w, i32_w]
                rfl
              exact norm_ (by first | (simp only [putAll, Act.put, List.setIfInBounds_toArray, List.set_cons_zero, List.set_cons_succ]; done) | (simp only [putAll, Act.put, List.setIfInBounds_toArray, List.set_cons_zero, List.set_cons_succ]; rfl)) (hCont (_, g1, cap1, w1.heap.size) _ ⟨hM, hB2⟩)
            · skip
              refine value_ (w1 := ?_) (v := ?_) (by rfl) rfl ?_ ?_
              rotate_left 2
              · go_simp
                constructor
                · rfl
                · rfl
              have hB2 := blk_new2 wz.drew (.cells #[(.slice (some ⟨zq, 0, none⟩) 512 512)] 22 (0, 0)) (.cells #[(.slice (some ⟨zq, 0, none⟩) 512 512)] 22 (0, 0))
              replace hB1 := blk_alloc hB1 (.cells #[(.slice (some ⟨zq, 0, none⟩) 512 512)] 22 (0, 0))
              replace hM := hM.alloc (.cells #[(.slice (some ⟨zq, 0, none⟩) 512 512)] 22 (0, 0))
              refine hK.out _ _ ⟨hM.c0, hM.c1⟩ (fun hHeld => ?_)
              clear hK K
              refine norm_ (a' := ?_) ?_ ?_
              rotate_left
              · show Act.put _ (some 33) _ = _
                simp only [Act.put, List.setIfInBounds_toArray, List.set_cons_zero, List.set_cons_succ, i64_w, i32_w]
                rfl
              refine one_ (i := 8) (N := some 27) #[true, true, true, true, true, true, true, true, true, true, true, true, true, true, true, false, false, false, false, false, false, false] rfl rfl (by kernel_rfl) (by decide) (fun K hK => ?_)
              refine step_append_lies _ rfl (.tmp 24) (.tmp 26) 56 rfl w.heap.size 22 i0 (.slice none 0 0) 1 24 Tryd.underlying56 HI.out.1 HI.out.2.1 HI.out.2.2.1 HI.out.2.2.2 rfl (by decide) vN l.length l rfl hM.rN ⟨_, 0, none⟩ 1 1 [(.slice (some ⟨zq, 0, none⟩) 512 512)] rfl rfl (news1 hB1) (by intro u hu; rw [List.mem_singleton.mp hu]; rfl) (by decide) (by have := H2.out; have := HJ.out; have := HLl.out; unfold maxLen; omega) (by have := H2.out; have := HJ.out; have := HLl.out; omega) hM.below.size _ rfl ?_
              intro g1 cap1 w1 ho hg ha hlt
              replace hB2 := blk_grown hB2 hg (fun e => by have h1 := hvN.out _ e.symm; have h2 : wz.drew.heap.size = wz.heap.size := rfl; omega)
              replace hM := hM.appN (by decide) ho hg ha
              clear ho hg ha hB1
              refine hK.out _ _ ⟨hM.c0, hM.c1⟩ (fun hHeld => ?_)
              clear hK K
              refine norm_ (a' := ?_) ?_ ?_
              rotate_left
              · show Act.put _ (some 27) _ = _
                simp only [Act.put, List.setIfInBounds_toArray, List.set_cons_zero, List.set_cons_succ, i64_w, i32_w]
                rfl
              exact norm_ (by first | (simp only [putAll, Act.put, List.setIfInBounds_toArray, List.set_cons_zero, List.set_cons_succ]; done) | (simp only [putAll, Act.put, List.setIfInBounds_toArray, List.set_cons_zero, List.set_cons_succ]; rfl)) (hCont (_, g1, cap1, wz.heap.size + 1) _ ⟨hM, hB2⟩)
          · skip
            refine value_ (w1 := ?_) (v := ?_) (by rfl) rfl ?_ ?_
            rotate_left 2
            · go_simp
              constructor
              · rfl
              · rfl
            have hB2 := blk_new wz.drew (.cells #[(.slice (some ⟨zq, 0, none⟩) 512 512)] 22 (0, 0))
            replace hM := hM.alloc (.cells #[(.slice (some ⟨zq, 0, none⟩) 512 512)] 22 (0, 0))
            refine hK.out _ _ ⟨hM.c0, hM.c1⟩ (fun hHeld => ?_)
            clear hK K
            refine norm_ (a' := ?_) ?_ ?_
            rotate_left
            · show Act.put _ (some 33) _ = _
              simp only [Act.put, List.setIfInBounds_toArray, List.set_cons_zero, List.set_cons_succ, i64_w, i32_w]
              rfl
            refine one_ (i := 7) (N := some 26) #[true, true, true, true, true, true, true, true, false, true, true, true, true, true, true, false, false, false, false, false, false, false] rfl rfl (by kernel_rfl) (by decide) (fun K hK => ?_)
            refine value_ (w1 := ?_) (v := ?_) (by rfl) rfl ?_ ?_
            rotate_left 2
            · go_simp
              constructor
              · rfl
              · rfl
            have hB1 := blk_new2 wz.drew (.cells #[(.slice (some ⟨zq, 0, none⟩) 512 512)] 22 (0, 0)) (.cells #[(.slice (some ⟨zq, 0, none⟩) 512 512)] 22 (0, 0))
            have hB2 := blk_alloc hB2 (.cells #[(.slice (some ⟨zq, 0, none⟩) 512 512)] 22 (0, 0))
            replace hM := hM.alloc (.cells #[(.slice (some ⟨zq, 0, none⟩) 512 512)] 22 (0, 0))
            refine hK.out _ _ ⟨hM.c0, hM.c1⟩ (fun hHeld => ?_)
            clear hK K
            refine norm_ (a' := ?_) ?_ ?_
            rotate_left
            · show Act.put _ (some 26) _ = _
              simp only [Act.put, List.setIfInBounds_toArray, List.set_cons_zero, List.set_cons_succ, i64_w, i32_w]
              rfl
            refine one_ (i := 8) (N := some 27) #[true, true, true, true, true, true, true, true, true, true, true, true, true, true, true, false, false, false, false, false, false, false] rfl rfl (by kernel_rfl) (by decide) (fun K hK => ?_)
            refine step_append_lies _ rfl (.tmp 24) (.tmp 26) 56 rfl w.heap.size 22 i0 (.slice none 0 0) 1 24 Tryd.underlying56 HI.out.1 HI.out.2.1 HI.out.2.2.1 HI.out.2.2.2 rfl (by decide) vN l.length l rfl hM.rN ⟨_, 0, none⟩ 1 1 [(.slice (some ⟨zq, 0, none⟩) 512 512)] rfl rfl (news1 hB1) (by intro u hu; rw [List.mem_singleton.mp hu]; rfl) (by decide) (by have := H2.out; have := HJ.out; have := HLl.out; unfold maxLen; omega) (by have := H2.out; have := HJ.out; have := HLl.out; omega) hM.below.size _ rfl ?_
            intro g1 cap1 w1 ho hg ha hlt
            replace hB2 := blk_grown hB2 hg (fun e => by have h1 := hvN.out _ e.symm; have h2 : wz.drew.heap.size = wz.heap.size := rfl; omega)
            replace hM := hM.appN (by decide) ho hg ha
            clear ho hg ha hB1
            refine hK.out _ _ ⟨hM.c0, hM.c1⟩ (fun hHeld => ?_)
            clear hK K
            refine norm_ (a' := ?_) ?_ ?_
            rotate_left
            · show Act.put _ (some 27) _ = _
              simp only [Act.put, List.setIfInBounds_toArray, List.set_cons_zero, List.set_cons_succ, i64_w, i32_w]
              rfl
            exact norm_ (by first | (simp only [putAll, Act.put, List.setIfInBounds_toArray, List.set_cons_zero, List.set_cons_succ]; done) | (simp only [putAll, Act.put, List.setIfInBounds_toArray, List.set_cons_zero, List.set_cons_succ]; rfl)) (hCont (_, g1, cap1, wz.heap.size) _ ⟨hM, hB2⟩)
        rintro ⟨b1, g1, cap1, a2⟩ w1 ⟨hM, hB2⟩
        have hHeld : w1.cell? ⟨gd + 1, 0, none⟩ = some vN ∧ w1.cell? ⟨gd + 1, 1, none⟩ = some vF := ⟨hM.c0, hM.c1⟩
        refine norm_ (a' := ?_) ?_ ?_
        rotate_left
        · simp only [putAll, Act.put, List.setIfInBounds_toArray, List.set_cons_zero, List.set_cons_succ]
          rfl
        refine one_ (i := 15) (N := some 34) #[true, true, true, true, true, true, true, true, true, true, true, true, true, true, true, true, false, false, false, false, false, false] rfl rfl (by kernel_rfl) (by decide) (fun K hK => ?_)
        refine step_append_lies _ rfl (.tmp 31) (.tmp 33) 56 rfl w.heap.size 22 i0 (.slice none 0 0) 1 24 Tryd.underlying56 HI.out.1 HI.out.2.1 HI.out.2.2.1 HI.out.2.2.2 rfl (by decide) vF l.length l rfl hM.rF ⟨_, 0, none⟩ 1 1 [(.slice (some ⟨zq, 0, none⟩) 512 512)] rfl rfl (news1 hB2) (by intro u hu; rw [List.mem_singleton.mp hu]; rfl) (by decide) (by have := H2.out; have := HJ.out; have := HLl.out; unfold maxLen; omega) (by have := H2.out; have := HJ.out; have := HLl.out; omega) hM.below.size _ rfl ?_
        intro g2 cap2 w2 ho hg ha hlt2
        replace hM := hM.appF (by decide) ho hg ha
        clear ho hg ha hB2
        have k0 := hM.c0
        have z0 := blk_frozen hM.hg 0
        have k1' := (blk_cell (blk_put hM.hg 0 (.slice (some ⟨g1, 0, none⟩) (l.length + 1) cap1) rfl) 1).trans (rfl : _ = some vF)
        have z1 := blk_frozen (blk_put hM.hg 0 (.slice (some ⟨g1, 0, none⟩) (l.length + 1) cap1) rfl) 1
        refine hK.out _ _ ⟨hM.c0, hM.c1⟩ (fun hHeld => ?_)
        clear hK K
        refine norm_ (a' := ?_) ?_ ?_
        rotate_left
        · show Act.put _ (some 34) _ = _
          simp only [Act.put, List.setIfInBounds_toArray, List.set_cons_zero, List.set_cons_succ, i64_w, i32_w]
          rfl
        refine pure_ (i := 16) (N := some 35) (v := ?_) (a' := ?_) #[true, true, true, true, true, true, true, true, true, true, true, true, true, true, true, true, true, false, false, false, false, false] rfl rfl (by kernel_rfl) (fun _ _ _ h => h) (Or.inl ⟨by rfl, ?_⟩) ?_ ?_
        rotate_left
        · intro w'
          go_simp
          with_reducible rfl
        rotate_left
        · simp only [Act.put, List.setIfInBounds_toArray, List.set_cons_zero, List.set_cons_succ, i64_w, i32_w]
          rfl
        refine pure_ (i := 17) (N := some 36) (v := ?_) (a' := ?_) #[true, true, true, true, true, true, true, true, true, true, true, true, true, true, true, true, true, true, false, false, false, false] rfl rfl (by kernel_rfl) (fun _ _ _ h => h) (Or.inl ⟨by rfl, ?_⟩) ?_ ?_
        rotate_left
        · intro w'
          go_simp
          with_reducible rfl
        rotate_left
        · simp only [Act.put, List.setIfInBounds_toArray, List.set_cons_zero, List.set_cons_succ, i64_w, i32_w]
          rfl
        refine last_ (i := 18) (N := none) #[true, true, true, true, true, true, true, true, true, true, true, true, true, true, true, true, true, true, true, false, false, false] rfl rfl (by kernel_rfl) (by decide) (fun K hK => ?_)
        refine skip_ (w1 := ?_) (by rfl) rfl ?_ ?_
        rotate_left
        · go_simp
          rfl
        refine hK.out _ _ ?_
        clear hK K
        refine pure_ (i := 19) (N := some 37) (v := ?_) (a' := ?_) #[true, true, true, true, true, true, true, true, true, true, true, true, true, true, true, true, true, true, true, true, false, false] rfl rfl (by kernel_rfl) (fun _ _ _ h => h) (Or.inl ⟨by rfl, ?_⟩) ?_ ?_
        rotate_left
        · intro w'
          go_simp
          with_reducible rfl
        rotate_left
        · simp only [Act.put, List.setIfInBounds_toArray, List.set_cons_zero, List.set_cons_succ, i64_w, i32_w]
          rfl
        refine pure_ (i := 20) (N := some 38) (v := ?_) (a' := ?_) #[true, true, true, true, true, true, true, true, true, true, true, true, true, true, true, true, true, true, true, true, true, false] rfl rfl (by kernel_rfl) (fun _ _ _ h => h) (Or.inl ⟨by rfl, ?_⟩) ?_ ?_
        rotate_left
        · intro w'
          go_simp
          with_reducible rfl
        rotate_left
        · simp only [Act.put, List.setIfInBounds_toArray, List.set_cons_zero, List.set_cons_succ, i64_w, i32_w]
          rfl
        refine last_ (i := 21) (N := none) #[true, true, true, true, true, true, true, true, true, true, true, true, true, true, true, true, true, true, true, true, true, true] rfl rfl (by kernel_rfl) (by decide) (fun K hK => ?_)
        refine skip_ (w1 := ?_) (by rfl) rfl ?_ ?_
        rotate_left
        · go_simp
          rfl
        refine hK.out _ _ ?_
        clear hK K
        refine done_ (by kernel_rfl) ?_
        go_wp2
        go_roundg k1
        case measure => omega
        case rel => exact ⟨j + 1, _, _, (by
            have hw : wrap64 ((j : Int) + 1) = ((j + 1 : Nat) : Int) := by have := HJ.out; have := H2.out; unfold wrap64; omega
            first | rfl | (rw [← hw]; rfl) | (simp [*]; done)), ⟨by have := HJ.out; omega⟩, ⟨hM.stored (by decide) (by decide) (by decide)⟩⟩
    · have c8b : decide ((j : Int) < (n : Int)) = false := decide_eq_false (by omega)
      have c8i : (n : Int) ≤ (j : Int) := by omega
      have c8d : decide (j < n) = false := decide_eq_false c8
      obtain rfl : j = n := by have := HJ.out; omega
      go_wp2
      go_ret
      obtain ⟨o, ho, hD, hge⟩ := HP.out.done HGD.out H1.out H2.out
      exact ⟨o, by rw [ho]; rfl, hD, hge, HP.out.below⟩

end

end Go.Proofs.YtagijaijjjaolaaDoor.PBL
