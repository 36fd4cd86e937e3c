import Derived.Test.YtagijaijjjaolaaDoorDkP
namespace Go.Proofs.YtagijaijjjaolaaDoor.PBL
open Go.RowKit Go.Proofs.YtagijaijjjaolaaDoorW.PrintWords Go.Proofs.YtagijaijjjaolaaDoorW.PrintLast Go.Proofs.YtagijaijjjaolaaDoorW.PrintMore
attribute [local go_sem] max2_int min2_int max_two min_two max_three min_three max_four min_four
set_option linter.unusedVariables false
set_option linter.unusedSimpArgs false
section
variable {ok ok2 : Nat → Prop}
theorem Keeps.trans_new {S S2 : Nat → Prop} {a b c : World} (h : Keeps S a b) (k : Keeps S2 b c) (hs : ∀ j, S2 j → S j ∨ a.heap.size ≤ j) : Keeps S a c := ⟨k.os.trans h.os, k.tape.trans h.tape, k.output.trans h.output, Nat.le_trans h.size k.size, fun i hi hn => (k.far i (Nat.lt_of_lt_of_le hi h.size) (fun h2 => (hs i h2).elim hn (fun h3 => by omega))).trans (h.far i hi hn)⟩
/-- Written over, whatever else has changed meanwhile. -/
theorem Ob2.calls (W : World) (u : Value) (l : List Int) (base : Nat) (hbase : base ≤ W.heap.size) (h : Kd.R (Kd.int .u8) 5 W base (fun _ => True) u l) (hl : l.length < 1000) : Calls Tryd.prog 35 #[u] W fun e w' => e = .returned (.tuple #[]) ∧ Keeps (fun k => some k = u.ownBlock) W w' := by
  have hs : (W.heap.extract 0 base).size = base := by rw [Array.size_extract]; omega
  have hB : Below (W.heap.extract 0 base).size { W with heap := W.heap.extract 0 base } W := by
    refine ⟨rfl, rfl, rfl, ?_, fun k hk => ?_⟩
    · show (W.heap.extract 0 base).size ≤ W.heap.size
      omega
    · show W.heap[k]? = (W.heap.extract 0 base)[k]?
      rw [hs] at hk
      rw [Array.getElem?_extract, if_pos (by omega), Nat.zero_add]
  refine (Ob.calls { W with heap := W.heap.extract 0 base } W u l base hB (by show (W.heap.extract 0 base).size ≤ base; omega) h hl).mono fun e w' ⟨q1, q2, q3⟩ => ⟨q1, q2.os, q2.tape, q2.output, q3.1, q3.2⟩
theorem LB_keeps {w w' : World} {base : Nat} {v : Value} {l : List Int} {S : Nat → Prop} (h : Kd.LB (Kd.int .u8) 5 w base (fun _ => True) v l) (hk : Keeps S w w') (hS : ∀ k, base ≤ k → ¬ S k) : Kd.LB (Kd.int .u8) 5 w' base (fun _ => True) v l :=
  Kd.LB_mono (Kd.LB_step (Kd.LB_bound h) (fun k hk1 hlt => hk.far k hlt (hS k hk1.2.1))) (fun _ _ => trivial)
theorem Dk.gc {T : TypeId} {w w' : World} {o : Own} {s : DS} {t : TypeId} {v : Value} (h : Dk ok T w o s) (hg : w.cell? ⟨0, 0, none⟩ = some (.iface t v)) (hk : Keeps o.has w w') : w'.cell? ⟨0, 0, none⟩ = some (.iface t v) := by
  have hlt := World.block_lt_of_cell? w _ hg
  have h0 : ¬ o.has 0 := by
    rintro (e | e | e | e)
    · have := h.c0 rfl
      rw [← e, hg] at this; cases this
    · obtain ⟨vs, r, b⟩ := h.vn
      obtain ⟨u, hu, hb⟩ := b.at h.n0
      obtain ⟨q, c, _, rfl, _⟩ := hb
      have := r.cell hu
      rw [← e, hg] at this; cases this
    · obtain ⟨vs, r, b⟩ := h.vf
      obtain ⟨u, hu, hb⟩ := b.at (i := 0) (by rw [h.nf]; exact h.n0)
      obtain ⟨q, c, _, rfl, _⟩ := hb
      have := r.cell hu
      rw [← e, hg] at this; cases this
    · obtain ⟨b, _, hb, _⟩ := h.kd h.n0
      rw [← e, hg] at hb; cases hb
  rw [← hg]
  unfold World.cell?
  rw [hk.far 0 hlt h0]
theorem Keeps.undrew {S : Nat → Prop} {w w' : World} (h : Keeps S w.drew w') : Keeps S w w' := ⟨h.os, h.tape, h.output, h.size, h.far⟩
theorem SiT.calls (A : Option Addr) (c : Nat) (l : List Int) (A' : Option Addr) (c' : Nat) (w : World) (h1 : Kd.C (Kd.int .i64) w A l.length l) (hc : l.length ≤ c) (h2 : Kd.C (Kd.int .i64) w A' l.length l) (hc' : l.length ≤ c') (hl : l.length < 100000) : Calls Tryd.prog 21 #[.slice A l.length c, .slice A' l.length c'] w fun e w' => e = .returned (.bool true) ∧ Below w.heap.size w w' :=
  (Si.calls A c l A' c' l w h1 hc h2 hc' hl).mono fun e w' ⟨q1, q2⟩ => ⟨by rw [q1, decide_eq_true rfl], q2⟩
theorem Keeps.Cb {w w' : World} {A : Option Addr} {xs : List Bool} {S : Nat → Prop} (hk : Keeps S w w') (h : Kd.C Kd.bool w A xs.length xs) (hA : ∀ ad, A = some ad → xs ≠ [] → ¬ S ad.block) : Kd.C Kd.bool w' A xs.length xs := hk.Ce h hA
def KO (o o2 : Own) (k : Nat) : Prop := o.has k ∨ o2.has k
theorem KO.elim {o o2 : Own} {k : Nat} {p : Prop} (h : KO o o2 k) (a : o.has k → p) (b : o2.has k → p) : p := Or.elim h a b
theorem Keeps.l {o o2 : Own} {w w' : World} (h : Keeps o.has w w') : Keeps (KO o o2) w w' := h.mono fun _ => .inl
theorem Keeps.r {o o2 : Own} {w w' : World} (h : Keeps o2.has w w') : Keeps (KO o o2) w w' := h.mono fun _ => .inr
theorem kept_true (k : Nat) : kept [true] k = true := by
  unfold kept
  have h : k % ([true] : List Bool).length = 0 := Nat.mod_one k
  rw [h]; rfl
theorem keepL_true : ∀ (X : List Nat) (k : Nat) (s : DS) (n : Nat), (∀ i, i ∈ X → i < s.now.length) → s.Fits → (keepL [true] X k s n).1.firm.length = s.firm.length ∧ ∀ i, (i ∈ X → (keepL [true] X k s n).1.firm[i]? = s.now[i]?) ∧ (i ∉ X → (keepL [true] X k s n).1.firm[i]? = s.firm[i]?)
  | [], k, s, n, _, _ => ⟨rfl, fun i => ⟨fun h => (by cases h), fun _ => rfl⟩⟩
  | x :: X, k, s, n, hlt, hf => by
    rw [keepL, if_pos (kept_true k)]
    have hx := hlt x (List.mem_cons_self ..)
    have hxf : x < s.firm.length := by rw [hf.nf]; exact hx
    obtain ⟨h1, h2⟩ := keepL_true X (k + 1) (s.keep x) (n + 1) (fun i hi => hlt i (List.mem_cons_of_mem _ hi)) (hf.keep x)
    refine ⟨h1.trans List.length_set, fun i => ⟨fun hi => ?_, fun hi => ?_⟩⟩
    · by_cases hX : i ∈ X
      · exact (h2 i).1 hX
      · rw [(h2 i).2 hX]
        rcases List.mem_cons.mp hi with rfl | hi
        · show (s.firm.set i (s.now.getD i []))[i]? = _
          rw [get_set_eq _ _ _ hxf, get_d _ [] _ hx]
        · exact absurd hi hX
    · rw [(h2 i).2 (fun h => hi (List.mem_cons_of_mem _ h))]
      exact get_set_ne _ _ _ _ (fun e => hi (e ▸ List.mem_cons_self ..))
theorem flush_same (s : DS) (hf : s.Fits) (hc : s.Clean) : (⟨s.now, s.now, List.replicate s.now.length false⟩ : DS) = (s.crash [true]).1 := by
  have h1 := (crash_same s [true] hf hc).1
  obtain ⟨h2, h3⟩ := keepL_true (dix s.dirty s.now.length) 0 s 0 (dix_lt _ _) hf
  have e : (keepL [true] (dix s.dirty s.now.length) 0 s 0).1.firm = s.now := by
    refine List.ext_getElem? fun i => ?_
    by_cases hi : i ∈ dix s.dirty s.now.length
    · exact (h3 i).1 hi
    · rw [(h3 i).2 hi]
      by_cases hlt : i < s.now.length
      · refine (hc i ?_).symm
        have hl : i < s.dirty.length := by rw [hf.nd]; exact hlt
        have := mt (dix_mem s.dirty s.now.length i).mpr hi
        rw [List.getElem?_eq_getElem hl] at this ⊢
        cases hb : s.dirty[i] with
        | true => rw [hb] at this; exact absurd ⟨hlt, rfl⟩ this
        | false => rfl
      · rw [List.getElem?_eq_none (by rw [hf.nf]; omega), List.getElem?_eq_none (by omega)]
  rw [e] at h1
  exact h1

set_option maxHeartbeats 8000000 in
set_option maxRecDepth 100000 in
theorem Dn0.calls (o o2 : Own) (s : DS) (w : World) (h : Dk (fun _ => True) 58 w o s) (h2 : Dk (fun _ => True) 64 w o2 s) (hcl : s.Clean) (hne : ∀ k, o.has k → ¬ o2.has k) (hg : w.cell? ⟨0, 0, none⟩ = some (.iface 94 (.agg #[.pointer (some ⟨1, 28, none⟩)]))) (x1 x2 x3 : Int) (x4 : List Bool) (Ak : Option Addr) (ck : Nat) (hk : Kd.C Kd.bool w Ak x4.length x4) (hck : x4.length ≤ ck) (hA : ∀ ad, Ak = some ad → x4 ≠ [] → ¬ o.has ad.block ∧ ¬ o2.has ad.block) :
    Calls Tryd.prog 19 #[.pointer (some ⟨o.g, 0, none⟩), .pointer (some ⟨o2.g, 0, none⟩), .agg #[.int .i64 0, .int .i64 x1, .int .u8 x2, .int .i64 x3, .slice Ak x4.length ck]] w fun e w' => e = .returned (.bool true) ∧ Dk (fun _ => True) 58 w' o (s.play ⟨0, x1, x2, x3, x4⟩) ∧ Dk (fun _ => True) 64 w' o2 (s.play ⟨0, x1, x2, x3, x4⟩) ∧ Keeps (KO o o2) w w' := by
  have hb0 : Below w.heap.size w (w.alloc (.cells #[.int .i64 0, .int .i64 x1, .int .u8 x2, .int .i64 x3, .slice Ak x4.length ck] 44 (0, 0))) := (Below.refl _ _).alloc (Nat.le_refl _) _
  have HX := Aside0.mk (blk_new w (.cells #[.int .i64 0, .int .i64 x1, .int .u8 x2, .int .i64 x3, .slice Ak x4.length ck] 44 (0, 0)))
  have HD := Aside0.mk (h.below hb0)
  have H2 := Aside0.mk (h2.below hb0)
  have HB := Aside0.mk hb0
  have HF := Aside0.mk h.fits
  have HCL := Aside0.mk hcl
  have HNE := Aside0.mk hne
  have HL1 := Aside0.mk h.lt
  have HL2 := Aside0.mk h2.lt
  have HA := Aside0.mk hA
  have Hck := Aside0.mk hck
  have HK := Aside0.mk (Kd.C_below hk hb0)
  have HG := Aside0.mk (pw_cell_below hb0 hg)
  have HG0 := Aside0.mk hg
  have HDW := Aside0.mk h
  have H2W := Aside0.mk h2
  have e0 : s.play ⟨0, x1, x2, x3, x4⟩ = (s.write x1 (fullL x2 x3)).1 := by unfold DS.play; rw [if_pos rfl]
  rw [e0]
  have F1 : Aside0 (∀ w : World, Calls Tryd.prog 11 #[.int .u8 x2, .int .i64 x3] w fun e w' => ∃ A c, e = .returned (.slice A (fullL x2 x3).length c) ∧ Kd.R (Kd.int .u8) 5 w' w.heap.size (fun _ => True) (.slice A (fullL x2 x3).length c) (fullL x2 x3) ∧ Below w.heap.size w w') := ⟨fun w => Fu.calls x2 x3 w⟩
  have hfl := full_lt x2 x3
  generalize fullL x2 x3 = lx at *
  have HFL := Aside0.mk hfl
  have LF : Aside0 (chatelainelaw0_LendBytes.f lx = some lx) := ⟨by unfold chatelainelaw0_LendBytes.f; rw [if_pos (by omega)]⟩
  have KF : Aside0 (chatelainelaw0_KeptBytes.f 2000 lx lx = some true) := ⟨by unfold chatelainelaw0_KeptBytes.f; rw [same_dec 2000 lx lx (by omega) (by omega), decide_eq_true rfl]⟩
  clear h h2 hcl hne hg hk hck hA hb0 e0 hfl
  go_enter Tryd.func19, Tryd.ntmps19
  go_wp2_with (first | (go_at_call 10; with_reducible refine (Dk_Write.calls o s _ HD3.out _ _ lx (Kd.LB_reads' LB3.out).2.2 (Kd.LB_reads' LB3.out).2.1 x1 (fun k hk => .inr hk)).mono ?_; rintro e w4 ⟨v4, rfl, he4, hd4, hk4⟩; have E4 := Aside0.mk he4; have HD4 := Aside0.mk hd4; have HK4 := Aside0.mk hk4; have HX4 := Aside0.mk ((hk4.far _ (blk_lt HX3.out) (fun h => by have := HL1.out _ h; omega)).trans HX3.out); have H24 := Aside0.mk (H23.out.other HD3.out (by decide) (fun k a b => absurd a (HNE.out k b)) hk4); clear he4 hd4 hk4) | (go_at_call 32; with_reducible refine (chatelainelaw0_LendBytes.calls A2 c2 lx lx _ (Kd.R_reads' HR2.out).2.2 (Kd.R_reads' HR2.out).2.1 LF.out).mono ?_; rintro e w3 ⟨v3, rfl, ho3, hb3⟩; obtain ⟨A3, c3, rfl⟩ := Kd.LB_slice ho3; have LB3 := Aside0.mk ho3; have B3 := Aside0.mk hb3; have BW3 := Aside0.mk (below_step BW2.out hb3); have HD3 : Aside0 (Dk (fun k => k < w2.heap.size ∨ w3.heap.size ≤ k) 58 w3 o s) := ⟨(HDW.out.mono (fun k hk _ => .inl (Nat.lt_of_lt_of_le hk BW2.out.size))).below BW3.out⟩; have H23 : Aside0 (Dk (fun k => k < w2.heap.size ∨ w3.heap.size ≤ k) 64 w3 o2 s) := ⟨(H2W.out.mono (fun k hk _ => .inl (Nat.lt_of_lt_of_le hk BW2.out.size))).below BW3.out⟩; have HX3 := Aside0.mk (blk_below HX2.out hb3); have kx3 : w3.cell? ⟨w.heap.size, 1, none⟩ = some (.int .i64 x1) := (blk_cell HX3.out 1).trans rfl; clear ho3 hb3) | (go_at_call 11; with_reducible refine (F1.out _).mono ?_; rintro e w2 ⟨A2, c2, rfl, hr2, hb2⟩; have HR2 := Aside0.mk hr2; have BW2 := Aside0.mk (below_step HB.out hb2); have HX2 := Aside0.mk (blk_below HX.out hb2); clear hr2 hb2))
  have HSZ : Aside0 (w.heap.size < w2.heap.size) := ⟨by have := BW2.out.size; have := blk_lt HX2.out; omega⟩
  generalize hgx : w.heap.size = gx at *
  have hS4 := (⟨(blk_cell HX4.out 1).trans rfl, (blk_cell HX4.out 2).trans rfl, (blk_cell HX4.out 3).trans rfl⟩ : w4.cell? ⟨gx, 1, none⟩ = some (.int .i64 x1) ∧ w4.cell? ⟨gx, 2, none⟩ = some (.int .u8 x2) ∧ w4.cell? ⟨gx, 3, none⟩ = some (.int .i64 x3))
  have G4 : Aside0 (w4.drew.cell? ⟨0, 0, none⟩ = some (.iface 94 (.agg #[.pointer (some ⟨1, 28, none⟩)]))) := ⟨HD3.out.gc (pw_cell_below (by rw [hgx]; exact BW3.out) HG0.out) HK4.out.drew⟩
  have E4d : Aside0 (ErrV w4.drew v4 (s.write x1 lx).2) := ⟨E4.out.below (Below.drew (Below.refl _ _))⟩
  generalize hcd : (s.write x1 lx).2 = cd at *
  generalize hsx : (s.write x1 lx).1 = s' at *
  go_region_held3 (fun w' => w'.cell? ⟨gx, 1, none⟩ = some (.int .i64 x1) ∧ w'.cell? ⟨gx, 2, none⟩ = some (.int .u8 x2) ∧ w'.cell? ⟨gx, 3, none⟩ = some (.int .i64 x3)) (first | exact S5.out | exact S6.out | exact S7.out | exact S8.out | exact S9.out | exact hS4 | go_keep) (first | (go_at_call 34; with_reducible refine (chatelainelaw0_KeptBytes.calls 2000 A3 c3 lx A8 c8 lx true _ (Kd.LB_reads' LB8.out).2.2 (Kd.LB_reads' LB8.out).2.1 (Kd.R_reads' HR8.out).2.2 (Kd.R_reads' HR8.out).2.1 (Kd.LB_spare LB8.out) KF.out).mono ?_; rintro e w9 ⟨rfl, hd9⟩; have hb9 := hd9.below; have HD9 := Aside0.mk (HD8.out.below hb9); have H29 := Aside0.mk (H28.out.below hb9); have LB9 := Aside0.mk (Kd.LB_below LB8.out hb9); have K9 := Aside0.mk (K8.out.trans (Keeps.of_below hb9)); have HX9 := Aside0.mk (blk_below HX8.out hb9); have S9 := Aside0.mk (⟨(blk_cell HX9.out 1).trans rfl, (blk_cell HX9.out 2).trans rfl, (blk_cell HX9.out 3).trans rfl⟩ : w9.cell? ⟨gx, 1, none⟩ = some (.int .i64 x1) ∧ w9.cell? ⟨gx, 2, none⟩ = some (.int .u8 x2) ∧ w9.cell? ⟨gx, 3, none⟩ = some (.int .i64 x3)); clear hd9 hb9) | (go_at_call 11; with_reducible refine (F1.out w7).mono ?_; rintro e w8 ⟨A8, c8, rfl, hr8, hb8⟩; have HR8 := Aside0.mk hr8; have HD8 := Aside0.mk (HD7.out.below hb8); have H28 := Aside0.mk (H27.out.below hb8); have K8 := Aside0.mk (K7.out.trans (Keeps.of_below hb8)); have LB8 := Aside0.mk (LB_keeps LB3.out K8.out (fun k hk h => KO.elim h (fun h => by have := HL1.out _ h; have := HSZ.out; omega) (fun h => by have := HL2.out _ h; have := HSZ.out; omega))); have HX8 := Aside0.mk (blk_below HX7.out hb8); have S8 := Aside0.mk (⟨(blk_cell HX8.out 1).trans rfl, (blk_cell HX8.out 2).trans rfl, (blk_cell HX8.out 3).trans rfl⟩ : w8.cell? ⟨gx, 1, none⟩ = some (.int .i64 x1) ∧ w8.cell? ⟨gx, 2, none⟩ = some (.int .u8 x2) ∧ w8.cell? ⟨gx, 3, none⟩ = some (.int .i64 x3)); clear hr8 hb8) | (go_at_call 33; with_reducible refine (Rk_Write.calls o2 s _ H26.out _ _ lx (Kd.R_reads' HR6.out).2.2 (Kd.R_reads' HR6.out).2.1 x1 (fun k hk => .inr (Nat.le_trans K6.out.size hk))).mono ?_; rintro e w7 ⟨rfl, hd7, hk7⟩; have H27 := Aside0.mk hd7; have HD7 := Aside0.mk (HD6.out.other H26.out (by decide) HNE.out hk7); have K7 := Aside0.mk (K6.out.trans (Keeps.r (o := o) hk7)); have HX7 := Aside0.mk ((hk7.far _ (blk_lt HX6.out) (fun h => by have := HL2.out _ h; omega)).trans HX6.out); have S7 := Aside0.mk (⟨(blk_cell HX7.out 1).trans rfl, (blk_cell HX7.out 2).trans rfl, (blk_cell HX7.out 3).trans rfl⟩ : w7.cell? ⟨gx, 1, none⟩ = some (.int .i64 x1) ∧ w7.cell? ⟨gx, 2, none⟩ = some (.int .u8 x2) ∧ w7.cell? ⟨gx, 3, none⟩ = some (.int .i64 x3)); clear hd7 hk7) | (go_at_call 11; with_reducible refine (F1.out w5).mono ?_; rintro e w6 ⟨A6, c6, rfl, hr6, hb6⟩; have HR6 := Aside0.mk hr6; have HD6 := Aside0.mk (HD5.out.below hb6); have H26 := Aside0.mk (H25.out.below hb6); have K6 := Aside0.mk (K5.out.trans (Keeps.of_below hb6)); have HX6 := Aside0.mk (blk_below HX5.out hb6); have S6 := Aside0.mk (⟨(blk_cell HX6.out 1).trans rfl, (blk_cell HX6.out 2).trans rfl, (blk_cell HX6.out 3).trans rfl⟩ : w6.cell? ⟨gx, 1, none⟩ = some (.int .i64 x1) ∧ w6.cell? ⟨gx, 2, none⟩ = some (.int .u8 x2) ∧ w6.cell? ⟨gx, 3, none⟩ = some (.int .i64 x3)); clear hr6 hb6) | (go_at_call 25; with_reducible refine (ErrV.num (w := w4.drew) E4d.out G4.out).mono ?_; rintro e w5 ⟨rfl, hb5⟩; have hb5 := below_undrew hb5; have HD5 := Aside0.mk (HD4.out.below hb5); have H25 := Aside0.mk (H24.out.below hb5); have K5 := Aside0.mk ((Keeps.l (o2 := o2) HK4.out).trans (Keeps.of_below hb5)); have HX5 := Aside0.mk (blk_below HX4.out hb5); have S5 := Aside0.mk (⟨(blk_cell HX5.out 1).trans rfl, (blk_cell HX5.out 2).trans rfl, (blk_cell HX5.out 3).trans rfl⟩ : w5.cell? ⟨gx, 1, none⟩ = some (.int .i64 x1) ∧ w5.cell? ⟨gx, 2, none⟩ = some (.int .u8 x2) ∧ w5.cell? ⟨gx, 3, none⟩ = some (.int .i64 x3)); clear hb5))
  go_wp2_with (first | (go_at_call 35; with_reducible refine (Ob2.calls _ _ lx w2.heap.size (Nat.le_trans B3.out.size K9.out.size) (Kd.LB_R LB9.out) (by have := HFL.out; omega)).mono ?_; rintro e w10 ⟨rfl, hk10⟩; have K10 := Aside0.mk hk10; clear hk10))
  go_ret
  have hin : ∀ k, some k = (Value.slice A3 lx.length c3).ownBlock → w2.heap.size ≤ k ∧ k < w3.heap.size := fun k hk => ⟨Kd.LB_base LB3.out k hk.symm, Kd.LB_lt LB3.out k hk.symm⟩
  have hbw := BW3.out.size
  have hs2 := HSZ.out
  have hs3 := B3.out.size
  have fin : ∀ (T : TypeId) (o' : Own) (z : DS), (∀ k, o'.has k → k < gx) → Dk (fun k => k < w2.heap.size ∨ w3.heap.size ≤ k) T w9 o' z → Dk (fun _ => True) T w10 o' z := fun T o' z hlt hd => (hd.sameO (fun k hk => K10.out.far k (hd.lt k hk) (fun e => by have := hin k e; have := hlt k hk; omega)) (fun q cs hq e => K10.out.far q (blk_lt e) (fun e2 => by have := hin q e2; omega))).mono (fun _ _ _ => trivial)
  rw [hsx]
  refine ⟨rfl, fin _ _ _ HL1.out HD9.out, fin _ _ _ HL2.out (hsx ▸ H29.out), ?_⟩
  refine (((Keeps.of_below (by rw [hgx]; exact BW3.out)).trans K9.out).trans_new K10.out (fun k hk => .inr ?_))
  have := hin k hk
  omega

set_option maxHeartbeats 8000000 in
set_option maxRecDepth 100000 in
theorem Dn2.calls (o o2 : Own) (s : DS) (w : World) (h : Dk (fun _ => True) 58 w o s) (h2 : Dk (fun _ => True) 64 w o2 s) (hcl : s.Clean) (hne : ∀ k, o.has k → ¬ o2.has k) (hg : w.cell? ⟨0, 0, none⟩ = some (.iface 94 (.agg #[.pointer (some ⟨1, 28, none⟩)]))) (x1 x2 x3 : Int) (x4 : List Bool) (Ak : Option Addr) (ck : Nat) (hk : Kd.C Kd.bool w Ak x4.length x4) (hck : x4.length ≤ ck) (hA : ∀ ad, Ak = some ad → x4 ≠ [] → ¬ o.has ad.block ∧ ¬ o2.has ad.block) :
    Calls Tryd.prog 19 #[.pointer (some ⟨o.g, 0, none⟩), .pointer (some ⟨o2.g, 0, none⟩), .agg #[.int .i64 2, .int .i64 x1, .int .u8 x2, .int .i64 x3, .slice Ak x4.length ck]] w fun e w' => e = .returned (.bool true) ∧ Dk (fun _ => True) 58 w' o (s.play ⟨2, x1, x2, x3, x4⟩) ∧ Dk (fun _ => True) 64 w' o2 (s.play ⟨2, x1, x2, x3, x4⟩) ∧ Keeps (KO o o2) w w' := by
  have hb0 : Below w.heap.size w (w.alloc (.cells #[.int .i64 2, .int .i64 x1, .int .u8 x2, .int .i64 x3, .slice Ak x4.length ck] 44 (0, 0))) := (Below.refl _ _).alloc (Nat.le_refl _) _
  have HX := Aside0.mk (blk_new w (.cells #[.int .i64 2, .int .i64 x1, .int .u8 x2, .int .i64 x3, .slice Ak x4.length ck] 44 (0, 0)))
  have HD := Aside0.mk (h.below hb0)
  have H2 := Aside0.mk (h2.below hb0)
  have HB := Aside0.mk hb0
  have HF := Aside0.mk h.fits
  have HCL := Aside0.mk hcl
  have HNE := Aside0.mk hne
  have HL1 := Aside0.mk h.lt
  have HL2 := Aside0.mk h2.lt
  have HA := Aside0.mk hA
  have Hck := Aside0.mk hck
  have HK := Aside0.mk (Kd.C_below hk hb0)
  have HG := Aside0.mk (pw_cell_below hb0 hg)
  have HG0 := Aside0.mk hg
  have e0 : s.play ⟨2, x1, x2, x3, x4⟩ = (s.crash [true]).1 := by unfold DS.play; rw [if_neg (show ¬ ((2 : Int) = 0) by decide), if_pos rfl]
  rw [e0]
  have FS := Aside0.mk (flush_same s h.fits hcl)
  have HFE : Aside0 ((s.crash [true]).1 = (crashL [true] (dix s.dirty s.now.length) 0 s 0).1) := ⟨rfl⟩
  clear e0
  clear h h2 hcl hne hg hk hck hA hb0
  go_enter Tryd.func19, Tryd.ntmps19
  go_wp2_with (first | (go_at_call 36; with_reducible refine (Rk_Flush.calls o2 s _ H22.out (fun _ _ => trivial)).mono ?_; rintro e w3 ⟨rfl, hd3, hk3⟩; have H3 := Aside0.mk hd3; have HD3 := Aside0.mk (HD2.out.other H22.out (by decide) HNE.out hk3); have K3 := Aside0.mk ((Keeps.l (o2 := o2) HK2.out).trans (Keeps.r (o := o) hk3)); clear hd3 hk3) | (go_at_call 12; with_reducible refine (Dk_Flush.calls o s _ HD.out).mono ?_; rintro e w2 ⟨rfl, hd2, hk2⟩; have HD2 := Aside0.mk hd2; have HK2 := Aside0.mk hk2; have H22 := Aside0.mk (H2.out.other HD.out (by decide) (fun k a b => absurd a (HNE.out k b)) hk2); clear hd2 hk2))
  go_ret
  exact ⟨rfl, HD3.out, by rw [← FS.out]; exact H3.out, (Keeps.of_below HB.out).trans K3.out⟩

set_option maxHeartbeats 8000000 in
set_option maxRecDepth 100000 in
theorem Dn3.calls (o o2 : Own) (s : DS) (w : World) (h : Dk (fun _ => True) 58 w o s) (h2 : Dk (fun _ => True) 64 w o2 s) (hcl : s.Clean) (hne : ∀ k, o.has k → ¬ o2.has k) (hg : w.cell? ⟨0, 0, none⟩ = some (.iface 94 (.agg #[.pointer (some ⟨1, 28, none⟩)]))) (x1 x2 x3 : Int) (x4 : List Bool) (Ak : Option Addr) (ck : Nat) (hk : Kd.C Kd.bool w Ak x4.length x4) (hck : x4.length ≤ ck) (hA : ∀ ad, Ak = some ad → x4 ≠ [] → ¬ o.has ad.block ∧ ¬ o2.has ad.block) :
    Calls Tryd.prog 19 #[.pointer (some ⟨o.g, 0, none⟩), .pointer (some ⟨o2.g, 0, none⟩), .agg #[.int .i64 3, .int .i64 x1, .int .u8 x2, .int .i64 x3, .slice Ak x4.length ck]] w fun e w' => e = .returned (.bool true) ∧ Dk (fun _ => True) 58 w' o (s.play ⟨3, x1, x2, x3, x4⟩) ∧ Dk (fun _ => True) 64 w' o2 (s.play ⟨3, x1, x2, x3, x4⟩) ∧ Keeps (KO o o2) w w' := by
  have hb0 : Below w.heap.size w (w.alloc (.cells #[.int .i64 3, .int .i64 x1, .int .u8 x2, .int .i64 x3, .slice Ak x4.length ck] 44 (0, 0))) := (Below.refl _ _).alloc (Nat.le_refl _) _
  have HX := Aside0.mk (blk_new w (.cells #[.int .i64 3, .int .i64 x1, .int .u8 x2, .int .i64 x3, .slice Ak x4.length ck] 44 (0, 0)))
  have HD := Aside0.mk (h.below hb0)
  have H2 := Aside0.mk (h2.below hb0)
  have HB := Aside0.mk hb0
  have HF := Aside0.mk h.fits
  have HCL := Aside0.mk hcl
  have HNE := Aside0.mk hne
  have HL1 := Aside0.mk h.lt
  have HL2 := Aside0.mk h2.lt
  have HA := Aside0.mk hA
  have Hck := Aside0.mk hck
  have HK := Aside0.mk (Kd.C_below hk hb0)
  have HG := Aside0.mk (pw_cell_below hb0 hg)
  have HG0 := Aside0.mk hg
  have e0 : s.play ⟨3, x1, x2, x3, x4⟩ = (crashL x4 (dix s.dirty s.now.length) 0 s 0).1 := by unfold DS.play; rw [if_neg (show ¬ ((3 : Int) = 0) by decide), if_neg (show ¬ ((3 : Int) = 2) by decide), if_pos rfl]; rfl
  rw [e0]
  have CS := crash_same s x4 h.fits hcl
  have C1 : Aside0 (∀ w, Dk (fun _ => True) 58 w o s → Kd.C Kd.bool w Ak x4.length x4 → Calls Tryd.prog 14 #[.pointer (some ⟨o.g, 0, none⟩), .slice Ak x4.length ck] w fun e w' => e = .returned (.int .i64 ((crashL x4 (dix s.dirty s.now.length) 0 s 0).2 : Int)) ∧ Dk (fun _ => True) 58 w' o (crashL x4 (dix s.dirty s.now.length) 0 s 0).1 ∧ Keeps o.has w w') := ⟨fun w hd hc => Dk_Crash.calls o s w hd Ak ck x4 hc hck (fun ad e hx => (hA ad e hx).1)⟩
  have C2 : Aside0 (∀ w, Dk (fun _ => True) 64 w o2 s → Kd.C Kd.bool w Ak x4.length x4 → Calls Tryd.prog 37 #[.pointer (some ⟨o2.g, 0, none⟩), .slice Ak x4.length ck] w fun e w' => e = .returned (.int .i64 ((crashL x4 (dix s.dirty s.now.length) 0 s 0).2 : Int)) ∧ Dk (fun _ => True) 64 w' o2 (crashL x4 (dix s.dirty s.now.length) 0 s 0).1 ∧ Keeps o2.has w w') := ⟨fun w hd hc => by have := Rk_Crash.calls o2 s w hd Ak ck x4 hc hck (fun ad e hx => (hA ad e hx).2) (fun _ _ => trivial); rw [CS.2, CS.1] at this; exact this⟩
  generalize (crashL x4 (dix s.dirty s.now.length) 0 s 0).2 = nc at *
  generalize (crashL x4 (dix s.dirty s.now.length) 0 s 0).1 = s' at *
  clear e0 CS
  clear h h2 hcl hne hg hk hck hA hb0
  go_enter Tryd.func19, Tryd.ntmps19
  go_wp2
  have HLx : Aside0 (∀ k, o.has k ∨ o2.has k → k < w.heap.size) := ⟨fun k hk => hk.elim (HL1.out k) (HL2.out k)⟩
  generalize hw1 : w.alloc (.cells #[.int .i64 3, .int .i64 x1, .int .u8 x2, .int .i64 x3, .slice Ak x4.length ck] 44 (0, 0)) = w1 at *
  generalize hgx : w.heap.size = gx at *
  have hS1 : w1.cell? ⟨gx, 4, none⟩ = some (.slice Ak x4.length ck) := (blk_cell HX.out 4).trans rfl
  clear hw1
  go_region_held3 (fun w' => w'.cell? ⟨gx, 4, none⟩ = some (.slice Ak x4.length ck)) (first | exact S2.out | exact S3.out | exact hS1 | go_keep) (first | (go_at_call 37; with_reducible refine (C2.out _ H22.out HK2.out).mono ?_; rintro e w3 ⟨rfl, hd3, hk3⟩; have H3 := Aside0.mk hd3; have HD3 := Aside0.mk (HD2.out.other H22.out (by decide) HNE.out hk3); have K3 := Aside0.mk ((Keeps.l (o2 := o2) KK2.out).trans (Keeps.r (o := o) hk3)); have S3 : Aside0 (w3.cell? ⟨gx, 4, none⟩ = some (.slice Ak x4.length ck)) := ⟨(blk_cell ((hk3.far _ (blk_lt HX2.out) (fun h => by have := HL2.out _ h; omega)).trans HX2.out) 4).trans rfl⟩; clear hd3 hk3) | (go_at_call 14; with_reducible refine (C1.out _ HD.out.drew (Kd.C_drew HK.out)).mono ?_; rintro e w2 ⟨rfl, hd2, hk2⟩; have hk2 := Keeps.undrew hk2; have HD2 := Aside0.mk hd2; have KK2 := Aside0.mk hk2; have H22 := Aside0.mk (H2.out.other HD.out (by decide) (fun k a b => absurd a (HNE.out k b)) hk2); have HK2 := Aside0.mk (Keeps.Cb hk2 HK.out (fun ad e hx => And.left (HA.out ad e hx))); have HX2 := Aside0.mk ((hk2.far _ (blk_lt HX.out) (fun h => by have := HL1.out _ h; omega)).trans HX.out); have S2 : Aside0 (w2.cell? ⟨gx, 4, none⟩ = some (.slice Ak x4.length ck)) := ⟨(blk_cell HX2.out 4).trans rfl⟩; clear hd2 hk2))
  go_wp2
  go_ret
  exact ⟨rfl, HD3.out, H3.out, (Keeps.of_below (by rw [hgx]; exact HB.out)).trans K3.out⟩

set_option maxHeartbeats 8000000 in
set_option maxRecDepth 100000 in
theorem Dn4.calls (o o2 : Own) (s : DS) (w : World) (h : Dk (fun _ => True) 58 w o s) (h2 : Dk (fun _ => True) 64 w o2 s) (hcl : s.Clean) (hne : ∀ k, o.has k → ¬ o2.has k) (hg : w.cell? ⟨0, 0, none⟩ = some (.iface 94 (.agg #[.pointer (some ⟨1, 28, none⟩)]))) (x1 x2 x3 : Int) (x4 : List Bool) (Ak : Option Addr) (ck : Nat) (hk : Kd.C Kd.bool w Ak x4.length x4) (hck : x4.length ≤ ck) (hA : ∀ ad, Ak = some ad → x4 ≠ [] → ¬ o.has ad.block ∧ ¬ o2.has ad.block) :
    Calls Tryd.prog 19 #[.pointer (some ⟨o.g, 0, none⟩), .pointer (some ⟨o2.g, 0, none⟩), .agg #[.int .i64 4, .int .i64 x1, .int .u8 x2, .int .i64 x3, .slice Ak x4.length ck]] w fun e w' => e = .returned (.bool true) ∧ Dk (fun _ => True) 58 w' o (s.play ⟨4, x1, x2, x3, x4⟩) ∧ Dk (fun _ => True) 64 w' o2 (s.play ⟨4, x1, x2, x3, x4⟩) ∧ Keeps (KO o o2) w w' := by
  have hb0 : Below w.heap.size w (w.alloc (.cells #[.int .i64 4, .int .i64 x1, .int .u8 x2, .int .i64 x3, .slice Ak x4.length ck] 44 (0, 0))) := (Below.refl _ _).alloc (Nat.le_refl _) _
  have HX := Aside0.mk (blk_new w (.cells #[.int .i64 4, .int .i64 x1, .int .u8 x2, .int .i64 x3, .slice Ak x4.length ck] 44 (0, 0)))
  have HD := Aside0.mk (h.below hb0)
  have H2 := Aside0.mk (h2.below hb0)
  have HB := Aside0.mk hb0
  have HF := Aside0.mk h.fits
  have HCL := Aside0.mk hcl
  have HNE := Aside0.mk hne
  have HL1 := Aside0.mk h.lt
  have HL2 := Aside0.mk h2.lt
  have HA := Aside0.mk hA
  have Hck := Aside0.mk hck
  have HK := Aside0.mk (Kd.C_below hk hb0)
  have HG := Aside0.mk (pw_cell_below hb0 hg)
  have HG0 := Aside0.mk hg
  have e0 : s.play ⟨4, x1, x2, x3, x4⟩ = s := by unfold DS.play; rw [if_neg (show ¬ ((4 : Int) = 0) by decide), if_neg (show ¬ ((4 : Int) = 2) by decide), if_neg (show ¬ ((4 : Int) = 3) by decide)]
  rw [e0]
  have hl9 := full_512 9
  have F1 : Aside0 (∀ w : World, Calls Tryd.prog 11 #[.int .u8 9, .int .i64 512] w fun e w' => ∃ A c, e = .returned (.slice A (fullL 9 512).length c) ∧ Kd.R (Kd.int .u8) 5 w' w.heap.size (fun _ => True) (.slice A (fullL 9 512).length c) (fullL 9 512) ∧ Below w.heap.size w w') := ⟨fun w => Fu.calls 9 512 w⟩
  generalize fullL 9 512 = L9 at *
  have HL9 := Aside0.mk hl9
  have HIX := Aside0.mk (show (ints (dix s.dirty s.now.length)).length < 100000 by unfold ints; rw [List.length_map]; have := dix_len s.dirty s.now.length; have := h.n1; omega)
  generalize hX : ints (dix s.dirty s.now.length) = X at *
  clear e0 hl9
  clear h h2 hcl hne hg hk hck hA hb0
  go_enter Tryd.func19, Tryd.ntmps19
  go_wp2_with (first
    | (go_at_call 12; with_reducible refine (Dk_Flush.calls oc _ _ C8.out).mono ?_; rintro e w9 ⟨rfl, _, hk9⟩; have K9 := Aside0.mk (K8.out.trans hk9); clear hk9)
    | (go_at_call 10; with_reducible refine (Dk_Write.calls oc s _ C7.out _ _ L9 (Kd.R_reads' HR7.out).2.2 (Kd.R_reads' HR7.out).2.1 0 (fun _ _ => trivial)).mono ?_; rintro e w8 ⟨v8, rfl, _, hd8, hk8⟩; have C8 := Aside0.mk hd8; have K8 := Aside0.mk (K7.out.trans hk8); clear hd8 hk8)
    | (go_at_call 11; with_reducible refine (F1.out _).mono ?_; rintro e w7 ⟨A7, c7, rfl, hr7, hb7⟩; have HR7 := Aside0.mk hr7; have C7 := Aside0.mk (C6.out.below hb7); have K7 := Aside0.mk (K6.out.trans (Keeps.of_below hb7)); clear hr7 hb7)
    | (go_at_call 21; with_reducible refine (SiT.calls A4 c4 X A5 c5 _ (Kd.R_reads' RX5.out).2.2 (Kd.R_reads' RX5.out).2.1 (Kd.R_reads' RY5.out).2.2 (Kd.R_reads' RY5.out).2.1 HIX.out).mono ?_; rintro e w6 ⟨rfl, hb6⟩; have C6 := Aside0.mk (C5.out.below hb6); have K6 := Aside0.mk (K5.out.trans (Keeps.of_below hb6)); clear hb6)
    | (go_at_call 13; with_reducible refine (Dk_Dirty.calls o s _ D4.out).mono ?_; rintro e w5 ⟨v5, rfl, hr5, hb5⟩; rw [hX] at hr5; obtain ⟨A5, c5, rfl⟩ := Kd.R_slice hr5; have RY5 := Aside0.mk hr5; have RX5 := Aside0.mk (Kd.R_below RX4.out hb5); have C5 := Aside0.mk (C4.out.below hb5); have K5 := Aside0.mk (K4.out.trans (Keeps.of_below hb5)); clear hr5 hb5)
    | (go_at_call 13; with_reducible refine (Dk_Dirty.calls oc s _ C2.out).mono ?_; rintro e w4 ⟨v4, rfl, hr4, hb4⟩; rw [hX] at hr4; obtain ⟨A4, c4, rfl⟩ := Kd.R_slice hr4; have RX4 := Aside0.mk hr4; have C4 := Aside0.mk (C2.out.below hb4); have D4 := Aside0.mk (D2.out.below hb4); have K4 := Aside0.mk (K2.out.trans (Keeps.of_below hb4)); clear hr4 hb4)
    | (go_at_call 23; with_reducible refine (Dk_Len.calls oc s _ C2.out).mono ?_; rintro e w3 ⟨rfl, hw⟩; replace hw := hw.symm; subst hw)
    | (go_at_call 23; with_reducible refine (Dk_Len.calls o s _ D2.out).mono ?_; rintro e w3 ⟨rfl, hw⟩; replace hw := hw.symm; subst hw)
    | (go_at_call 26; with_reducible refine (Dk_Copy.calls o s _ HD.out).mono ?_; rintro e w2 ⟨oc, rfl, hd2, hge2, hb2⟩; have C2 := Aside0.mk hd2; have D2 := Aside0.mk (HD.out.below hb2); have HGE := Aside0.mk hge2; have K2 : Aside0 (Keeps oc.has _ w2) := ⟨Keeps.of_below hb2⟩; clear hd2 hge2 hb2))
  go_ret
  have hlt : ∀ k, oc.has k → w.heap.size ≤ k := fun k hk => Nat.le_trans HB.out.size (HGE.out k hk)
  have hK : Keeps (KO o o2) w w9 := (Keeps.of_below (S := KO o o2) HB.out).trans_new K9.out (fun k hk => .inr (hlt k hk))
  exact ⟨rfl, HD.out.same (fun k hk => K9.out.far k (HD.out.lt k hk) (fun h => by have := HGE.out k h; have := HD.out.lt k hk; omega)) (fun q cs e => K9.out.far q (blk_lt e) (fun h => by have := HGE.out q h; have := blk_lt e; omega)), H2.out.same (fun k hk => K9.out.far k (H2.out.lt k hk) (fun h => by have := HGE.out k h; have := H2.out.lt k hk; omega)) (fun q cs e => K9.out.far q (blk_lt e) (fun h => by have := HGE.out q h; have := blk_lt e; omega)), hK⟩

set_option maxHeartbeats 8000000 in
set_option maxRecDepth 100000 in
theorem DnX.calls (o o2 : Own) (s : DS) (w : World) (h : Dk (fun _ => True) 58 w o s) (h2 : Dk (fun _ => True) 64 w o2 s) (hcl : s.Clean) (hne : ∀ k, o.has k → ¬ o2.has k) (hg : w.cell? ⟨0, 0, none⟩ = some (.iface 94 (.agg #[.pointer (some ⟨1, 28, none⟩)]))) (x0 x1 x2 x3 : Int) (n0 : x0 ≠ 0) (n2 : x0 ≠ 2) (n3 : x0 ≠ 3) (n4 : x0 ≠ 4) (x4 : List Bool) (Ak : Option Addr) (ck : Nat) (hk : Kd.C Kd.bool w Ak x4.length x4) (hck : x4.length ≤ ck) (hA : ∀ ad, Ak = some ad → x4 ≠ [] → ¬ o.has ad.block ∧ ¬ o2.has ad.block) :
    Calls Tryd.prog 19 #[.pointer (some ⟨o.g, 0, none⟩), .pointer (some ⟨o2.g, 0, none⟩), .agg #[.int .i64 x0, .int .i64 x1, .int .u8 x2, .int .i64 x3, .slice Ak x4.length ck]] w fun e w' => e = .returned (.bool true) ∧ Dk (fun _ => True) 58 w' o (s.play ⟨x0, x1, x2, x3, x4⟩) ∧ Dk (fun _ => True) 64 w' o2 (s.play ⟨x0, x1, x2, x3, x4⟩) ∧ Keeps (KO o o2) w w' := by
  have hb0 : Below w.heap.size w (w.alloc (.cells #[.int .i64 x0, .int .i64 x1, .int .u8 x2, .int .i64 x3, .slice Ak x4.length ck] 44 (0, 0))) := (Below.refl _ _).alloc (Nat.le_refl _) _
  have HX := Aside0.mk (blk_new w (.cells #[.int .i64 x0, .int .i64 x1, .int .u8 x2, .int .i64 x3, .slice Ak x4.length ck] 44 (0, 0)))
  have HD := Aside0.mk (h.below hb0)
  have H2 := Aside0.mk (h2.below hb0)
  have HB := Aside0.mk hb0
  have HF := Aside0.mk h.fits
  have HCL := Aside0.mk hcl
  have HNE := Aside0.mk hne
  have HL1 := Aside0.mk h.lt
  have HL2 := Aside0.mk h2.lt
  have HA := Aside0.mk hA
  have Hck := Aside0.mk hck
  have HK := Aside0.mk (Kd.C_below hk hb0)
  have HG := Aside0.mk (pw_cell_below hb0 hg)
  have HG0 := Aside0.mk hg
  have e0 : s.play ⟨x0, x1, x2, x3, x4⟩ = s := by unfold DS.play; rw [if_neg n0, if_neg n2, if_neg n3]
  rw [e0]
  have d0b : decide (x0 = 0) = false := decide_eq_false n0
  have d2b : decide (x0 = 2) = false := decide_eq_false n2
  have d3b : decide (x0 = 3) = false := decide_eq_false n3
  have d4b : decide (x0 = 4) = false := decide_eq_false n4
  have d0c : (x0 == 0) = false := beq_eq_false_iff_ne.mpr n0
  have d2c : (x0 == 2) = false := beq_eq_false_iff_ne.mpr n2
  have d3c : (x0 == 3) = false := beq_eq_false_iff_ne.mpr n3
  have d4c : (x0 == 4) = false := beq_eq_false_iff_ne.mpr n4
  clear e0 n0 n2 n3 n4
  clear h h2 hcl hne hg hk hck hA hb0
  go_enter Tryd.func19, Tryd.ntmps19
  go_wp2
  go_ret
  exact ⟨rfl, HD.out, H2.out, Keeps.of_below HB.out⟩

theorem Dn.calls (o o2 : Own) (s : DS) (w : World) (h : Dk (fun _ => True) 58 w o s) (h2 : Dk (fun _ => True) 64 w o2 s) (hcl : s.Clean) (hne : ∀ k, o.has k → ¬ o2.has k) (hg : w.cell? ⟨0, 0, none⟩ = some (.iface 94 (.agg #[.pointer (some ⟨1, 28, none⟩)]))) (x0 x1 x2 x3 : Int) (x4 : List Bool) (Ak : Option Addr) (ck : Nat) (hk : Kd.C Kd.bool w Ak x4.length x4) (hck : x4.length ≤ ck) (hA : ∀ ad, Ak = some ad → x4 ≠ [] → ¬ o.has ad.block ∧ ¬ o2.has ad.block) : Calls Tryd.prog 19 #[.pointer (some ⟨o.g, 0, none⟩), .pointer (some ⟨o2.g, 0, none⟩), .agg #[.int .i64 x0, .int .i64 x1, .int .u8 x2, .int .i64 x3, .slice Ak x4.length ck]] w fun e w' => e = .returned (.bool true) ∧ Dk (fun _ => True) 58 w' o (s.play ⟨x0, x1, x2, x3, x4⟩) ∧ Dk (fun _ => True) 64 w' o2 (s.play ⟨x0, x1, x2, x3, x4⟩) ∧ Keeps (KO o o2) w w' := by
  by_cases n0 : x0 = 0
  · subst n0; exact Dn0.calls o o2 s w h h2 hcl hne hg x1 x2 x3 x4 Ak ck hk hck hA
  by_cases n2 : x0 = 2
  · subst n2; exact Dn2.calls o o2 s w h h2 hcl hne hg x1 x2 x3 x4 Ak ck hk hck hA
  by_cases n3 : x0 = 3
  · subst n3; exact Dn3.calls o o2 s w h h2 hcl hne hg x1 x2 x3 x4 Ak ck hk hck hA
  by_cases n4 : x0 = 4
  · subst n4; exact Dn4.calls o o2 s w h h2 hcl hne hg x1 x2 x3 x4 Ak ck hk hck hA
  exact DnX.calls o o2 s w h h2 hcl hne hg x0 x1 x2 x3 n0 n2 n3 n4 x4 Ak ck hk hck hA

end

end Go.Proofs.YtagijaijjjaolaaDoor.PBL
