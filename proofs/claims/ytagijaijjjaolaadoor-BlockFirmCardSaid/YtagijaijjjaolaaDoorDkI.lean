import Derived.Test.YtagijaijjjaolaaDoorDkH
namespace Go.Proofs.YtagijaijjjaolaaDoor.PBL
open Go.RowKit Go.Proofs.YtagijaijjjaolaaDoorW.PrintWords Go.Proofs.YtagijaijjjaolaaDoorW.PrintLast Go.Proofs.YtagijaijjjaolaaDoorW.PrintMore
attribute [local go_sem] max2_int min2_int max_two min_two max_three min_three max_four min_four
set_option linter.unusedVariables false
set_option linter.unusedSimpArgs false
section
variable {ok ok2 : Nat → Prop}
theorem Byt.of_own {w : World} {base m : Nat} {v : Value} {l : List Int} (h : w.ownsRow base 5 1 v m (l.map (fun x => .int .u8 x))) (hm : m = l.length) (hl : l.length = 512) (hok : ∀ k, base ≤ k → ok k) : Byt ok w v l := by
  obtain ⟨g, cap, rfl, q1, q2, q3, q4⟩ := Row.of_own h (by omega)
  exact ⟨g, cap, hok g q2, by rw [hm], by omega, hl, q4⟩
theorem info_u8' : (Tryd.prog.info? 5).map (fun i => (i.zero, i.size, i.bytes)) = some (some (.int .u8 0), 1, 1) := by kernel_rfl
/-- append([]byte(nil), l...) -/
theorem copy_step {ops : Array Oper} {o : Oper} {a : Act} {K : Act → World → Prop} {Q : Exit → Act → World → Prop} {E : Prop} (W : World) (hgd : o.guard = none) (x : Operand) (ho : o.op = .call { callee := .builtin .append, args := #[.const (.slice none 0 0), x], argTypes := #[22, 22] }) (A : Option Addr) (c : Nat) (l : List Int) (hx : a.eval x = .slice A l.length c) (hC : Kd.C (Kd.int .u8) W A l.length l) (hl : l.length = 512) (hok : ∀ k, W.heap.size ≤ k → ok k)
    (h : ∀ g cap w', Byt ok w' (.slice (some ⟨g, 0, none⟩) l.length cap) l → Below W.heap.size W w' → K (a.put o.dst (.slice (some ⟨g, 0, none⟩) l.length cap)) w') :
    if Region.wanted o (yielded ops a.tmps) = true then Oper.wp Tryd.prog o a W K Q else E := by
  obtain ⟨i0, hi, hz0, hz1, hz2⟩ := info_parts info_u8'
  obtain ⟨_, _, h3⟩ := Kd.reads_of_C (d := (0 : Int)) hC
  obtain ⟨ad, rfl, hc⟩ := h3 (by omega)
  refine step_append_lies W hgd (.const (.slice none 0 0)) x 22 ho W.heap.size 5 i0 (.int .u8 0) 1 1 Tryd.underlying22 hi hz0 hz1 hz2 rfl (by decide) (.slice none 0 0) 0 [] rfl (World.ownsRow_nil _ _ _ _) ad l.length c (l.map (fun x => .int .u8 x)) hx (by rw [List.length_map, Nat.mul_one]) ?_ ?_ (by omega) (by unfold maxLen; omega) (by omega) (Nat.le_refl _) _ rfl ?_
  · intro j u hu
    rw [List.getElem?_map] at hu
    by_cases hj : j < l.length
    · rw [List.getElem?_eq_getElem hj, Option.map_some] at hu
      rw [hc j hj, List.getD_eq_getElem?_getD, List.getElem?_eq_getElem hj]
      exact hu
    · rw [List.getElem?_eq_none (by omega)] at hu
      cases hu
  · intro u hu
    obtain ⟨b, _, rfl⟩ := List.mem_map.mp hu
    rfl
  · intro g cap w' ho2 hg ha hlt
    rw [Nat.zero_add, List.nil_append] at ho2
    rw [Nat.zero_add]
    exact h g cap w' (Byt.of_own ho2 rfl hl hok) ((Below.refl _ _).grown hg (Nat.le_refl _) (by intro k hk; cases hk))
theorem Dk.elN {T : TypeId} {w : World} {o : Own} {s : DS} (h : Dk ok T w o s) {i : Nat} (hi : i < s.now.length) : ∃ q c, w.cell? ⟨o.bn, i, none⟩ = some (.slice (some ⟨q, 0, none⟩) (s.now.getD i []).length c) ∧ Kd.C (Kd.int .u8) w (some ⟨q, 0, none⟩) (s.now.getD i []).length (s.now.getD i []) ∧ (s.now.getD i []).length = 512 := by
  obtain ⟨vs, r, b⟩ := h.vn
  obtain ⟨u, hu, hb⟩ := b.at hi
  rw [List.getD_eq_getElem?_getD, List.getElem?_eq_getElem hi]
  obtain ⟨q, c, rfl, _, hC⟩ := hb.reads
  exact ⟨q, c, r.cell hu, hC, by obtain ⟨_, _, _, _, _, hl, _⟩ := hb; exact hl⟩
theorem Dk.elF {T : TypeId} {w : World} {o : Own} {s : DS} (h : Dk ok T w o s) {i : Nat} (hi : i < s.now.length) : ∃ q c, w.cell? ⟨o.bf, i, none⟩ = some (.slice (some ⟨q, 0, none⟩) (s.firm.getD i []).length c) ∧ Kd.C (Kd.int .u8) w (some ⟨q, 0, none⟩) (s.firm.getD i []).length (s.firm.getD i []) ∧ (s.firm.getD i []).length = 512 := by
  obtain ⟨vs, r, b⟩ := h.vf
  have hi2 : i < s.firm.length := by rw [h.nf]; exact hi
  obtain ⟨u, hu, hb⟩ := b.at hi2
  rw [List.getD_eq_getElem?_getD, List.getElem?_eq_getElem hi2]
  obtain ⟨q, c, rfl, _, hC⟩ := hb.reads
  exact ⟨q, c, r.cell hu, hC, by obtain ⟨_, _, _, _, _, hl, _⟩ := hb; exact hl⟩

set_option maxHeartbeats 8000000 in
set_option maxRecDepth 100000 in
theorem Rk_There.calls (o : Own) (s : DS) (w : World) (h : Dk ok 64 w o s) (i : Int) :
    Calls Tryd.prog 38 #[.pointer (some ⟨o.g, 0, none⟩), .int .i64 i] w fun e w' => e = .returned (.bool (decide (0 ≤ i ∧ i < (s.now.length : Int)))) ∧ w' = w := by
  have f0 := h.c0 rfl
  have f1 := h.c1 rfl
  have f2 := h.c2 rfl
  by_cases h1 : 0 ≤ i
  · have c1 : decide (i ≥ 0) = true := decide_eq_true h1
    have c2 : decide (0 ≤ i) = true := decide_eq_true h1
    by_cases h2 : i < (s.now.length : Int)
    · have c3 : decide (i < (s.now.length : Int)) = true := decide_eq_true h2
      rw [decide_eq_true (And.intro h1 h2)]
      clear h
      go_enter Tryd.func38, Tryd.ntmps38
      go_wp2
      go_ret
      exact ⟨rfl, rfl⟩
    · have c3 : decide (i < (s.now.length : Int)) = false := decide_eq_false h2
      rw [decide_eq_false (fun hh => h2 hh.2)]
      clear h
      go_enter Tryd.func38, Tryd.ntmps38
      go_wp2
      go_ret
      exact ⟨rfl, rfl⟩
  · have c1 : decide (i ≥ 0) = false := decide_eq_false h1
    have c2 : decide (0 ≤ i) = false := decide_eq_false h1
    rw [decide_eq_false (fun hh => h1 hh.1)]
    clear h
    go_enter Tryd.func38, Tryd.ntmps38
    go_wp2
    go_ret
    exact ⟨rfl, rfl⟩

set_option maxHeartbeats 8000000 in
set_option maxRecDepth 100000 in
theorem Rk_WriteBad.calls (o : Own) (s : DS) (w : World) (h : Dk ok 64 w o s) (A : Option Addr) (n c : Nat) (i : Int) (hi : i < 0 ∨ (s.now.length : Int) ≤ i) :
    Calls Tryd.prog 33 #[.pointer (some ⟨o.g, 0, none⟩), .int .i64 i, .slice A n c] w fun e w' => e = .returned (.int .i64 2) ∧ w' = w := by
  have HT := Aside0.mk (Rk_There.calls o s w h i)
  rw [decide_eq_false (by omega)] at HT
  clear h hi
  go_enter Tryd.func33, Tryd.ntmps33
  go_wp2_with (first | (go_at_call 38; refine HT.out.mono ?_; rintro e w2 ⟨rfl, rfl⟩))
  go_ret
  exact ⟨rfl, rfl⟩

set_option maxHeartbeats 8000000 in
set_option maxRecDepth 100000 in
theorem Rk_WriteSize.calls (o : Own) (s : DS) (w : World) (h : Dk ok 64 w o s) (A : Option Addr) (n c : Nat) (i : Nat) (hi : i < s.now.length) (hn : n ≠ 512) :
    Calls Tryd.prog 33 #[.pointer (some ⟨o.g, 0, none⟩), .int .i64 (i : Int), .slice A n c] w fun e w' => e = .returned (.int .i64 3) ∧ w' = w := by
  have HT := Aside0.mk (Rk_There.calls o s w h i)
  rw [decide_eq_true (by omega)] at HT
  have c1 : decide ((n : Int) = 512) = false := decide_eq_false (by omega)
  have c2 : ((n : Int) == 512) = false := beq_eq_false_iff_ne.mpr (by omega)
  have c3 : ((n : Int) != 512) = true := bne_iff_ne.mpr (by omega)
  clear h hi
  go_enter Tryd.func33, Tryd.ntmps33
  go_wp2_with (first | (go_at_call 38; refine HT.out.mono ?_; rintro e w2 ⟨rfl, rfl⟩))
  go_ret
  exact ⟨rfl, rfl⟩

set_option maxHeartbeats 8000000 in
set_option maxRecDepth 100000 in
theorem Rk_WriteOk.calls (o : Own) (s : DS) (w : World) (h : Dk ok 64 w o s) (A : Option Addr) (c : Nat) (l : List Int) (hC : Kd.C (Kd.int .u8) w A l.length l) (hl : l.length = 512) (i : Nat) (hi : i < s.now.length) (hok : ∀ k, w.heap.size ≤ k → ok k) :
    Calls Tryd.prog 33 #[.pointer (some ⟨o.g, 0, none⟩), .int .i64 (i : Int), .slice A l.length c] w fun e w' => e = .returned (.int .i64 0) ∧ Dk ok 64 w' o { s with now := s.now.set i l, dirty := s.dirty.set i true } ∧ Keeps o.has w w' := by
  have HT := Aside0.mk (Rk_There.calls o s w h i)
  rw [decide_eq_true (by omega)] at HT
  have HD := Aside0.mk h
  have HI := Aside0.mk hi
  have HL := Aside0.mk hl
  have c1 : decide ((l.length : Int) = 512) = true := decide_eq_true (by omega)
  have c2 : ((l.length : Int) == 512) = true := beq_iff_eq.mpr (by omega)
  have c3 : ((l.length : Int) != 512) = false := bne_eq_false_iff_eq.mpr (by omega)
  have f0 := h.c0 rfl
  have f1 := h.c1 rfl
  have f2 := h.c2 rfl
  have p1 : (0 : Int) ≤ (i : Int) := by omega
  have p2 : (i : Int) < (s.now.length : Int) := by omega
  have ab := add_plain o.bn i
  have adp := add_plain o.bd i
  have HC := Aside0.mk hC
  have HOK := Aside0.mk hok
  clear h hi hl hC hok
  go_enter Tryd.func33, Tryd.ntmps33
  go_wp2_with (first | (go_at_call 38; refine HT.out.mono ?_; rintro e w2 ⟨rfl, hw⟩; replace hw := hw.symm; subst hw))
  go_region_held3 (fun w' => w'.cell? ⟨o.g, 0, none⟩ = some (.slice (some ⟨o.bn, 0, none⟩) s.now.length o.cn)) (first | exact S1 | exact S2.out | go_keep) (first | (refine copy_step _ rfl (.tmp 19) rfl A c l rfl (Kd.C_drew HC.out) HL.out HOK.out ?_; intro g1 cap1 w1 hb1 hbel; have hbel := Below.trans (Below.drew (Below.refl _ _)) hbel; have HB1 : Aside0 (Below w.heap.size w w1) := ⟨hbel⟩; have D1 := Aside0.mk (HD.out.below hbel); have S1 := D1.out.c0 rfl; have D2 := Aside0.mk (D1.out.setN (by decide) hb1 i); have S2 := Aside0.mk (D2.out.c0 List.length_set); obtain ⟨u1, k1, z1⟩ := D1.out.kn HI.out; clear hb1 hbel))
  have q2 := D2.out.drew.c2 List.length_set
  obtain ⟨u2, _, k2, z2⟩ := D2.out.drew.kd (i := i) (by rw [List.length_set]; exact HI.out)
  have q2' : ((w1.setCell ⟨o.bn, i, none⟩ (.slice (some ⟨g1, 0, none⟩) l.length cap1))).cell? ⟨o.g, 2, none⟩ = some (.slice (some ⟨o.bd, 0, none⟩) s.now.length o.cd) := q2
  have k2' : ((w1.setCell ⟨o.bn, i, none⟩ (.slice (some ⟨g1, 0, none⟩) l.length cap1))).cell? ⟨o.bd, i, none⟩ = some (.bool u2) := k2
  have z2' : ((w1.setCell ⟨o.bn, i, none⟩ (.slice (some ⟨g1, 0, none⟩) l.length cap1))).frozen? ⟨o.bd, i, none⟩ = false := z2
  go_wp2
  go_ret
  exact ⟨rfl, D2.out.setD (by decide) true i, ((Keeps.of_below HB1.out).trans (Keeps.set _ _ o.bn i _ (.inr (.inl rfl)))).trans (Keeps.set _ _ o.bd i _ (.inr (.inr (.inr rfl))))⟩

end

end Go.Proofs.YtagijaijjjaolaaDoor.PBL
