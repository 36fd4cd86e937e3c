import Derived.Test.YtggiddekbocokaaDoorPLHx
import Derived.Test.YtggiddekbocokaaDoorLayM
import Derived.Test.YtggiddekbocokaaDoorLayB
namespace Go.Proofs.YtggiddekbocokaaDoor.PLH
open Go.RowKit Go.Proofs.YtggiddekbocokaaDoorW.PrintWords Go.Proofs.YtggiddekbocokaaDoorW.PrintLast Go.Proofs.YtggiddekbocokaaDoorW.PrintMore
attribute [local go_sem] max2_int min2_int max_two min_two max_three min_three max_four min_four
set_option linter.unusedVariables false
set_option linter.unusedSimpArgs false
section
theorem below_undrew {w w' : World} (h : Below w.drew.heap.size w.drew w') : Below w.heap.size w w' := ⟨h.os, h.tape, h.output, h.size, h.block⟩
/-- A store into a row of a row of rows: what is told ahead of it, and what the whole is behind it. -/
theorem put2 {W : World} {base e e2 n cap : Nat} {ad : Addr} {ws : List (List Int)} (h : Kd.S (Kd.slice e2 (Kd.int .i64)) e W base (fun _ => True) (.slice (some ad) n cap) ws) (i : Nat) (hi : i < n) (j : Nat) (hj : j < (ws.getD i []).length) :
    ∃ g c, W.cell? (ad.add i) = some (.slice (some ⟨g, 0, none⟩) (ws.getD i []).length c) ∧ base ≤ g ∧ (∃ cells, W.heap[g]? = some (.cells cells e2 (0, 0))) ∧ W.cell? ⟨g, j, none⟩ = some (.int .i64 ((ws.getD i []).getD j 0)) ∧ W.frozen? ⟨g, j, none⟩ = false ∧
      ∀ x : Int, Kd.S (Kd.slice e2 (Kd.int .i64)) e (W.setCell ⟨g, j, none⟩ (.int .i64 x)) base (fun _ => True) (.slice (some ad) n cap) (ws.set i ((ws.getD i []).set j x)) := by
  obtain ⟨oki, c, hcl, hM, hcc, hoki, hput⟩ := Kd.S_borrow h ([] : List Int) (i : Int) (by omega) (by omega)
  rw [Int.toNat_natCast] at hM hcc hput
  obtain ⟨v, rfl, hR⟩ := hM
  obtain ⟨g, cc, rfl, hg0, hg1, cells, hgc⟩ := Kd.R_form hR (by omega)
  obtain ⟨q1, q2⟩ := Kd.R_celln 0 hR (j : Int) (by omega) (by omega)
  rw [Int.toNat_natCast] at q1 q2
  refine ⟨g, cc, ?_, hg0, ⟨cells, hgc⟩, ?_, q2, fun x => ?_⟩
  · have := hcc 0 _ rfl
    have h1 : i * (Kd.slice e2 (Kd.int .i64)).sz + 0 = i := by show i * 1 + 0 = i; omega
    rw [h1] at this
    exact this
  · rw [q1]
    unfold rdOf
    rw [Int.toNat_natCast]
  · obtain ⟨p1, p2⟩ := Kd.R_putg hR (j : Int) x
    rw [Int.toNat_natCast] at p1 p2
    refine hput p2 (fun k hk => ?_) ?_
    · obtain rfl := Option.some.inj hk
      exact hR.1 g (by simp [Value.ownBlock])
    · refine ⟨_, rfl, ?_⟩
      have e3 : (Value.slice (some ⟨g, 0, none⟩) (ws.getD i []).length cc) = .slice (some ⟨g, 0, none⟩) (ws.getD i []).length cc := rfl
      exact p1
/-- The same where the inner row is known already. -/
theorem put2w {W : World} {base e e2 n cap gw g c n2 : Nat} {ws : List (List Int)} (h : Kd.S (Kd.slice e2 (Kd.int .i64)) e W base (fun _ => True) (.slice (some ⟨gw, 0, none⟩) n cap) ws) (i : Nat) (hi : i < n) (j : Nat) (hj : j < n2) (hl : (ws.getD i []).length = n2) (hcell : W.cell? ⟨gw, i, none⟩ = some (.slice (some ⟨g, 0, none⟩) n2 c)) :
    base ≤ g ∧ (∃ cells, W.heap[g]? = some (.cells cells e2 (0, 0))) ∧ W.cell? ⟨g, j, none⟩ = some (.int .i64 ((ws.getD i []).getD j 0)) ∧ W.frozen? ⟨g, j, none⟩ = false ∧
      ∀ x : Int, Kd.S (Kd.slice e2 (Kd.int .i64)) e (W.setCell ⟨g, j, none⟩ (.int .i64 x)) base (fun _ => True) (.slice (some ⟨gw, 0, none⟩) n cap) (ws.set i ((ws.getD i []).set j x)) := by
  obtain ⟨g', c', q1, q2, q3, q4, q5, q6⟩ := put2 h i hi j (by omega)
  rw [add_plain, hl, hcell] at q1
  injection q1 with q1
  injection q1 with q1 _ _
  injection q1 with q1
  injection q1 with q1 _ _
  subst q1
  exact ⟨q2, q3, q4, q5, q6⟩
theorem cell2 {W : World} {base e e2 n cap gw n2 : Nat} {ws : List (List Int)} (h : Kd.S (Kd.slice e2 (Kd.int .i64)) e W base (fun _ => True) (.slice (some ⟨gw, 0, none⟩) n cap) ws) (i : Nat) (hi : i < n) (hn : 0 < n2) (hl : (ws.getD i []).length = n2) : ∃ g c, W.cell? ⟨gw, i, none⟩ = some (.slice (some ⟨g, 0, none⟩) n2 c) := by
  obtain ⟨g', c', q1, _⟩ := put2 h i hi 0 (by omega)
  rw [add_plain, hl] at q1
  exact ⟨g', c', q1⟩
theorem far2 {W : World} {base e e2 n cap gw g i j : Nat} {ws : List (List Int)} {v : Value} (h : Kd.S (Kd.slice e2 (Kd.int .i64)) e W base (fun _ => True) (.slice (some ⟨gw, 0, none⟩) n cap) ws) (he : e ≠ e2) (ht : ∃ cells, W.heap[g]? = some (.cells cells e2 (0, 0))) (hc : W.cell? ⟨gw, i, none⟩ = some v) (u : Value) : (W.setCell ⟨g, j, none⟩ u).cell? ⟨gw, i, none⟩ = some v := by
  obtain ⟨cells, hcs⟩ := ht
  obtain ⟨cells', hcs'⟩ := Kd.S_typed h gw (by simp [Value.ownBlock])
  have hne : gw ≠ g := by
    rintro rfl
    rw [hcs] at hcs'
    injection hcs' with q
    injection q with _ q _
    exact he q.symm
  have := Below.heap_setCell W ⟨g, j, none⟩ u gw hne
  simpa [World.cell?, this] using hc
end
section
/-- A poly that may be laid. -/
def okL (m : Int) (f : List Int) : Prop := f.length = 256 ∧ ∀ x ∈ f, 0 ≤ x ∧ x < m
theorem okL.set {m : Int} {f : List Int} (h : okL m f) (k : Nat) {x : Int} (hx : 0 ≤ x ∧ x < m) : okL m (f.set k x) := ⟨List.length_set.trans h.1, fun y hy => by
  rcases List.mem_or_eq_of_mem_set hy with e | e
  · exact h.2 y e
  · rw [e]; exact hx⟩
theorem okL_fit {m d : Nat} (hmd : m ≤ 2 ^ d) {f : List Int} (h : okL m f) : PackH.fit d f := fun x hx => by
  have h1 := h.2 x hx
  have h3 : (m : Int) ≤ ((2 ^ d : Nat) : Int) := by exact_mod_cast hmd
  exact ⟨h1.1, by omega⟩
theorem pkL_len {d : Nat} {m : Int} {f : List Int} (h : okL m f) : (LayM.pk d f).length = 32 * d := by
  unfold LayM.pk
  rw [PackH.digs_len, h.1]
  omega
theorem flat_len {d : Nat} {m : Int} : ∀ (ws : List (List Int)), (∀ f ∈ ws, okL m f) → (ws.flatMap (LayM.pk d)).length = 32 * d * ws.length
  | [], _ => by simp
  | f :: r, h => by
    rw [List.flatMap_cons, List.length_append, pkL_len (h f (by simp)), flat_len r (fun g hg => h g (by simp [hg])), List.length_cons, Nat.mul_add, Nat.mul_one, Nat.add_comm]
theorem pkL_f {k m d : Nat} (hd : 1 ≤ d ∧ d ≤ 24) (hmd : m ≤ 2 ^ d) {f : List Int} (h : okL m f) (hk : 2000 < k) : bits_Pack.f k (d : Int) f = some (LayM.pk d f) :=
  PackH.pack_ok k d hd.1 hd.2 f (okL_fit hmd h) (by rw [h.1]; decide) (by rw [h.1]; omega)
theorem long_is {m : Nat} (b d : Nat) (hm : m = b + 1) (h0 : 0 < b) (hb : b < 16777216) (h1 : b < 2 ^ d) (h2 : 2 ^ (d - 1) ≤ b) (hd : 1 ≤ d) : ∀ k, lay_long.f (k + 3) 0 (wrap64 ((m : Int) - 1)) = some (d : Int) := fun k => by
  obtain ⟨d', e1, e2, e3, e4, hk⟩ := PackH.long_ok 0 b (by omega) (by omega)
  rw [Nat.zero_add] at e3 e4
  have hdd : d' = d := by
    rcases Nat.lt_trichotomy d' d with h | h | h
    · have := Nat.pow_le_pow_right (n := 2) (by decide) (show d' ≤ d - 1 by omega)
      omega
    · exact h
    · have := Nat.pow_le_pow_right (n := 2) (by decide) (show d ≤ d' - 1 by omega)
      omega
  rw [PackH.w64 (by omega) (by omega), show (m : Int) - 1 = (b : Int) by omega, ← hdd]
  exact hk (k + 2)
def par1 : LayM.Par := ⟨1, 4, 95232, 44, 6, by decide, by decide, by decide, by unfold wrap64; decide, by unfold wrap64; decide, by decide, ⟨_, _, _, _, _, _, _, rfl⟩, long_is (m := 44) 43 6 rfl (by decide) (by decide) (by decide) (by decide) (by decide)⟩
def par2 : LayM.Par := ⟨2, 6, 261888, 16, 4, by decide, by decide, by decide, by unfold wrap64; decide, by unfold wrap64; decide, by decide, ⟨_, _, _, _, _, _, _, rfl⟩, long_is (m := 16) 15 4 rfl (by decide) (by decide) (by decide) (by decide) (by decide)⟩
def par3 : LayM.Par := ⟨3, 8, 261888, 16, 4, by decide, by decide, by decide, by unfold wrap64; decide, by unfold wrap64; decide, by decide, ⟨_, _, _, _, _, _, _, rfl⟩, long_is (m := 16) 15 4 rfl (by decide) (by decide) (by decide) (by decide) (by decide)⟩
theorem err_nil {base : Nat} {ok : Nat → Prop} {w : World} {v : Value} (h : Kd.R k67 67 w base ok (eRow v) []) : v = .nilIface := by
  obtain ⟨inner, ho⟩ := Kd.R_own h
  rcases eRow_inv ho with h | ⟨g, cur, _, h, _⟩
  · exact h.1
  · cases h
theorem err_one {base : Nat} {ok : Nat → Prop} {w : World} {v : Value} {x : S67} (h : Kd.R k67 67 w base ok (eRow v) [x]) : ∃ g, v = .iface 63 (.pointer (some ⟨g, 0, none⟩)) := by
  obtain ⟨inner, ho⟩ := Kd.R_own h
  rcases eRow_inv ho with h | ⟨g, cur, h, _⟩
  · cases h.2
  · exact ⟨g, h⟩
theorem set_len (l : List (List Int)) (a b i : Nat) (x : Int) : ((l.set a ((l.getD a []).set b x)).getD i []).length = (l.getD i []).length := by
  rw [List.getD_eq_getElem?_getD, List.getElem?_set]
  by_cases e : a = i
  · subst e
    by_cases h : a < l.length
    · rw [if_pos rfl, if_pos h]
      exact List.length_set
    · rw [if_pos rfl, if_neg h, List.getD_eq_getElem?_getD, List.getElem?_eq_none (by omega)]
  · rw [if_neg e, List.getD_eq_getElem?_getD]
theorem len_s {l : List (List Int)} {n : Nat} (h : l.length = n) (i : Nat) (x : List Int) : (l.set i x).length = n := List.length_set.trans h
theorem bad_set (l : List (List Int)) (i j : Nat) (x m : Int) (hi : i < l.length) (hl : (l.getD i []).length = 256) (hj : j < 256) (hx : x < 0 ∨ m ≤ x) : ∃ f ∈ l.set i ((l.getD i []).set j x), lay_bad m f = true := by
  refine ⟨_, List.mem_set hi _, ?_⟩
  unfold lay_bad
  rw [Bool.or_eq_true]
  right
  rw [List.any_eq_true]
  refine ⟨x, List.mem_set (by rw [hl]; exact hj) _, ?_⟩
  simp only [lay_odd, Bool.or_eq_true, decide_eq_true_eq]
  omega
theorem ns_at {w : World} {G : Option Addr} {gs : List Int} (h : Kd.C (Kd.int .i64) w G gs.length gs) (j : Nat) (hj : j < gs.length) : ∃ ad x, G = some ad ∧ w.cell? (ad.add j) = some (.int .i64 x) := by
  obtain ⟨_, _, a3⟩ := Kd.reads_of_C (d := (0 : Int)) h
  obtain ⟨ad, e, hc⟩ := a3 (by omega)
  exact ⟨ad, _, e, hc j hj⟩
end
section
set_option maxHeartbeats 8000000 in
set_option maxRecDepth 100000 in
theorem LHgreat.calls (w : World) (hg_ : w.cell? ⟨0, 0, none⟩ = some (.iface 108 (.agg #[.pointer (some ⟨1, 33, none⟩)]))) (set_ at_ by_ : Int) (A : Option Addr) (n c : Nat) (hh : 100 < n) :
    Calls Tryd.prog 3 #[.int .i64 set_, .slice A n c, .int .i64 at_, .int .i64 by_] w fun e w' => e = .returned (.bool true) ∧ Below w.heap.size w w' := by
  have d1 : decide (100 < (n : Int)) = true := decide_eq_true (by omega)
  have d1' : decide (100 < n) = true := decide_eq_true (by omega)
  clear hh
  have HG := Aside0.mk hg_
  clear hg_
  go_enter Tryd.func3, Tryd.ntmps3
  go_wp2_with (first | (go_at_call 6; (with_reducible refine (chatelainelaw11_awake.calls 100000 true _ HG.out LayM.awake_yes).mono ?_); rintro e w2 ⟨rfl, hb2⟩))
  go_ret
  exact ⟨rfl, hb2⟩
set_option maxHeartbeats 8000000 in
set_option maxRecDepth 100000 in
theorem LHnil.calls (w : World) (hg_ : w.cell? ⟨0, 0, none⟩ = some (.iface 108 (.agg #[.pointer (some ⟨1, 33, none⟩)]))) (set_ at_ by_ : Int) (A : Option Addr) (n c : Nat) (hh : n = 0) :
    Calls Tryd.prog 3 #[.int .i64 set_, .slice A n c, .int .i64 at_, .int .i64 by_] w fun e w' => e = .returned (.bool true) ∧ Below w.heap.size w w' := by
  subst hh
  have HG := Aside0.mk hg_
  clear hg_
  go_enter Tryd.func3, Tryd.ntmps3
  go_wp2_with (first | (go_at_call 6; (with_reducible refine (chatelainelaw11_awake.calls 100000 true _ HG.out LayM.awake_yes).mono ?_); rintro e w2 ⟨rfl, hb2⟩))
  go_ret
  exact ⟨rfl, hb2⟩
set_option maxHeartbeats 8000000 in
set_option maxRecDepth 100000 in
theorem LH1.calls (w : World) (hg_ : w.cell? ⟨0, 0, none⟩ = some (.iface 108 (.agg #[.pointer (some ⟨1, 33, none⟩)]))) (set_ at_ by_ : Int) (A : Option Addr) (c : Nat) (ns : List Int) (hC : Kd.C (Kd.int .i64) w A ns.length ns) (hc : ns.length ≤ c) (h1 : 0 < ns.length) (h2 : ns.length ≤ 100) (hlow : chatelainelaw0_Low.f set_ 3 = some 0) :
    Calls Tryd.prog 3 #[.int .i64 set_, .slice A ns.length c, .int .i64 at_, .int .i64 by_] w fun e w' => e = .returned (.bool true) ∧ Below w.heap.size w w' := by
  have d1 : decide (100 < (ns.length : Int)) = false := decide_eq_false (by omega)
  have d1' : decide (100 < ns.length) = false := decide_eq_false (by omega)
  have d2 : ((ns.length : Int) == 0) = false := by rw [beq_eq_false_iff_ne]; omega
  have HG := Aside0.mk hg_
  have HC := Aside0.mk hC
  have Hc := Aside0.mk hc
  have HL := Aside0.mk (And.intro h1 h2)
  have HLOW := Aside0.mk hlow
  have OF : Aside0 (∀ w', Calls Tryd.prog 8 #[.int .i64 1] w' fun e w'' => e = .returned (.tuple #[.agg #[.int .i64 4, .int .i64 4, .int .i64 2, .int .i64 39, .int .i64 78, .int .i64 80, .int .i64 131072, .int .i64 95232, .int .i64 32], .bool true]) ∧ Below w'.heap.size w' w'') := ⟨fun w' => lay_Of.calls 1 4 4 2 39 78 80 131072 95232 32 true w' rfl⟩
  clear hg_ hC hc hlow
  go_enter Tryd.func3, Tryd.ntmps3
  go_wp2_with (first | (go_at_call 8; (with_reducible refine (OF.out _).mono ?_); rintro e w2 ⟨rfl, hb2⟩; have B2 := Aside0.mk (below_step B1.out hb2); clear hb2) | (go_at_call 7; (with_reducible refine (chatelainelaw0_Low.calls _ _ _ _ HLOW.out).mono ?_); rintro e w1 ⟨rfl, hd1⟩; have B1 := Aside0.mk hd1.below; clear hd1))
  obtain ⟨w0, hw0⟩ : ∃ w0, w0 = w2.alloc (.cells #[.int .i64 4, .int .i64 4, .int .i64 2, .int .i64 39, .int .i64 78, .int .i64 80, .int .i64 131072, .int .i64 95232, .int .i64 32] 26 (0, 0)) := ⟨_, rfl⟩
  have B0 : Aside0 (Below w.heap.size w w0) := ⟨by rw [hw0]; exact below_alloc B2.out _⟩
  have P0 : Aside0 (w0.cell? ⟨w2.heap.size, 0, none⟩ = some (.int .i64 4)) := ⟨by rw [hw0]; exact (blk_cell (blk_new _ _) 0).trans rfl⟩
  rw [← hw0]
  clear hw0
  have LOWA : Aside0 (∀ a w', Calls Tryd.prog 7 #[.int .i64 a, .int .i64 44] w' fun e w'' => ∃ r : Nat, r < 44 ∧ e = .returned (.int .i64 (r : Int)) ∧ Below w'.heap.size w' w'') := ⟨fun a w' => by
    obtain ⟨r, hr, hf⟩ := LayM.low_ok a 44 (by decide) (by decide)
    exact (chatelainelaw0_Low.calls _ _ _ w' hf).mono fun e w'' h => ⟨r, hr, h.1, h.2.below⟩⟩
  generalize w2.heap.size = gp at *
  go_loopg [13, 14, 15] 4 (fun kq v13 v14 v15 w' => ∃ (i : Nat) (ws : List (List Int)), v15 = .int .i64 (i : Int) ∧ Aside0 (i + kq = 4 ∧ ws.length = i ∧ ∀ f ∈ ws, okL 44 f) ∧ Aside0 (Kd.S (Kd.slice 3 (Kd.int .i64)) 22 w' w0.heap.size (fun _ => True) v13 ws) ∧ Aside0 (Kd.R (Kd.int .u8) 5 w' w0.heap.size (fun _ => True) v14 (ws.flatMap (LayM.pk 6))) ∧ Aside0 (Below w0.heap.size w0 w'))
  case atStart => exact ⟨0, [], rfl, ⟨by omega, rfl, fun f hf => absurd hf (by simp)⟩, ⟨Kd.S_nil _ _ _ _ _⟩, ⟨Kd.R_nil _ _ _ _ _⟩, ⟨Below.refl _ _⟩⟩
  case round =>
    obtain ⟨i, ws, rfl, HJ, SW, RW, HB⟩ := hrel
    have hp := pw_cell_below HB.out P0.out
    by_cases ci : i < 4
    · have z1 : decide ((i : Int) < 4) = true := decide_eq_true (by omega)
      have z1' : decide (i < 4) = true := decide_eq_true ci
      cases gk with
      | zero => have := HJ.out.1; omega
      | succ k1 =>
        go_wp2_with (first | ((with_reducible refine gate_dst (N := 72) rfl ?_); refine Kd.R_make (Kd.int .i64) _ 3 rfl (N := 72) rfl 22 _ _ rfl 256 rfl rfl Tryd.underlying22 (.int .i64 0) 8 info3 rfl (by decide) (by omega) 0 (ok := fun _ => True) (okp := fun _ => True) rfl (fun _ hk => hk) trivial (by omega) (by omega) (Below.refl _ _) (Nat.le_refl _) ?_; intro v5 w5 ho hb hg_ hnew_; clear hg_ hnew_; simp only [Int.reduceToNat] at ho; have BF := Aside0.mk hb; obtain ⟨A5, c5, rfl⟩ := Kd.R_slice ho; simp only [List.length_replicate] at ho; rw [List.length_replicate]; have RF := Aside0.mk ho; clear ho hb))
        obtain ⟨gf, cf, ef, gb, gl, cl, HGf⟩ := Kd.R_form RF.out (by rw [List.length_replicate]; decide)
        (first | cases ef | (injection ef with ea_ en_ ec_; (first | subst ea_ | (injection ea_ with ea_; subst ea_)); subst ec_; clear en_))
        have GF : Aside0 (wr.heap.size ≤ gf) := ⟨gb⟩
        clear gb gl HGf
        have HBW := Aside0.mk (below_step B0.out HB.out)
        have HCI := Aside0.mk ci
        have OK0 : Aside0 (okL 44 (List.replicate 256 0)) := ⟨⟨List.length_replicate, fun x hx => by rw [List.eq_of_mem_replicate hx]; decide⟩⟩
        go_loopg [17] 256 (fun kq v17 w' => ∃ (k : Nat) (fs : List Int), v17 = .int .i64 (k : Int) ∧ Aside0 (k + kq = 256 ∧ okL 44 fs) ∧ Aside0 (Kd.R (Kd.int .i64) 3 w' wr.heap.size (fun _ => True) (.slice (some ⟨gf, 0, none⟩) 256 c5) fs) ∧ Aside0 (Below wr.heap.size wr w'))
        case atStart => exact ⟨0, _, rfl, ⟨by omega, OK0.out⟩, RF, BF⟩
        case round =>
          clear RF BF OK0
          obtain ⟨k, fs, rfl, HK, RF, BF⟩ := hrel
          by_cases ck : k < 256
          · have u1 : decide ((k : Int) < 256) = true := decide_eq_true (by omega)
            have u1' : decide (k < 256) = true := decide_eq_true ck
            cases gk with
            | zero => have := HK.out.1; omega
            | succ k2 =>
              have BX := Aside0.mk (below_step HBW.out BF.out)
              obtain ⟨y, hy⟩ : ∃ y : Nat, y = k % ns.length := ⟨_, rfl⟩
              have hyl : y < ns.length := by rw [hy]; exact Nat.mod_lt _ (by omega)
              have ty : Int.tmod (k : Int) (ns.length : Int) = (y : Int) := by rw [Int.tmod_eq_emod_of_nonneg (by omega), hy]; omega
              obtain ⟨ad, xg, rfl, hxg⟩ := ns_at HC.out y hyl
              replace hxg := pw_cell_below BX.out hxg
              have v1 : ((ns.length : Int) = 0) = False := eq_false (by omega)
              have v2 : (0 ≤ (y : Int)) = True := eq_true (by omega)
              have v3 : ((y : Int) < (ns.length : Int)) = True := eq_true (by omega)
              have v4 : (0 ≤ (k : Int)) = True := eq_true (by omega)
              have v5 : ((k : Int) < 256) = True := eq_true (by omega)
              have HK0 : Aside0 (0 ≤ (k : Int) ∧ (k : Int) < ((256 : Nat) : Int)) := ⟨by omega⟩
              have HCK := Aside0.mk ck
              clear hy
              go_wp2_with (first | (go_at_call 7; (with_reducible refine (LOWA.out _ _).mono ?_); rintro e w6 ⟨x, hx, rfl, hb6⟩; have RF6 := Aside0.mk (Kd.R_below RF.out hb6); have BF6 := Aside0.mk (below_step BF.out hb6); have HX := Aside0.mk hx; obtain ⟨hq, hfq⟩ := Kd.R_celln 0 RF6.out (k : Int) HK0.out.1 HK0.out.2; rw [Int.toNat_natCast] at hq hfq; clear hb6 hx))
              go_roundg k2
              case measure => omega
              case rel => exact ⟨k + 1, fs.set k (x : Int), (by
                have hw : wrap64 ((k : Int) + 1) = ((k + 1 : Nat) : Int) := by have := HCK.out; unfold wrap64; omega
                first | rfl | (rw [← hw]; rfl) | (simp [*]; done)), ⟨by have := HK.out.1; omega, HK.out.2.set k ⟨by omega, by have := HX.out; omega⟩⟩, ⟨by have := Kd.R_putn RF6.out (k : Int) (x : Int); rw [Int.toNat_natCast] at this; exact this⟩, ⟨below_set BF6.out GF.out⟩⟩
          · have u1 : decide ((k : Int) < 256) = false := decide_eq_false (by omega)
            have u1' : decide (k < 256) = false := decide_eq_false ck
            clear ck
            have FV : Aside0 (∀ k, (Value.slice (some ⟨gf, 0, none⟩) 256 c5).ownBlock = some k → k = gf) := ⟨fun k h => by simpa [Value.ownBlock] using h.symm⟩
            have FV2 : Aside0 ((Value.slice (some ⟨gf, 0, none⟩) 256 c5).ownBlock = some gf) := ⟨by simp [Value.ownBlock]⟩
            have SO := Aside0.mk (Kd.S_old SW.out BF.out)
            have HB2 := Aside0.mk (below_step HB.out BF.out)
            have RF2 := Aside0.mk (Kd.R_lower RF.out HB.out.size)
            have RW2 := Aside0.mk (Kd.R_below RW.out BF.out)
            have RF3 := Aside0.mk (Kd.R_apart' RF2.out (Kd.S_typed SO.out) (by decide))
            have FL : Aside0 (fs.length = 256) := ⟨HK.out.2.1⟩
            have HW4 : Aside0 (ws.length ≤ 8) := ⟨by have := HJ.out.2.1; omega⟩
            obtain ⟨X, hX⟩ : ∃ X, X = ws.flatMap (LayM.pk 6) := ⟨_, rfl⟩
            obtain ⟨P, hP⟩ : ∃ P, P = LayM.pk 6 fs := ⟨_, rfl⟩
            rw [← hX] at RW2
            have HXL : Aside0 (X.length + P.length < 100000) := ⟨by
              rw [hX, hP, pkL_len (d := 6) HK.out.2, flat_len (d := 6) _ HJ.out.2.2]
              have := HW4.out
              omega⟩
            have HXP := Aside0.mk (And.intro hX hP)
            have PK : Aside0 (∀ w' A c, Kd.C (Kd.int .i64) w' A 256 fs → 256 ≤ c → Calls Tryd.prog 9 #[.int .i64 6, .slice A 256 c] w' fun e w'' => ∃ A' c', e = .returned (.slice A' P.length c') ∧ Kd.R (Kd.int .u8) 5 w'' w'.heap.size (fun _ => True) (.slice A' P.length c') P ∧ Below w'.heap.size w' w'') := ⟨fun w' A c h1 h2 => by
              have h3 := bits_Pack.calls 10000 6 A c fs (LayM.pk 6 fs) w' (by rw [FL.out]; exact h1) (by rw [FL.out]; exact h2) (pkL_f (by decide) (by decide) HK.out.2 (by decide))
              rw [FL.out] at h3
              refine h3.mono ?_
              rintro e w'' ⟨v, q1, q2, q3⟩
              rw [← HXP.out.2] at q2
              obtain ⟨A', c', rfl⟩ := Kd.R_slice q2
              exact ⟨A', c', q1, q2, q3⟩⟩
            have HC5 : Aside0 (256 ≤ c5) := ⟨(Kd.R_reads' RF.out).2.1⟩
            clear hX hP RW
            go_wp2_with (first | ((with_reducible refine gate_builtin (b := .append) (xs := #[.tmp 97, .tmp 100]) rfl ?_); at_builtin; refine Kd.R_append_rows (Kd.int .u8) (w0 := w0) w0.heap.size rfl (.tmp 97) (.tmp 100) 30 5 (.int .u8 0) 1 rfl Tryd.underlying30 info5 rfl (by decide) (by omega) u14 X P _ _ _ (fun k_ => some k_ ≠ (.slice A8 P.length c8 : Value).ownBlock) (fun _ => False) rfl rfl ?aO ?aR (fun _ _ h => h) (fun _ h => h.elim) ?aF ?aB ?aS ?aL ?_; (case aR => exact (Kd.R_reads' RP.out).2.2); (case aB => exact B8.out); (case aF => exact (fun k_ hk => Kd.fresh' (Kd.R_lt RP.out) k_ hk)); (case aO => exact (Kd.R_mono W8.out (fun _ hk => hk.2))); (case aS => exact B8.out.size); (case aL => have := HXL.out; omega); intro v9 w9 ho hb hg hat; have W9 := Aside0.mk (Kd.R_mono (ok' := fun _ => True) ho (fun _ _ => trivial)); have B9 := Aside0.mk hb; have S9 := Aside0.mk (Kd.S_over' S8.out (Kd.R_typed W8.out) (by decide) hg); clear ho hb hg hat) | (go_at_call 9; (with_reducible refine (PK.out _ _ _ (by have h_ := (Kd.R_reads' F7.out).2.2; rw [FL.out] at h_; exact h_) HC5.out).mono ?_); rintro e w8 ⟨A8, c8, rfl, hr8, hb8⟩; have RP := Aside0.mk hr8; have S8 := Aside0.mk (Kd.S_below S7.out hb8); have W8 := Aside0.mk (Kd.R_elder' W7.out (Kd.R_base hr8) hb8); have B8 := Aside0.mk (below_step B7.out hb8); clear hr8 hb8) | ((with_reducible refine gate_builtin (b := .append) (xs := #[.tmp 93, .tmp 95]) rfl ?_); at_builtin; refine Kd.S_append (Kd.slice 3 (Kd.int .i64)) (w0 := w0) w0.heap.size rfl (.tmp 93) (.tmp 95) 29 22 (.slice none 0 0) 24 rfl Tryd.underlying29 info22 rfl (by decide) (by omega) u13 ws fs [.slice (some ⟨gf, 0, none⟩) 256 c5] (fun _ => True) (fun k_ => some k_ = (.slice (some ⟨gf, 0, none⟩) 256 c5 : Value).ownBlock) rfl rfl ?aP (fun k_ hk_ => RF3.out.1 k_ hk_.symm) ?aF ?aO ?aB ?aS ?aL ?_; (case aP => exact Kd.M_row (Kd.R_mono (Kd.R_tight rfl RF3.out) (fun _ h_ => h_))); (case aB => exact HB2.out); (case aF => exact (fun _ _ => trivial)); (case aO => exact (Kd.S_mono SO.out (fun k_ hk => ⟨trivial, fun e_ => Nat.not_le.2 hk.2 (by have e2_ := FV.out k_ e_.symm; rw [e2_]; exact GF.out)⟩))); (case aS => exact HB2.out.size); (case aL => have := HW4.out; omega); intro v7 w7 ho hb hg hat; have S7 := Aside0.mk ho; have B7 := Aside0.mk hb; have F7 := Aside0.mk (Kd.R_grown RF3.out hg (fun k hk => hk.2)); have W7 := Aside0.mk (Kd.R_over' RW2.out (Kd.S_typed SO.out) (by decide) hg); clear ho hb hg hat))
            go_roundg k1
            case measure => omega
            case rel => exact ⟨i + 1, ws ++ [fs], (by
              have hw : wrap64 ((i : Int) + 1) = ((i + 1 : Nat) : Int) := by have := HCI.out; unfold wrap64; omega
              first | rfl | (rw [← hw]; rfl) | (simp [*]; done)), ⟨by have := HJ.out.1; omega, by rw [List.length_append, HJ.out.2.1]; rfl, fun f hf => by
                rcases List.mem_append.mp hf with h | h
                · exact HJ.out.2.2 f h
                · rw [List.mem_singleton.mp h]; exact HK.out.2⟩, S9, ⟨by rw [List.flatMap_append, List.flatMap_singleton, ← HXP.out.1, ← HXP.out.2]; exact W9.out⟩, B9⟩
    · have z1 : decide ((i : Int) < 4) = false := decide_eq_false (by omega)
      have z1' : decide (i < 4) = false := decide_eq_false ci
      have HWL : Aside0 (ws.length = 4) := ⟨by have := HJ.out; omega⟩
      have HOK : Aside0 (∀ f ∈ ws, okL 44 f) := ⟨HJ.out.2.2⟩
      have BLN : Aside0 ((ws.flatMap (LayM.pk 6)).length = 768) := ⟨by rw [flat_len (d := 6) _ HOK.out, HWL.out]⟩
      clear ci HJ
      have HY : Aside0 (∀ w' A c, Kd.C (Kd.slice 3 (Kd.int .i64)) w' A 4 ws → 4 ≤ c → Calls Tryd.prog 10 #[.int .i64 1, .slice A 4 c] w' fun e w'' => ∃ A' c', e = .returned (.tuple #[.slice A' 768 c', .nilIface]) ∧ Kd.R (Kd.int .u8) 5 w'' w'.heap.size (fun _ => True) (.slice A' 768 c') (ws.flatMap (LayM.pk 6)) ∧ Below w'.heap.size w' w'') := ⟨fun w' A c h1 h2 => by
        have h3 := lay_High.calls 10000 1 A c ws (ws.flatMap (LayM.pk 6)) [] w' (by rw [HWL.out]; exact h1) (by rw [HWL.out]; exact h2) (LayM.high_yes par1 10000 ws HOK.out HWL.out (by decide))
        rw [HWL.out] at h3
        refine h3.mono ?_
        rintro e w'' ⟨v0, v1, q1, q2, q3, q4⟩
        obtain rfl := err_nil q3
        obtain ⟨A', c', rfl⟩ := Kd.R_slice q2
        rw [BLN.out] at q1 q2
        exact ⟨A', c', q1, q2, q4⟩⟩
      have HN : Aside0 (∀ (l : List (List Int)) (n : Nat) w' A c, l.length = n → n < 1000 → Kd.C (Kd.slice 3 (Kd.int .i64)) w' A n l → n ≤ c → (n ≠ 4 ∨ ∃ f ∈ l, lay_bad 44 f = true) → Calls Tryd.prog 10 #[.int .i64 1, .slice A n c] w' fun e w'' => ∃ vb g, e = .returned (.tuple #[vb, .iface 63 (.pointer (some ⟨g, 0, none⟩))]) ∧ Kd.R k67 67 w'' w'.heap.size (fun _ => True) (eRow (.iface 63 (.pointer (some ⟨g, 0, none⟩)))) [⟨3, ⟨#[108, 97, 121]⟩⟩] ∧ Below w'.heap.size w' w'') := ⟨fun l n w' A c hn hn2 h1 h2 h4 => by
        subst hn
        obtain ⟨b, hb⟩ := LayM.high_no par1 10000 l hn2 h4
        refine (lay_High.calls 10000 1 A c l b _ w' h1 h2 hb).mono ?_
        rintro e w'' ⟨v0, v1, q1, q2, q3, q4⟩
        obtain ⟨g, rfl⟩ := err_one q3
        exact ⟨v0, g, q1, q3, q4⟩⟩
      obtain ⟨gw, cw, rfl, _, _, _⟩ := Kd.S_form SW.out (by rw [HWL.out]; decide)
      have SW0 := SW.out
      rw [HWL.out] at SW0 ⊢
      have SW1 : Aside0 (Kd.S (Kd.slice 3 (Kd.int .i64)) 22 wr w0.heap.size (fun _ => True) (.slice (some ⟨gw, 0, none⟩) 4 cw) ws) := ⟨SW0⟩
      clear SW0 SW
      have HCW : Aside0 (4 ≤ cw) := ⟨(Kd.S_reads' SW1.out).2.1⟩
      have SC : Aside0 (∀ w' (l : List (List Int)), l.length = 4 → Kd.S (Kd.slice 3 (Kd.int .i64)) 22 w' w0.heap.size (fun _ => True) (.slice (some ⟨gw, 0, none⟩) 4 cw) l → Kd.C (Kd.slice 3 (Kd.int .i64)) w' (some ⟨gw, 0, none⟩) 4 l) := ⟨fun w' l hl h => by
        have := (Kd.S_reads' h).2.2
        rw [hl] at this
        exact this⟩
      obtain ⟨AV, cv, rfl⟩ := Kd.R_slice RW.out
      have RW0 := RW.out
      rw [BLN.out] at RW0 ⊢
      have RW1 : Aside0 (Kd.R (Kd.int .u8) 5 wr w0.heap.size (fun _ => True) (.slice AV 768 cv) (ws.flatMap (LayM.pk 6))) := ⟨RW0⟩
      clear RW0 RW
      obtain ⟨ib, hib, _, hszb, _⟩ := info_parts info22
      have hcut := cut_from (P := Tryd.prog) 29 22 .i64 Tryd.underlying29 hib 1 hszb (some ⟨gw, 0, none⟩) 4 cw 1 (by decide) (by decide)
      obtain ⟨A1, hA1⟩ : ∃ X, X = (if cw = 1 then some (⟨gw, 0, none⟩ : Addr) else (some (⟨gw, 0, none⟩ : Addr)).map (·.add (1 * 1))) := ⟨_, rfl⟩
      simp only [show ((1 : Int)).toNat = 1 from rfl, ← hA1, show 4 - 1 = 3 from rfl] at hcut
      have DR : Aside0 (∀ w', Kd.C (Kd.slice 3 (Kd.int .i64)) w' (some ⟨gw, 0, none⟩) 4 ws → Kd.C (Kd.slice 3 (Kd.int .i64)) w' A1 3 (ws.drop 1)) := ⟨fun w' h => by
        rw [← HWL.out] at h
        have h2 := Kd.C_drop h (m := 1) (c := cw) (by rw [HWL.out]; decide) (by rw [HWL.out]; exact HCW.out)
        rw [List.length_drop, HWL.out] at h2
        rw [hA1]
        exact h2⟩
      have DL : Aside0 ((ws.drop 1).length = 3) := ⟨by rw [List.length_drop, HWL.out]⟩
      obtain ⟨a, ha, hfa⟩ := LayM.low_ok at_ 4 (by decide) (by decide)
      obtain ⟨r, hr, hfr⟩ := LayM.low_ok by_ 3 (by decide) (by decide)
      have LOWK : Aside0 (chatelainelaw0_Low.f at_ 4 = some (a : Int)) := ⟨hfa⟩
      have LOWR : Aside0 (chatelainelaw0_Low.f by_ 3 = some (r : Int)) := ⟨hfr⟩
      have LOWB : Aside0 (∀ x w', Calls Tryd.prog 7 #[.int .i64 x, .int .i64 256] w' fun e w'' => ∃ b : Nat, b < 256 ∧ e = .returned (.int .i64 (b : Int)) ∧ Below w'.heap.size w' w'') := ⟨fun x w' => by
        obtain ⟨b, hb, hf⟩ := LayM.low_ok x 256 (by decide) (by decide)
        exact (chatelainelaw0_Low.calls _ _ _ w' hf).mono fun e w'' h => ⟨b, hb, h.1, h.2.below⟩⟩
      have HA := Aside0.mk ha
      have hwr : IntKind.i64.wrap (44 + (r : Int)) = 44 + (r : Int) := (i64_w _).trans (PackH.w64 (by omega) (by omega))
      have ha2 : ((a : Int) < 4) = True := eq_true (by omega)
      have ha3 : (0 ≤ (a : Int)) = True := eq_true (by omega)
      have BAD : Aside0 (∀ (l : List (List Int)) (i j : Nat) (x : Int), i < l.length → (l.getD i []).length = 256 → j < 256 → (x < 0 ∨ 44 ≤ x) → ∃ f ∈ l.set i ((l.getD i []).set j x), lay_bad 44 f = true) := ⟨fun l i j x hi hl2 hj hx => bad_set l i j x 44 hi hl2 hj hx⟩
      have GL : Aside0 (∀ i, i < 4 → (ws.getD i []).length = 256) := ⟨fun i hi => by
        rw [List.getD_eq_getElem?_getD, List.getElem?_eq_getElem (by rw [HWL.out]; exact hi)]
        exact (HOK.out _ (List.getElem_mem _)).1⟩
      have SAME : Aside0 (∀ w' A c A' c', Kd.C (Kd.int .u8) w' A 768 (ws.flatMap (LayM.pk 6)) → 768 ≤ c → Kd.C (Kd.int .u8) w' A' 768 (ws.flatMap (LayM.pk 6)) → 768 ≤ c' → Calls Tryd.prog 11 #[.slice A 768 c, .slice A' 768 c'] w' fun e w'' => e = .returned (.bool true) ∧ Below w'.heap.size w' w'') := ⟨fun w' A c A' c' h1 h2 h3 h4 => by
        have h5 := chatelainelaw0_SameBytes.calls 10000 A c (ws.flatMap (LayM.pk 6)) A' c' (ws.flatMap (LayM.pk 6)) true w' (by rw [BLN.out]; exact h1) (by rw [BLN.out]; exact h2) (by rw [BLN.out]; exact h3) (by rw [BLN.out]; exact h4) (LayM.same_yes 10000 _ _ (by rw [BLN.out]; decide) (by decide) rfl)
        rw [BLN.out] at h5
        exact h5.mono fun e w'' h => ⟨h.1, h.2.below⟩⟩
      have NUM : Aside0 (∀ w' g, Below w0.heap.size w0 w' → Kd.R k67 67 w' w0.heap.size (fun _ => True) (eRow (.iface 63 (.pointer (some ⟨g, 0, none⟩)))) [⟨3, ⟨#[108, 97, 121]⟩⟩] → Calls Tryd.prog 12 #[.iface 63 (.pointer (some ⟨g, 0, none⟩))] w' fun e w'' => e = .returned (.int .i64 3) ∧ Below w'.heap.size w' w'') := ⟨fun w' g h1 h2 =>
        chatelainelaw0_Num.calls _ _ 3 w' (ErrIs.of h2) (pw_cell_below (below_step B0.out h1) HG.out) rfl⟩
      have AWK : Aside0 (∀ w', Below w0.heap.size w0 w' → Calls Tryd.prog 6 #[] w' fun e w'' => e = .returned (.bool true) ∧ Below w'.heap.size w' w'') := ⟨fun w' h1 => chatelainelaw11_awake.calls 100000 true w' (pw_cell_below (below_step B0.out h1) HG.out) LayM.awake_yes⟩
      clear hA1 hib hszb hfa hfr
      go_upto_region 26 with (first | (go_at_call 10; (with_reducible refine (HN.out (ws.drop 1) 3 _ _ _ DL.out (by decide) (DR.out _ (SC.out _ _ HWL.out S10.out)) (by have h_ := HCW.out; omega) (Or.inl (by decide))).mono ?_); rintro e w11 ⟨v11, g11, rfl, hr11, hb11⟩; have S11 := Aside0.mk (Kd.S_below S10.out hb11); have W11 := Aside0.mk (Kd.R_below W10.out hb11); have R11 := Aside0.mk (Kd.R_below R10.out hb11); have E11 := Aside0.mk (Kd.R_lower hr11 B10.out.size); have B11 := Aside0.mk (below_step B10.out hb11); clear hr11 hb11) | (go_at_call 10; (with_reducible refine (HY.out _ _ _ (SC.out _ _ HWL.out SW1.out) HCW.out).mono ?_); rintro e w10 ⟨A10, c10, rfl, hr10, hb10⟩; have S10 := Aside0.mk (Kd.S_below SW1.out hb10); have W10 := Aside0.mk (Kd.R_below RW1.out hb10); have R10 := Aside0.mk (Kd.R_lower hr10 HB.out.size); have B10 := Aside0.mk (below_step HB.out hb10); clear hr10 hb10))
      obtain ⟨g1, c1, hg1⟩ := cell2 S11.out a HA.out (n2 := 256) (by decide) (GL.out a HA.out)
      have HG1 := Aside0.mk hg1
      have HS0 : Aside0 (w11.cell? ⟨gp, 0, none⟩ = some (.int .i64 4) ∧ w11.cell? ⟨gw, a, none⟩ = some (.slice (some ⟨g1, 0, none⟩) 256 c1)) := ⟨⟨pw_cell_below B11.out P0.out, hg1⟩⟩
      clear hg1
      go_region_held3 (fun w' => w'.cell? ⟨gp, 0, none⟩ = some (.int .i64 4) ∧ w'.cell? ⟨gw, a, none⟩ = some (.slice (some ⟨g1, 0, none⟩) 256 c1)) (first | exact HS0.out | exact H12.out | exact H13.out | exact H14.out | exact H15.out | go_keep) (first | (go_at_call 7; (with_reducible refine (chatelainelaw0_Low.calls _ _ _ _ LOWR.out).mono ?_); rintro e w14 ⟨rfl, hb14⟩; have hb14 := hb14.below; have S14 := Aside0.mk (Kd.S_below S13.out hb14); have W14 := Aside0.mk (Kd.R_below W13.out hb14); have R14 := Aside0.mk (Kd.R_below R13.out hb14); have E14 := Aside0.mk (Kd.R_below E13.out hb14); have B14 := Aside0.mk (below_step B13.out hb14); have H14 := Aside0.mk (And.intro (pw_cell_below B14.out P0.out) (pw_cell_below hb14 H13.out.2)); obtain ⟨t1, t2, t3, t4, t5⟩ := put2w S14.out a HA.out b HBL.out (GL.out a HA.out) H14.out.2; have H15 := Aside0.mk (And.intro (pw_cell_below (below_set (j := b) (v := .int .i64 (44 + (r : Int))) B14.out t1) P0.out) (far2 (j := b) S14.out (by decide) t2 H14.out.2 (.int .i64 (44 + (r : Int))))); have T1 := Aside0.mk t1; have T2 := Aside0.mk t2; have S15 := Aside0.mk (t5 (44 + (r : Int))); clear t1 t2 t5) | (go_at_call 7; (with_reducible refine (LOWB.out _ _).mono ?_); rintro e w13 ⟨b, hb_, rfl, hb13⟩; have S13 := Aside0.mk (Kd.S_below S12.out hb13); have W13 := Aside0.mk (Kd.R_below W12.out hb13); have R13 := Aside0.mk (Kd.R_below R12.out hb13); have E13 := Aside0.mk (Kd.R_below E12.out hb13); have B13 := Aside0.mk (below_step B12.out hb13); have H13 := Aside0.mk (And.intro (pw_cell_below B13.out P0.out) (pw_cell_below hb13 H12.out.2)); have HBL := Aside0.mk hb_; have hbb1 : ((b : Int) < 256) = True := eq_true (by omega); have hbb2 : (0 ≤ (b : Int)) = True := eq_true (by omega)) | (go_at_call 7; (with_reducible refine (chatelainelaw0_Low.calls _ _ _ _ LOWK.out).mono ?_); rintro e w12 ⟨rfl, hb12⟩; have hb12 := hb12.below; have hb12 := below_undrew hb12; have S12 := Aside0.mk (Kd.S_below S11.out hb12); have W12 := Aside0.mk (Kd.R_below W11.out hb12); have R12 := Aside0.mk (Kd.R_below R11.out hb12); have E12 := Aside0.mk (Kd.R_below E11.out hb12); have B12 := Aside0.mk (below_step B11.out hb12); have H12 := Aside0.mk (And.intro (pw_cell_below B12.out P0.out) (pw_cell_below hb12 HS0.out.2))))
      obtain ⟨cc, hcc⟩ := T2.out
      have W15 := Aside0.mk (Kd.R_set W14.out hcc (by decide) b (.int .i64 (44 + (r : Int))))
      have R15 := Aside0.mk (Kd.R_set R14.out hcc (by decide) b (.int .i64 (44 + (r : Int))))
      have E15 := Aside0.mk (Kd.R_set E14.out hcc (by decide) b (.int .i64 (44 + (r : Int))))
      have B15 := Aside0.mk (below_set (j := b) (v := .int .i64 (44 + (r : Int))) B14.out T1.out)
      have BD1 := Aside0.mk (BAD.out ws a b (44 + (r : Int)) (by rw [HWL.out]; exact HA.out) (GL.out a HA.out) HBL.out (Or.inr (by omega)))
      obtain ⟨ws1, hws1⟩ : ∃ l, l = ws.set a ((ws.getD a []).set b (44 + (r : Int))) := ⟨_, rfl⟩
      have LN1 : Aside0 (ws1.length = 4) := ⟨by rw [hws1, List.length_set]; exact HWL.out⟩
      have GL1 : Aside0 ((ws1.getD 0 []).length = 256) := ⟨by rw [hws1, set_len]; exact GL.out 0 (by decide)⟩
      rw [← hws1] at S15 BD1
      clear hws1 hcc H15 T1 T2
      generalize w14.setCell ⟨g1, b, none⟩ (.int .i64 (44 + (r : Int))) = w15 at *
      have RC : Aside0 (∀ w' A c, Kd.R (Kd.int .u8) 5 w' w0.heap.size (fun _ => True) (.slice A 768 c) (ws.flatMap (LayM.pk 6)) → Kd.C (Kd.int .u8) w' A 768 (ws.flatMap (LayM.pk 6)) ∧ 768 ≤ c) := ⟨fun w' A c h => by
        have h2 := Kd.R_reads' h
        have h3 := h2.2.2
        rw [BLN.out] at h3
        exact ⟨h3, h2.2.1⟩⟩
      go_wp2_with (first | (go_at_call 6; (with_reducible refine (AWK.out _ B22.out).mono ?_); rintro e w23 ⟨rfl, hb23⟩; have B23 := Aside0.mk (below_step B22.out hb23); clear hb23) | (go_at_call 12; (with_reducible refine (NUM.out _ g18 B21.out G21.out).mono ?_); rintro e w22 ⟨rfl, hb22⟩; have B22 := Aside0.mk (below_step B21.out hb22); clear hb22) | (go_at_call 12; (with_reducible refine (NUM.out _ g16 B20.out F20.out).mono ?_); rintro e w21 ⟨rfl, hb21⟩; have G21 := Aside0.mk (Kd.R_below G20.out hb21); have B21 := Aside0.mk (below_step B20.out hb21); clear hb21) | (go_at_call 12; (with_reducible refine (NUM.out _ g11 B19.out E19.out).mono ?_); rintro e w20 ⟨rfl, hb20⟩; have F20 := Aside0.mk (Kd.R_below F19.out hb20); have G20 := Aside0.mk (Kd.R_below G19.out hb20); have B20 := Aside0.mk (below_step B19.out hb20); clear hb20) | (go_at_call 11; (with_reducible refine (SAME.out _ _ _ _ _ (RC.out _ _ _ R18.out).1 (RC.out _ _ _ R18.out).2 (RC.out _ _ _ W18.out).1 (RC.out _ _ _ W18.out).2).mono ?_); rintro e w19 ⟨rfl, hb19⟩; have E19 := Aside0.mk (Kd.R_below E18.out hb19); have F19 := Aside0.mk (Kd.R_below F18.out hb19); have G19 := Aside0.mk (Kd.R_below G18.out hb19); have B19 := Aside0.mk (below_step B18.out hb19); clear hb19) | (go_at_call 10; (with_reducible refine (HN.out _ 4 _ _ _ LN2.out (by decide) (SC.out _ _ LN2.out S17.out) HCW.out (Or.inr BD2.out)).mono ?_); rintro e w18 ⟨v18, g18, rfl, hr18, hb18⟩; have W18 := Aside0.mk (Kd.R_below W17.out hb18); have R18 := Aside0.mk (Kd.R_below R17.out hb18); have E18 := Aside0.mk (Kd.R_below E17.out hb18); have F18 := Aside0.mk (Kd.R_below F17.out hb18); have B18 := Aside0.mk (below_step B17.out hb18); have G18 := Aside0.mk (Kd.R_lower hr18 B17.out.size); have hp18 := pw_cell_below B18.out P0.out; clear hr18 hb18) | (go_at_call 10; (with_reducible refine (HN.out ws1 4 _ _ _ LN1.out (by decide) (SC.out _ _ LN1.out S15.out) HCW.out (Or.inr BD1.out)).mono ?_); rintro e w16 ⟨v16, g16, rfl, hr16, hb16⟩; have S16 := Aside0.mk (Kd.S_below S15.out hb16); have W16 := Aside0.mk (Kd.R_below W15.out hb16); have R16 := Aside0.mk (Kd.R_below R15.out hb16); have E16 := Aside0.mk (Kd.R_below E15.out hb16); have B16 := Aside0.mk (below_step B15.out hb16); have F16 := Aside0.mk (Kd.R_lower hr16 B15.out.size); obtain ⟨g2, c2, hg2⟩ := cell2 S16.out 0 (n2 := 256) (by decide) (by decide) GL1.out; obtain ⟨t1, t2, t3, t4, t5⟩ := put2w S16.out 0 (by decide) 0 (by decide) GL1.out hg2; have S17 := Aside0.mk (t5 (-1)); obtain ⟨cc2, hcc2⟩ := t2; have W17 := Aside0.mk (Kd.R_set W16.out hcc2 (by decide) 0 (.int .i64 (-1))); have R17 := Aside0.mk (Kd.R_set R16.out hcc2 (by decide) 0 (.int .i64 (-1))); have E17 := Aside0.mk (Kd.R_set E16.out hcc2 (by decide) 0 (.int .i64 (-1))); have F17 := Aside0.mk (Kd.R_set F16.out hcc2 (by decide) 0 (.int .i64 (-1))); have B17 := Aside0.mk (below_set (j := 0) (v := .int .i64 (-1)) B16.out t1); have LN2 := Aside0.mk (len_s LN1.out 0 ((ws1.getD 0 []).set 0 (-1))); have BD2 := Aside0.mk (BAD.out ws1 0 0 (-1) (by rw [LN1.out]; decide) GL1.out (by decide) (Or.inl (by decide))); clear hr16 hb16 t1 t5 hcc2))
      go_ret
      exact ⟨rfl, below_step B0.out B23.out⟩
set_option maxHeartbeats 8000000 in
set_option maxRecDepth 100000 in
theorem LH2.calls (w : World) (hg_ : w.cell? ⟨0, 0, none⟩ = some (.iface 108 (.agg #[.pointer (some ⟨1, 33, none⟩)]))) (set_ at_ by_ : Int) (A : Option Addr) (c : Nat) (ns : List Int) (hC : Kd.C (Kd.int .i64) w A ns.length ns) (hc : ns.length ≤ c) (h1 : 0 < ns.length) (h2 : ns.length ≤ 100) (hlow : chatelainelaw0_Low.f set_ 3 = some 1) :
    Calls Tryd.prog 3 #[.int .i64 set_, .slice A ns.length c, .int .i64 at_, .int .i64 by_] w fun e w' => e = .returned (.bool true) ∧ Below w.heap.size w w' := by
  have d1 : decide (100 < (ns.length : Int)) = false := decide_eq_false (by omega)
  have d1' : decide (100 < ns.length) = false := decide_eq_false (by omega)
  have d2 : ((ns.length : Int) == 0) = false := by rw [beq_eq_false_iff_ne]; omega
  have HG := Aside0.mk hg_
  have HC := Aside0.mk hC
  have Hc := Aside0.mk hc
  have HL := Aside0.mk (And.intro h1 h2)
  have HLOW := Aside0.mk hlow
  have OF : Aside0 (∀ w', Calls Tryd.prog 8 #[.int .i64 2] w' fun e w'' => e = .returned (.tuple #[.agg #[.int .i64 6, .int .i64 5, .int .i64 4, .int .i64 49, .int .i64 196, .int .i64 55, .int .i64 524288, .int .i64 261888, .int .i64 48], .bool true]) ∧ Below w'.heap.size w' w'') := ⟨fun w' => lay_Of.calls 2 6 5 4 49 196 55 524288 261888 48 true w' rfl⟩
  clear hg_ hC hc hlow
  go_enter Tryd.func3, Tryd.ntmps3
  go_wp2_with (first | (go_at_call 8; (with_reducible refine (OF.out _).mono ?_); rintro e w2 ⟨rfl, hb2⟩; have B2 := Aside0.mk (below_step B1.out hb2); clear hb2) | (go_at_call 7; (with_reducible refine (chatelainelaw0_Low.calls _ _ _ _ HLOW.out).mono ?_); rintro e w1 ⟨rfl, hd1⟩; have B1 := Aside0.mk hd1.below; clear hd1))
  obtain ⟨w0, hw0⟩ : ∃ w0, w0 = w2.alloc (.cells #[.int .i64 6, .int .i64 5, .int .i64 4, .int .i64 49, .int .i64 196, .int .i64 55, .int .i64 524288, .int .i64 261888, .int .i64 48] 26 (0, 0)) := ⟨_, rfl⟩
  have B0 : Aside0 (Below w.heap.size w w0) := ⟨by rw [hw0]; exact below_alloc B2.out _⟩
  have P0 : Aside0 (w0.cell? ⟨w2.heap.size, 0, none⟩ = some (.int .i64 6)) := ⟨by rw [hw0]; exact (blk_cell (blk_new _ _) 0).trans rfl⟩
  rw [← hw0]
  clear hw0
  have LOWA : Aside0 (∀ a w', Calls Tryd.prog 7 #[.int .i64 a, .int .i64 16] w' fun e w'' => ∃ r : Nat, r < 16 ∧ e = .returned (.int .i64 (r : Int)) ∧ Below w'.heap.size w' w'') := ⟨fun a w' => by
    obtain ⟨r, hr, hf⟩ := LayM.low_ok a 16 (by decide) (by decide)
    exact (chatelainelaw0_Low.calls _ _ _ w' hf).mono fun e w'' h => ⟨r, hr, h.1, h.2.below⟩⟩
  generalize w2.heap.size = gp at *
  go_loopg [13, 14, 15] 6 (fun kq v13 v14 v15 w' => ∃ (i : Nat) (ws : List (List Int)), v15 = .int .i64 (i : Int) ∧ Aside0 (i + kq = 6 ∧ ws.length = i ∧ ∀ f ∈ ws, okL 16 f) ∧ Aside0 (Kd.S (Kd.slice 3 (Kd.int .i64)) 22 w' w0.heap.size (fun _ => True) v13 ws) ∧ Aside0 (Kd.R (Kd.int .u8) 5 w' w0.heap.size (fun _ => True) v14 (ws.flatMap (LayM.pk 4))) ∧ Aside0 (Below w0.heap.size w0 w'))
  case atStart => exact ⟨0, [], rfl, ⟨by omega, rfl, fun f hf => absurd hf (by simp)⟩, ⟨Kd.S_nil _ _ _ _ _⟩, ⟨Kd.R_nil _ _ _ _ _⟩, ⟨Below.refl _ _⟩⟩
  case round =>
    obtain ⟨i, ws, rfl, HJ, SW, RW, HB⟩ := hrel
    have hp := pw_cell_below HB.out P0.out
    by_cases ci : i < 6
    · have z1 : decide ((i : Int) < 6) = true := decide_eq_true (by omega)
      have z1' : decide (i < 6) = true := decide_eq_true ci
      cases gk with
      | zero => have := HJ.out.1; omega
      | succ k1 =>
        go_wp2_with (first | ((with_reducible refine gate_dst (N := 72) rfl ?_); refine Kd.R_make (Kd.int .i64) _ 3 rfl (N := 72) rfl 22 _ _ rfl 256 rfl rfl Tryd.underlying22 (.int .i64 0) 8 info3 rfl (by decide) (by omega) 0 (ok := fun _ => True) (okp := fun _ => True) rfl (fun _ hk => hk) trivial (by omega) (by omega) (Below.refl _ _) (Nat.le_refl _) ?_; intro v5 w5 ho hb hg_ hnew_; clear hg_ hnew_; simp only [Int.reduceToNat] at ho; have BF := Aside0.mk hb; obtain ⟨A5, c5, rfl⟩ := Kd.R_slice ho; simp only [List.length_replicate] at ho; rw [List.length_replicate]; have RF := Aside0.mk ho; clear ho hb))
        obtain ⟨gf, cf, ef, gb, gl, cl, HGf⟩ := Kd.R_form RF.out (by rw [List.length_replicate]; decide)
        (first | cases ef | (injection ef with ea_ en_ ec_; (first | subst ea_ | (injection ea_ with ea_; subst ea_)); subst ec_; clear en_))
        have GF : Aside0 (wr.heap.size ≤ gf) := ⟨gb⟩
        clear gb gl HGf
        have HBW := Aside0.mk (below_step B0.out HB.out)
        have HCI := Aside0.mk ci
        have OK0 : Aside0 (okL 16 (List.replicate 256 0)) := ⟨⟨List.length_replicate, fun x hx => by rw [List.eq_of_mem_replicate hx]; decide⟩⟩
        go_loopg [17] 256 (fun kq v17 w' => ∃ (k : Nat) (fs : List Int), v17 = .int .i64 (k : Int) ∧ Aside0 (k + kq = 256 ∧ okL 16 fs) ∧ Aside0 (Kd.R (Kd.int .i64) 3 w' wr.heap.size (fun _ => True) (.slice (some ⟨gf, 0, none⟩) 256 c5) fs) ∧ Aside0 (Below wr.heap.size wr w'))
        case atStart => exact ⟨0, _, rfl, ⟨by omega, OK0.out⟩, RF, BF⟩
        case round =>
          clear RF BF OK0
          obtain ⟨k, fs, rfl, HK, RF, BF⟩ := hrel
          by_cases ck : k < 256
          · have u1 : decide ((k : Int) < 256) = true := decide_eq_true (by omega)
            have u1' : decide (k < 256) = true := decide_eq_true ck
            cases gk with
            | zero => have := HK.out.1; omega
            | succ k2 =>
              have BX := Aside0.mk (below_step HBW.out BF.out)
              obtain ⟨y, hy⟩ : ∃ y : Nat, y = k % ns.length := ⟨_, rfl⟩
              have hyl : y < ns.length := by rw [hy]; exact Nat.mod_lt _ (by omega)
              have ty : Int.tmod (k : Int) (ns.length : Int) = (y : Int) := by rw [Int.tmod_eq_emod_of_nonneg (by omega), hy]; omega
              obtain ⟨ad, xg, rfl, hxg⟩ := ns_at HC.out y hyl
              replace hxg := pw_cell_below BX.out hxg
              have v1 : ((ns.length : Int) = 0) = False := eq_false (by omega)
              have v2 : (0 ≤ (y : Int)) = True := eq_true (by omega)
              have v3 : ((y : Int) < (ns.length : Int)) = True := eq_true (by omega)
              have v4 : (0 ≤ (k : Int)) = True := eq_true (by omega)
              have v5 : ((k : Int) < 256) = True := eq_true (by omega)
              have HK0 : Aside0 (0 ≤ (k : Int) ∧ (k : Int) < ((256 : Nat) : Int)) := ⟨by omega⟩
              have HCK := Aside0.mk ck
              clear hy
              go_wp2_with (first | (go_at_call 7; (with_reducible refine (LOWA.out _ _).mono ?_); rintro e w6 ⟨x, hx, rfl, hb6⟩; have RF6 := Aside0.mk (Kd.R_below RF.out hb6); have BF6 := Aside0.mk (below_step BF.out hb6); have HX := Aside0.mk hx; obtain ⟨hq, hfq⟩ := Kd.R_celln 0 RF6.out (k : Int) HK0.out.1 HK0.out.2; rw [Int.toNat_natCast] at hq hfq; clear hb6 hx))
              go_roundg k2
              case measure => omega
              case rel => exact ⟨k + 1, fs.set k (x : Int), (by
                have hw : wrap64 ((k : Int) + 1) = ((k + 1 : Nat) : Int) := by have := HCK.out; unfold wrap64; omega
                first | rfl | (rw [← hw]; rfl) | (simp [*]; done)), ⟨by have := HK.out.1; omega, HK.out.2.set k ⟨by omega, by have := HX.out; omega⟩⟩, ⟨by have := Kd.R_putn RF6.out (k : Int) (x : Int); rw [Int.toNat_natCast] at this; exact this⟩, ⟨below_set BF6.out GF.out⟩⟩
          · have u1 : decide ((k : Int) < 256) = false := decide_eq_false (by omega)
            have u1' : decide (k < 256) = false := decide_eq_false ck
            clear ck
            have FV : Aside0 (∀ k, (Value.slice (some ⟨gf, 0, none⟩) 256 c5).ownBlock = some k → k = gf) := ⟨fun k h => by simpa [Value.ownBlock] using h.symm⟩
            have FV2 : Aside0 ((Value.slice (some ⟨gf, 0, none⟩) 256 c5).ownBlock = some gf) := ⟨by simp [Value.ownBlock]⟩
            have SO := Aside0.mk (Kd.S_old SW.out BF.out)
            have HB2 := Aside0.mk (below_step HB.out BF.out)
            have RF2 := Aside0.mk (Kd.R_lower RF.out HB.out.size)
            have RW2 := Aside0.mk (Kd.R_below RW.out BF.out)
            have RF3 := Aside0.mk (Kd.R_apart' RF2.out (Kd.S_typed SO.out) (by decide))
            have FL : Aside0 (fs.length = 256) := ⟨HK.out.2.1⟩
            have HW4 : Aside0 (ws.length ≤ 8) := ⟨by have := HJ.out.2.1; omega⟩
            obtain ⟨X, hX⟩ : ∃ X, X = ws.flatMap (LayM.pk 4) := ⟨_, rfl⟩
            obtain ⟨P, hP⟩ : ∃ P, P = LayM.pk 4 fs := ⟨_, rfl⟩
            rw [← hX] at RW2
            have HXL : Aside0 (X.length + P.length < 100000) := ⟨by
              rw [hX, hP, pkL_len (d := 4) HK.out.2, flat_len (d := 4) _ HJ.out.2.2]
              have := HW4.out
              omega⟩
            have HXP := Aside0.mk (And.intro hX hP)
            have PK : Aside0 (∀ w' A c, Kd.C (Kd.int .i64) w' A 256 fs → 256 ≤ c → Calls Tryd.prog 9 #[.int .i64 4, .slice A 256 c] w' fun e w'' => ∃ A' c', e = .returned (.slice A' P.length c') ∧ Kd.R (Kd.int .u8) 5 w'' w'.heap.size (fun _ => True) (.slice A' P.length c') P ∧ Below w'.heap.size w' w'') := ⟨fun w' A c h1 h2 => by
              have h3 := bits_Pack.calls 10000 4 A c fs (LayM.pk 4 fs) w' (by rw [FL.out]; exact h1) (by rw [FL.out]; exact h2) (pkL_f (by decide) (by decide) HK.out.2 (by decide))
              rw [FL.out] at h3
              refine h3.mono ?_
              rintro e w'' ⟨v, q1, q2, q3⟩
              rw [← HXP.out.2] at q2
              obtain ⟨A', c', rfl⟩ := Kd.R_slice q2
              exact ⟨A', c', q1, q2, q3⟩⟩
            have HC5 : Aside0 (256 ≤ c5) := ⟨(Kd.R_reads' RF.out).2.1⟩
            clear hX hP RW
            go_wp2_with (first | ((with_reducible refine gate_builtin (b := .append) (xs := #[.tmp 97, .tmp 100]) rfl ?_); at_builtin; refine Kd.R_append_rows (Kd.int .u8) (w0 := w0) w0.heap.size rfl (.tmp 97) (.tmp 100) 30 5 (.int .u8 0) 1 rfl Tryd.underlying30 info5 rfl (by decide) (by omega) u14 X P _ _ _ (fun k_ => some k_ ≠ (.slice A8 P.length c8 : Value).ownBlock) (fun _ => False) rfl rfl ?aO ?aR (fun _ _ h => h) (fun _ h => h.elim) ?aF ?aB ?aS ?aL ?_; (case aR => exact (Kd.R_reads' RP.out).2.2); (case aB => exact B8.out); (case aF => exact (fun k_ hk => Kd.fresh' (Kd.R_lt RP.out) k_ hk)); (case aO => exact (Kd.R_mono W8.out (fun _ hk => hk.2))); (case aS => exact B8.out.size); (case aL => have := HXL.out; omega); intro v9 w9 ho hb hg hat; have W9 := Aside0.mk (Kd.R_mono (ok' := fun _ => True) ho (fun _ _ => trivial)); have B9 := Aside0.mk hb; have S9 := Aside0.mk (Kd.S_over' S8.out (Kd.R_typed W8.out) (by decide) hg); clear ho hb hg hat) | (go_at_call 9; (with_reducible refine (PK.out _ _ _ (by have h_ := (Kd.R_reads' F7.out).2.2; rw [FL.out] at h_; exact h_) HC5.out).mono ?_); rintro e w8 ⟨A8, c8, rfl, hr8, hb8⟩; have RP := Aside0.mk hr8; have S8 := Aside0.mk (Kd.S_below S7.out hb8); have W8 := Aside0.mk (Kd.R_elder' W7.out (Kd.R_base hr8) hb8); have B8 := Aside0.mk (below_step B7.out hb8); clear hr8 hb8) | ((with_reducible refine gate_builtin (b := .append) (xs := #[.tmp 93, .tmp 95]) rfl ?_); at_builtin; refine Kd.S_append (Kd.slice 3 (Kd.int .i64)) (w0 := w0) w0.heap.size rfl (.tmp 93) (.tmp 95) 29 22 (.slice none 0 0) 24 rfl Tryd.underlying29 info22 rfl (by decide) (by omega) u13 ws fs [.slice (some ⟨gf, 0, none⟩) 256 c5] (fun _ => True) (fun k_ => some k_ = (.slice (some ⟨gf, 0, none⟩) 256 c5 : Value).ownBlock) rfl rfl ?aP (fun k_ hk_ => RF3.out.1 k_ hk_.symm) ?aF ?aO ?aB ?aS ?aL ?_; (case aP => exact Kd.M_row (Kd.R_mono (Kd.R_tight rfl RF3.out) (fun _ h_ => h_))); (case aB => exact HB2.out); (case aF => exact (fun _ _ => trivial)); (case aO => exact (Kd.S_mono SO.out (fun k_ hk => ⟨trivial, fun e_ => Nat.not_le.2 hk.2 (by have e2_ := FV.out k_ e_.symm; rw [e2_]; exact GF.out)⟩))); (case aS => exact HB2.out.size); (case aL => have := HW4.out; omega); intro v7 w7 ho hb hg hat; have S7 := Aside0.mk ho; have B7 := Aside0.mk hb; have F7 := Aside0.mk (Kd.R_grown RF3.out hg (fun k hk => hk.2)); have W7 := Aside0.mk (Kd.R_over' RW2.out (Kd.S_typed SO.out) (by decide) hg); clear ho hb hg hat))
            go_roundg k1
            case measure => omega
            case rel => exact ⟨i + 1, ws ++ [fs], (by
              have hw : wrap64 ((i : Int) + 1) = ((i + 1 : Nat) : Int) := by have := HCI.out; unfold wrap64; omega
              first | rfl | (rw [← hw]; rfl) | (simp [*]; done)), ⟨by have := HJ.out.1; omega, by rw [List.length_append, HJ.out.2.1]; rfl, fun f hf => by
                rcases List.mem_append.mp hf with h | h
                · exact HJ.out.2.2 f h
                · rw [List.mem_singleton.mp h]; exact HK.out.2⟩, S9, ⟨by rw [List.flatMap_append, List.flatMap_singleton, ← HXP.out.1, ← HXP.out.2]; exact W9.out⟩, B9⟩
    · have z1 : decide ((i : Int) < 6) = false := decide_eq_false (by omega)
      have z1' : decide (i < 6) = false := decide_eq_false ci
      have HWL : Aside0 (ws.length = 6) := ⟨by have := HJ.out; omega⟩
      have HOK : Aside0 (∀ f ∈ ws, okL 16 f) := ⟨HJ.out.2.2⟩
      have BLN : Aside0 ((ws.flatMap (LayM.pk 4)).length = 768) := ⟨by rw [flat_len (d := 4) _ HOK.out, HWL.out]⟩
      clear ci HJ
      have HY : Aside0 (∀ w' A c, Kd.C (Kd.slice 3 (Kd.int .i64)) w' A 6 ws → 6 ≤ c → Calls Tryd.prog 10 #[.int .i64 2, .slice A 6 c] w' fun e w'' => ∃ A' c', e = .returned (.tuple #[.slice A' 768 c', .nilIface]) ∧ Kd.R (Kd.int .u8) 5 w'' w'.heap.size (fun _ => True) (.slice A' 768 c') (ws.flatMap (LayM.pk 4)) ∧ Below w'.heap.size w' w'') := ⟨fun w' A c h1 h2 => by
        have h3 := lay_High.calls 10000 2 A c ws (ws.flatMap (LayM.pk 4)) [] w' (by rw [HWL.out]; exact h1) (by rw [HWL.out]; exact h2) (LayM.high_yes par2 10000 ws HOK.out HWL.out (by decide))
        rw [HWL.out] at h3
        refine h3.mono ?_
        rintro e w'' ⟨v0, v1, q1, q2, q3, q4⟩
        obtain rfl := err_nil q3
        obtain ⟨A', c', rfl⟩ := Kd.R_slice q2
        rw [BLN.out] at q1 q2
        exact ⟨A', c', q1, q2, q4⟩⟩
      have HN : Aside0 (∀ (l : List (List Int)) (n : Nat) w' A c, l.length = n → n < 1000 → Kd.C (Kd.slice 3 (Kd.int .i64)) w' A n l → n ≤ c → (n ≠ 6 ∨ ∃ f ∈ l, lay_bad 16 f = true) → Calls Tryd.prog 10 #[.int .i64 2, .slice A n c] w' fun e w'' => ∃ vb g, e = .returned (.tuple #[vb, .iface 63 (.pointer (some ⟨g, 0, none⟩))]) ∧ Kd.R k67 67 w'' w'.heap.size (fun _ => True) (eRow (.iface 63 (.pointer (some ⟨g, 0, none⟩)))) [⟨3, ⟨#[108, 97, 121]⟩⟩] ∧ Below w'.heap.size w' w'') := ⟨fun l n w' A c hn hn2 h1 h2 h4 => by
        subst hn
        obtain ⟨b, hb⟩ := LayM.high_no par2 10000 l hn2 h4
        refine (lay_High.calls 10000 2 A c l b _ w' h1 h2 hb).mono ?_
        rintro e w'' ⟨v0, v1, q1, q2, q3, q4⟩
        obtain ⟨g, rfl⟩ := err_one q3
        exact ⟨v0, g, q1, q3, q4⟩⟩
      obtain ⟨gw, cw, rfl, _, _, _⟩ := Kd.S_form SW.out (by rw [HWL.out]; decide)
      have SW0 := SW.out
      rw [HWL.out] at SW0 ⊢
      have SW1 : Aside0 (Kd.S (Kd.slice 3 (Kd.int .i64)) 22 wr w0.heap.size (fun _ => True) (.slice (some ⟨gw, 0, none⟩) 6 cw) ws) := ⟨SW0⟩
      clear SW0 SW
      have HCW : Aside0 (6 ≤ cw) := ⟨(Kd.S_reads' SW1.out).2.1⟩
      have SC : Aside0 (∀ w' (l : List (List Int)), l.length = 6 → Kd.S (Kd.slice 3 (Kd.int .i64)) 22 w' w0.heap.size (fun _ => True) (.slice (some ⟨gw, 0, none⟩) 6 cw) l → Kd.C (Kd.slice 3 (Kd.int .i64)) w' (some ⟨gw, 0, none⟩) 6 l) := ⟨fun w' l hl h => by
        have := (Kd.S_reads' h).2.2
        rw [hl] at this
        exact this⟩
      obtain ⟨AV, cv, rfl⟩ := Kd.R_slice RW.out
      have RW0 := RW.out
      rw [BLN.out] at RW0 ⊢
      have RW1 : Aside0 (Kd.R (Kd.int .u8) 5 wr w0.heap.size (fun _ => True) (.slice AV 768 cv) (ws.flatMap (LayM.pk 4))) := ⟨RW0⟩
      clear RW0 RW
      obtain ⟨ib, hib, _, hszb, _⟩ := info_parts info22
      have hcut := cut_from (P := Tryd.prog) 29 22 .i64 Tryd.underlying29 hib 1 hszb (some ⟨gw, 0, none⟩) 6 cw 1 (by decide) (by decide)
      obtain ⟨A1, hA1⟩ : ∃ X, X = (if cw = 1 then some (⟨gw, 0, none⟩ : Addr) else (some (⟨gw, 0, none⟩ : Addr)).map (·.add (1 * 1))) := ⟨_, rfl⟩
      simp only [show ((1 : Int)).toNat = 1 from rfl, ← hA1, show 6 - 1 = 5 from rfl] at hcut
      have DR : Aside0 (∀ w', Kd.C (Kd.slice 3 (Kd.int .i64)) w' (some ⟨gw, 0, none⟩) 6 ws → Kd.C (Kd.slice 3 (Kd.int .i64)) w' A1 5 (ws.drop 1)) := ⟨fun w' h => by
        rw [← HWL.out] at h
        have h2 := Kd.C_drop h (m := 1) (c := cw) (by rw [HWL.out]; decide) (by rw [HWL.out]; exact HCW.out)
        rw [List.length_drop, HWL.out] at h2
        rw [hA1]
        exact h2⟩
      have DL : Aside0 ((ws.drop 1).length = 5) := ⟨by rw [List.length_drop, HWL.out]⟩
      obtain ⟨a, ha, hfa⟩ := LayM.low_ok at_ 6 (by decide) (by decide)
      obtain ⟨r, hr, hfr⟩ := LayM.low_ok by_ 3 (by decide) (by decide)
      have LOWK : Aside0 (chatelainelaw0_Low.f at_ 6 = some (a : Int)) := ⟨hfa⟩
      have LOWR : Aside0 (chatelainelaw0_Low.f by_ 3 = some (r : Int)) := ⟨hfr⟩
      have LOWB : Aside0 (∀ x w', Calls Tryd.prog 7 #[.int .i64 x, .int .i64 256] w' fun e w'' => ∃ b : Nat, b < 256 ∧ e = .returned (.int .i64 (b : Int)) ∧ Below w'.heap.size w' w'') := ⟨fun x w' => by
        obtain ⟨b, hb, hf⟩ := LayM.low_ok x 256 (by decide) (by decide)
        exact (chatelainelaw0_Low.calls _ _ _ w' hf).mono fun e w'' h => ⟨b, hb, h.1, h.2.below⟩⟩
      have HA := Aside0.mk ha
      have hwr : IntKind.i64.wrap (16 + (r : Int)) = 16 + (r : Int) := (i64_w _).trans (PackH.w64 (by omega) (by omega))
      have ha2 : ((a : Int) < 6) = True := eq_true (by omega)
      have ha3 : (0 ≤ (a : Int)) = True := eq_true (by omega)
      have BAD : Aside0 (∀ (l : List (List Int)) (i j : Nat) (x : Int), i < l.length → (l.getD i []).length = 256 → j < 256 → (x < 0 ∨ 16 ≤ x) → ∃ f ∈ l.set i ((l.getD i []).set j x), lay_bad 16 f = true) := ⟨fun l i j x hi hl2 hj hx => bad_set l i j x 16 hi hl2 hj hx⟩
      have GL : Aside0 (∀ i, i < 6 → (ws.getD i []).length = 256) := ⟨fun i hi => by
        rw [List.getD_eq_getElem?_getD, List.getElem?_eq_getElem (by rw [HWL.out]; exact hi)]
        exact (HOK.out _ (List.getElem_mem _)).1⟩
      have SAME : Aside0 (∀ w' A c A' c', Kd.C (Kd.int .u8) w' A 768 (ws.flatMap (LayM.pk 4)) → 768 ≤ c → Kd.C (Kd.int .u8) w' A' 768 (ws.flatMap (LayM.pk 4)) → 768 ≤ c' → Calls Tryd.prog 11 #[.slice A 768 c, .slice A' 768 c'] w' fun e w'' => e = .returned (.bool true) ∧ Below w'.heap.size w' w'') := ⟨fun w' A c A' c' h1 h2 h3 h4 => by
        have h5 := chatelainelaw0_SameBytes.calls 10000 A c (ws.flatMap (LayM.pk 4)) A' c' (ws.flatMap (LayM.pk 4)) true w' (by rw [BLN.out]; exact h1) (by rw [BLN.out]; exact h2) (by rw [BLN.out]; exact h3) (by rw [BLN.out]; exact h4) (LayM.same_yes 10000 _ _ (by rw [BLN.out]; decide) (by decide) rfl)
        rw [BLN.out] at h5
        exact h5.mono fun e w'' h => ⟨h.1, h.2.below⟩⟩
      have NUM : Aside0 (∀ w' g, Below w0.heap.size w0 w' → Kd.R k67 67 w' w0.heap.size (fun _ => True) (eRow (.iface 63 (.pointer (some ⟨g, 0, none⟩)))) [⟨3, ⟨#[108, 97, 121]⟩⟩] → Calls Tryd.prog 12 #[.iface 63 (.pointer (some ⟨g, 0, none⟩))] w' fun e w'' => e = .returned (.int .i64 3) ∧ Below w'.heap.size w' w'') := ⟨fun w' g h1 h2 =>
        chatelainelaw0_Num.calls _ _ 3 w' (ErrIs.of h2) (pw_cell_below (below_step B0.out h1) HG.out) rfl⟩
      have AWK : Aside0 (∀ w', Below w0.heap.size w0 w' → Calls Tryd.prog 6 #[] w' fun e w'' => e = .returned (.bool true) ∧ Below w'.heap.size w' w'') := ⟨fun w' h1 => chatelainelaw11_awake.calls 100000 true w' (pw_cell_below (below_step B0.out h1) HG.out) LayM.awake_yes⟩
      clear hA1 hib hszb hfa hfr
      go_upto_region 26 with (first | (go_at_call 10; (with_reducible refine (HN.out (ws.drop 1) 5 _ _ _ DL.out (by decide) (DR.out _ (SC.out _ _ HWL.out S10.out)) (by have h_ := HCW.out; omega) (Or.inl (by decide))).mono ?_); rintro e w11 ⟨v11, g11, rfl, hr11, hb11⟩; have S11 := Aside0.mk (Kd.S_below S10.out hb11); have W11 := Aside0.mk (Kd.R_below W10.out hb11); have R11 := Aside0.mk (Kd.R_below R10.out hb11); have E11 := Aside0.mk (Kd.R_lower hr11 B10.out.size); have B11 := Aside0.mk (below_step B10.out hb11); clear hr11 hb11) | (go_at_call 10; (with_reducible refine (HY.out _ _ _ (SC.out _ _ HWL.out SW1.out) HCW.out).mono ?_); rintro e w10 ⟨A10, c10, rfl, hr10, hb10⟩; have S10 := Aside0.mk (Kd.S_below SW1.out hb10); have W10 := Aside0.mk (Kd.R_below RW1.out hb10); have R10 := Aside0.mk (Kd.R_lower hr10 HB.out.size); have B10 := Aside0.mk (below_step HB.out hb10); clear hr10 hb10))
      obtain ⟨g1, c1, hg1⟩ := cell2 S11.out a HA.out (n2 := 256) (by decide) (GL.out a HA.out)
      have HG1 := Aside0.mk hg1
      have HS0 : Aside0 (w11.cell? ⟨gp, 0, none⟩ = some (.int .i64 6) ∧ w11.cell? ⟨gw, a, none⟩ = some (.slice (some ⟨g1, 0, none⟩) 256 c1)) := ⟨⟨pw_cell_below B11.out P0.out, hg1⟩⟩
      clear hg1
      go_region_held3 (fun w' => w'.cell? ⟨gp, 0, none⟩ = some (.int .i64 6) ∧ w'.cell? ⟨gw, a, none⟩ = some (.slice (some ⟨g1, 0, none⟩) 256 c1)) (first | exact HS0.out | exact H12.out | exact H13.out | exact H14.out | exact H15.out | go_keep) (first | (go_at_call 7; (with_reducible refine (chatelainelaw0_Low.calls _ _ _ _ LOWR.out).mono ?_); rintro e w14 ⟨rfl, hb14⟩; have hb14 := hb14.below; have S14 := Aside0.mk (Kd.S_below S13.out hb14); have W14 := Aside0.mk (Kd.R_below W13.out hb14); have R14 := Aside0.mk (Kd.R_below R13.out hb14); have E14 := Aside0.mk (Kd.R_below E13.out hb14); have B14 := Aside0.mk (below_step B13.out hb14); have H14 := Aside0.mk (And.intro (pw_cell_below B14.out P0.out) (pw_cell_below hb14 H13.out.2)); obtain ⟨t1, t2, t3, t4, t5⟩ := put2w S14.out a HA.out b HBL.out (GL.out a HA.out) H14.out.2; have H15 := Aside0.mk (And.intro (pw_cell_below (below_set (j := b) (v := .int .i64 (16 + (r : Int))) B14.out t1) P0.out) (far2 (j := b) S14.out (by decide) t2 H14.out.2 (.int .i64 (16 + (r : Int))))); have T1 := Aside0.mk t1; have T2 := Aside0.mk t2; have S15 := Aside0.mk (t5 (16 + (r : Int))); clear t1 t2 t5) | (go_at_call 7; (with_reducible refine (LOWB.out _ _).mono ?_); rintro e w13 ⟨b, hb_, rfl, hb13⟩; have S13 := Aside0.mk (Kd.S_below S12.out hb13); have W13 := Aside0.mk (Kd.R_below W12.out hb13); have R13 := Aside0.mk (Kd.R_below R12.out hb13); have E13 := Aside0.mk (Kd.R_below E12.out hb13); have B13 := Aside0.mk (below_step B12.out hb13); have H13 := Aside0.mk (And.intro (pw_cell_below B13.out P0.out) (pw_cell_below hb13 H12.out.2)); have HBL := Aside0.mk hb_; have hbb1 : ((b : Int) < 256) = True := eq_true (by omega); have hbb2 : (0 ≤ (b : Int)) = True := eq_true (by omega)) | (go_at_call 7; (with_reducible refine (chatelainelaw0_Low.calls _ _ _ _ LOWK.out).mono ?_); rintro e w12 ⟨rfl, hb12⟩; have hb12 := hb12.below; have hb12 := below_undrew hb12; have S12 := Aside0.mk (Kd.S_below S11.out hb12); have W12 := Aside0.mk (Kd.R_below W11.out hb12); have R12 := Aside0.mk (Kd.R_below R11.out hb12); have E12 := Aside0.mk (Kd.R_below E11.out hb12); have B12 := Aside0.mk (below_step B11.out hb12); have H12 := Aside0.mk (And.intro (pw_cell_below B12.out P0.out) (pw_cell_below hb12 HS0.out.2))))
      obtain ⟨cc, hcc⟩ := T2.out
      have W15 := Aside0.mk (Kd.R_set W14.out hcc (by decide) b (.int .i64 (16 + (r : Int))))
      have R15 := Aside0.mk (Kd.R_set R14.out hcc (by decide) b (.int .i64 (16 + (r : Int))))
      have E15 := Aside0.mk (Kd.R_set E14.out hcc (by decide) b (.int .i64 (16 + (r : Int))))
      have B15 := Aside0.mk (below_set (j := b) (v := .int .i64 (16 + (r : Int))) B14.out T1.out)
      have BD1 := Aside0.mk (BAD.out ws a b (16 + (r : Int)) (by rw [HWL.out]; exact HA.out) (GL.out a HA.out) HBL.out (Or.inr (by omega)))
      obtain ⟨ws1, hws1⟩ : ∃ l, l = ws.set a ((ws.getD a []).set b (16 + (r : Int))) := ⟨_, rfl⟩
      have LN1 : Aside0 (ws1.length = 6) := ⟨by rw [hws1, List.length_set]; exact HWL.out⟩
      have GL1 : Aside0 ((ws1.getD 0 []).length = 256) := ⟨by rw [hws1, set_len]; exact GL.out 0 (by decide)⟩
      rw [← hws1] at S15 BD1
      clear hws1 hcc H15 T1 T2
      generalize w14.setCell ⟨g1, b, none⟩ (.int .i64 (16 + (r : Int))) = w15 at *
      have RC : Aside0 (∀ w' A c, Kd.R (Kd.int .u8) 5 w' w0.heap.size (fun _ => True) (.slice A 768 c) (ws.flatMap (LayM.pk 4)) → Kd.C (Kd.int .u8) w' A 768 (ws.flatMap (LayM.pk 4)) ∧ 768 ≤ c) := ⟨fun w' A c h => by
        have h2 := Kd.R_reads' h
        have h3 := h2.2.2
        rw [BLN.out] at h3
        exact ⟨h3, h2.2.1⟩⟩
      go_wp2_with (first | (go_at_call 6; (with_reducible refine (AWK.out _ B22.out).mono ?_); rintro e w23 ⟨rfl, hb23⟩; have B23 := Aside0.mk (below_step B22.out hb23); clear hb23) | (go_at_call 12; (with_reducible refine (NUM.out _ g18 B21.out G21.out).mono ?_); rintro e w22 ⟨rfl, hb22⟩; have B22 := Aside0.mk (below_step B21.out hb22); clear hb22) | (go_at_call 12; (with_reducible refine (NUM.out _ g16 B20.out F20.out).mono ?_); rintro e w21 ⟨rfl, hb21⟩; have G21 := Aside0.mk (Kd.R_below G20.out hb21); have B21 := Aside0.mk (below_step B20.out hb21); clear hb21) | (go_at_call 12; (with_reducible refine (NUM.out _ g11 B19.out E19.out).mono ?_); rintro e w20 ⟨rfl, hb20⟩; have F20 := Aside0.mk (Kd.R_below F19.out hb20); have G20 := Aside0.mk (Kd.R_below G19.out hb20); have B20 := Aside0.mk (below_step B19.out hb20); clear hb20) | (go_at_call 11; (with_reducible refine (SAME.out _ _ _ _ _ (RC.out _ _ _ R18.out).1 (RC.out _ _ _ R18.out).2 (RC.out _ _ _ W18.out).1 (RC.out _ _ _ W18.out).2).mono ?_); rintro e w19 ⟨rfl, hb19⟩; have E19 := Aside0.mk (Kd.R_below E18.out hb19); have F19 := Aside0.mk (Kd.R_below F18.out hb19); have G19 := Aside0.mk (Kd.R_below G18.out hb19); have B19 := Aside0.mk (below_step B18.out hb19); clear hb19) | (go_at_call 10; (with_reducible refine (HN.out _ 6 _ _ _ LN2.out (by decide) (SC.out _ _ LN2.out S17.out) HCW.out (Or.inr BD2.out)).mono ?_); rintro e w18 ⟨v18, g18, rfl, hr18, hb18⟩; have W18 := Aside0.mk (Kd.R_below W17.out hb18); have R18 := Aside0.mk (Kd.R_below R17.out hb18); have E18 := Aside0.mk (Kd.R_below E17.out hb18); have F18 := Aside0.mk (Kd.R_below F17.out hb18); have B18 := Aside0.mk (below_step B17.out hb18); have G18 := Aside0.mk (Kd.R_lower hr18 B17.out.size); have hp18 := pw_cell_below B18.out P0.out; clear hr18 hb18) | (go_at_call 10; (with_reducible refine (HN.out ws1 6 _ _ _ LN1.out (by decide) (SC.out _ _ LN1.out S15.out) HCW.out (Or.inr BD1.out)).mono ?_); rintro e w16 ⟨v16, g16, rfl, hr16, hb16⟩; have S16 := Aside0.mk (Kd.S_below S15.out hb16); have W16 := Aside0.mk (Kd.R_below W15.out hb16); have R16 := Aside0.mk (Kd.R_below R15.out hb16); have E16 := Aside0.mk (Kd.R_below E15.out hb16); have B16 := Aside0.mk (below_step B15.out hb16); have F16 := Aside0.mk (Kd.R_lower hr16 B15.out.size); obtain ⟨g2, c2, hg2⟩ := cell2 S16.out 0 (n2 := 256) (by decide) (by decide) GL1.out; obtain ⟨t1, t2, t3, t4, t5⟩ := put2w S16.out 0 (by decide) 0 (by decide) GL1.out hg2; have S17 := Aside0.mk (t5 (-1)); obtain ⟨cc2, hcc2⟩ := t2; have W17 := Aside0.mk (Kd.R_set W16.out hcc2 (by decide) 0 (.int .i64 (-1))); have R17 := Aside0.mk (Kd.R_set R16.out hcc2 (by decide) 0 (.int .i64 (-1))); have E17 := Aside0.mk (Kd.R_set E16.out hcc2 (by decide) 0 (.int .i64 (-1))); have F17 := Aside0.mk (Kd.R_set F16.out hcc2 (by decide) 0 (.int .i64 (-1))); have B17 := Aside0.mk (below_set (j := 0) (v := .int .i64 (-1)) B16.out t1); have LN2 := Aside0.mk (len_s LN1.out 0 ((ws1.getD 0 []).set 0 (-1))); have BD2 := Aside0.mk (BAD.out ws1 0 0 (-1) (by rw [LN1.out]; decide) GL1.out (by decide) (Or.inl (by decide))); clear hr16 hb16 t1 t5 hcc2))
      go_ret
      exact ⟨rfl, below_step B0.out B23.out⟩
set_option maxHeartbeats 8000000 in
set_option maxRecDepth 100000 in
theorem LH3.calls (w : World) (hg_ : w.cell? ⟨0, 0, none⟩ = some (.iface 108 (.agg #[.pointer (some ⟨1, 33, none⟩)]))) (set_ at_ by_ : Int) (A : Option Addr) (c : Nat) (ns : List Int) (hC : Kd.C (Kd.int .i64) w A ns.length ns) (hc : ns.length ≤ c) (h1 : 0 < ns.length) (h2 : ns.length ≤ 100) (hlow : chatelainelaw0_Low.f set_ 3 = some 2) :
    Calls Tryd.prog 3 #[.int .i64 set_, .slice A ns.length c, .int .i64 at_, .int .i64 by_] w fun e w' => e = .returned (.bool true) ∧ Below w.heap.size w w' := by
  have d1 : decide (100 < (ns.length : Int)) = false := decide_eq_false (by omega)
  have d1' : decide (100 < ns.length) = false := decide_eq_false (by omega)
  have d2 : ((ns.length : Int) == 0) = false := by rw [beq_eq_false_iff_ne]; omega
  have HG := Aside0.mk hg_
  have HC := Aside0.mk hC
  have Hc := Aside0.mk hc
  have HL := Aside0.mk (And.intro h1 h2)
  have HLOW := Aside0.mk hlow
  have OF : Aside0 (∀ w', Calls Tryd.prog 8 #[.int .i64 3] w' fun e w'' => e = .returned (.tuple #[.agg #[.int .i64 8, .int .i64 7, .int .i64 2, .int .i64 60, .int .i64 120, .int .i64 75, .int .i64 524288, .int .i64 261888, .int .i64 64], .bool true]) ∧ Below w'.heap.size w' w'') := ⟨fun w' => lay_Of.calls 3 8 7 2 60 120 75 524288 261888 64 true w' rfl⟩
  clear hg_ hC hc hlow
  go_enter Tryd.func3, Tryd.ntmps3
  go_wp2_with (first | (go_at_call 8; (with_reducible refine (OF.out _).mono ?_); rintro e w2 ⟨rfl, hb2⟩; have B2 := Aside0.mk (below_step B1.out hb2); clear hb2) | (go_at_call 7; (with_reducible refine (chatelainelaw0_Low.calls _ _ _ _ HLOW.out).mono ?_); rintro e w1 ⟨rfl, hd1⟩; have B1 := Aside0.mk hd1.below; clear hd1))
  obtain ⟨w0, hw0⟩ : ∃ w0, w0 = w2.alloc (.cells #[.int .i64 8, .int .i64 7, .int .i64 2, .int .i64 60, .int .i64 120, .int .i64 75, .int .i64 524288, .int .i64 261888, .int .i64 64] 26 (0, 0)) := ⟨_, rfl⟩
  have B0 : Aside0 (Below w.heap.size w w0) := ⟨by rw [hw0]; exact below_alloc B2.out _⟩
  have P0 : Aside0 (w0.cell? ⟨w2.heap.size, 0, none⟩ = some (.int .i64 8)) := ⟨by rw [hw0]; exact (blk_cell (blk_new _ _) 0).trans rfl⟩
  rw [← hw0]
  clear hw0
  have LOWA : Aside0 (∀ a w', Calls Tryd.prog 7 #[.int .i64 a, .int .i64 16] w' fun e w'' => ∃ r : Nat, r < 16 ∧ e = .returned (.int .i64 (r : Int)) ∧ Below w'.heap.size w' w'') := ⟨fun a w' => by
    obtain ⟨r, hr, hf⟩ := LayM.low_ok a 16 (by decide) (by decide)
    exact (chatelainelaw0_Low.calls _ _ _ w' hf).mono fun e w'' h => ⟨r, hr, h.1, h.2.below⟩⟩
  generalize w2.heap.size = gp at *
  go_loopg [13, 14, 15] 8 (fun kq v13 v14 v15 w' => ∃ (i : Nat) (ws : List (List Int)), v15 = .int .i64 (i : Int) ∧ Aside0 (i + kq = 8 ∧ ws.length = i ∧ ∀ f ∈ ws, okL 16 f) ∧ Aside0 (Kd.S (Kd.slice 3 (Kd.int .i64)) 22 w' w0.heap.size (fun _ => True) v13 ws) ∧ Aside0 (Kd.R (Kd.int .u8) 5 w' w0.heap.size (fun _ => True) v14 (ws.flatMap (LayM.pk 4))) ∧ Aside0 (Below w0.heap.size w0 w'))
  case atStart => exact ⟨0, [], rfl, ⟨by omega, rfl, fun f hf => absurd hf (by simp)⟩, ⟨Kd.S_nil _ _ _ _ _⟩, ⟨Kd.R_nil _ _ _ _ _⟩, ⟨Below.refl _ _⟩⟩
  case round =>
    obtain ⟨i, ws, rfl, HJ, SW, RW, HB⟩ := hrel
    have hp := pw_cell_below HB.out P0.out
    by_cases ci : i < 8
    · have z1 : decide ((i : Int) < 8) = true := decide_eq_true (by omega)
      have z1' : decide (i < 8) = true := decide_eq_true ci
      cases gk with
      | zero => have := HJ.out.1; omega
      | succ k1 =>
        go_wp2_with (first | ((with_reducible refine gate_dst (N := 72) rfl ?_); refine Kd.R_make (Kd.int .i64) _ 3 rfl (N := 72) rfl 22 _ _ rfl 256 rfl rfl Tryd.underlying22 (.int .i64 0) 8 info3 rfl (by decide) (by omega) 0 (ok := fun _ => True) (okp := fun _ => True) rfl (fun _ hk => hk) trivial (by omega) (by omega) (Below.refl _ _) (Nat.le_refl _) ?_; intro v5 w5 ho hb hg_ hnew_; clear hg_ hnew_; simp only [Int.reduceToNat] at ho; have BF := Aside0.mk hb; obtain ⟨A5, c5, rfl⟩ := Kd.R_slice ho; simp only [List.length_replicate] at ho; rw [List.length_replicate]; have RF := Aside0.mk ho; clear ho hb))
        obtain ⟨gf, cf, ef, gb, gl, cl, HGf⟩ := Kd.R_form RF.out (by rw [List.length_replicate]; decide)
        (first | cases ef | (injection ef with ea_ en_ ec_; (first | subst ea_ | (injection ea_ with ea_; subst ea_)); subst ec_; clear en_))
        have GF : Aside0 (wr.heap.size ≤ gf) := ⟨gb⟩
        clear gb gl HGf
        have HBW := Aside0.mk (below_step B0.out HB.out)
        have HCI := Aside0.mk ci
        have OK0 : Aside0 (okL 16 (List.replicate 256 0)) := ⟨⟨List.length_replicate, fun x hx => by rw [List.eq_of_mem_replicate hx]; decide⟩⟩
        go_loopg [17] 256 (fun kq v17 w' => ∃ (k : Nat) (fs : List Int), v17 = .int .i64 (k : Int) ∧ Aside0 (k + kq = 256 ∧ okL 16 fs) ∧ Aside0 (Kd.R (Kd.int .i64) 3 w' wr.heap.size (fun _ => True) (.slice (some ⟨gf, 0, none⟩) 256 c5) fs) ∧ Aside0 (Below wr.heap.size wr w'))
        case atStart => exact ⟨0, _, rfl, ⟨by omega, OK0.out⟩, RF, BF⟩
        case round =>
          clear RF BF OK0
          obtain ⟨k, fs, rfl, HK, RF, BF⟩ := hrel
          by_cases ck : k < 256
          · have u1 : decide ((k : Int) < 256) = true := decide_eq_true (by omega)
            have u1' : decide (k < 256) = true := decide_eq_true ck
            cases gk with
            | zero => have := HK.out.1; omega
            | succ k2 =>
              have BX := Aside0.mk (below_step HBW.out BF.out)
              obtain ⟨y, hy⟩ : ∃ y : Nat, y = k % ns.length := ⟨_, rfl⟩
              have hyl : y < ns.length := by rw [hy]; exact Nat.mod_lt _ (by omega)
              have ty : Int.tmod (k : Int) (ns.length : Int) = (y : Int) := by rw [Int.tmod_eq_emod_of_nonneg (by omega), hy]; omega
              obtain ⟨ad, xg, rfl, hxg⟩ := ns_at HC.out y hyl
              replace hxg := pw_cell_below BX.out hxg
              have v1 : ((ns.length : Int) = 0) = False := eq_false (by omega)
              have v2 : (0 ≤ (y : Int)) = True := eq_true (by omega)
              have v3 : ((y : Int) < (ns.length : Int)) = True := eq_true (by omega)
              have v4 : (0 ≤ (k : Int)) = True := eq_true (by omega)
              have v5 : ((k : Int) < 256) = True := eq_true (by omega)
              have HK0 : Aside0 (0 ≤ (k : Int) ∧ (k : Int) < ((256 : Nat) : Int)) := ⟨by omega⟩
              have HCK := Aside0.mk ck
              clear hy
              go_wp2_with (first | (go_at_call 7; (with_reducible refine (LOWA.out _ _).mono ?_); rintro e w6 ⟨x, hx, rfl, hb6⟩; have RF6 := Aside0.mk (Kd.R_below RF.out hb6); have BF6 := Aside0.mk (below_step BF.out hb6); have HX := Aside0.mk hx; obtain ⟨hq, hfq⟩ := Kd.R_celln 0 RF6.out (k : Int) HK0.out.1 HK0.out.2; rw [Int.toNat_natCast] at hq hfq; clear hb6 hx))
              go_roundg k2
              case measure => omega
              case rel => exact ⟨k + 1, fs.set k (x : Int), (by
                have hw : wrap64 ((k : Int) + 1) = ((k + 1 : Nat) : Int) := by have := HCK.out; unfold wrap64; omega
                first | rfl | (rw [← hw]; rfl) | (simp [*]; done)), ⟨by have := HK.out.1; omega, HK.out.2.set k ⟨by omega, by have := HX.out; omega⟩⟩, ⟨by have := Kd.R_putn RF6.out (k : Int) (x : Int); rw [Int.toNat_natCast] at this; exact this⟩, ⟨below_set BF6.out GF.out⟩⟩
          · have u1 : decide ((k : Int) < 256) = false := decide_eq_false (by omega)
            have u1' : decide (k < 256) = false := decide_eq_false ck
            clear ck
            have FV : Aside0 (∀ k, (Value.slice (some ⟨gf, 0, none⟩) 256 c5).ownBlock = some k → k = gf) := ⟨fun k h => by simpa [Value.ownBlock] using h.symm⟩
            have FV2 : Aside0 ((Value.slice (some ⟨gf, 0, none⟩) 256 c5).ownBlock = some gf) := ⟨by simp [Value.ownBlock]⟩
            have SO := Aside0.mk (Kd.S_old SW.out BF.out)
            have HB2 := Aside0.mk (below_step HB.out BF.out)
            have RF2 := Aside0.mk (Kd.R_lower RF.out HB.out.size)
            have RW2 := Aside0.mk (Kd.R_below RW.out BF.out)
            have RF3 := Aside0.mk (Kd.R_apart' RF2.out (Kd.S_typed SO.out) (by decide))
            have FL : Aside0 (fs.length = 256) := ⟨HK.out.2.1⟩
            have HW4 : Aside0 (ws.length ≤ 8) := ⟨by have := HJ.out.2.1; omega⟩
            obtain ⟨X, hX⟩ : ∃ X, X = ws.flatMap (LayM.pk 4) := ⟨_, rfl⟩
            obtain ⟨P, hP⟩ : ∃ P, P = LayM.pk 4 fs := ⟨_, rfl⟩
            rw [← hX] at RW2
            have HXL : Aside0 (X.length + P.length < 100000) := ⟨by
              rw [hX, hP, pkL_len (d := 4) HK.out.2, flat_len (d := 4) _ HJ.out.2.2]
              have := HW4.out
              omega⟩
            have HXP := Aside0.mk (And.intro hX hP)
            have PK : Aside0 (∀ w' A c, Kd.C (Kd.int .i64) w' A 256 fs → 256 ≤ c → Calls Tryd.prog 9 #[.int .i64 4, .slice A 256 c] w' fun e w'' => ∃ A' c', e = .returned (.slice A' P.length c') ∧ Kd.R (Kd.int .u8) 5 w'' w'.heap.size (fun _ => True) (.slice A' P.length c') P ∧ Below w'.heap.size w' w'') := ⟨fun w' A c h1 h2 => by
              have h3 := bits_Pack.calls 10000 4 A c fs (LayM.pk 4 fs) w' (by rw [FL.out]; exact h1) (by rw [FL.out]; exact h2) (pkL_f (by decide) (by decide) HK.out.2 (by decide))
              rw [FL.out] at h3
              refine h3.mono ?_
              rintro e w'' ⟨v, q1, q2, q3⟩
              rw [← HXP.out.2] at q2
              obtain ⟨A', c', rfl⟩ := Kd.R_slice q2
              exact ⟨A', c', q1, q2, q3⟩⟩
            have HC5 : Aside0 (256 ≤ c5) := ⟨(Kd.R_reads' RF.out).2.1⟩
            clear hX hP RW
            go_wp2_with (first | ((with_reducible refine gate_builtin (b := .append) (xs := #[.tmp 97, .tmp 100]) rfl ?_); at_builtin; refine Kd.R_append_rows (Kd.int .u8) (w0 := w0) w0.heap.size rfl (.tmp 97) (.tmp 100) 30 5 (.int .u8 0) 1 rfl Tryd.underlying30 info5 rfl (by decide) (by omega) u14 X P _ _ _ (fun k_ => some k_ ≠ (.slice A8 P.length c8 : Value).ownBlock) (fun _ => False) rfl rfl ?aO ?aR (fun _ _ h => h) (fun _ h => h.elim) ?aF ?aB ?aS ?aL ?_; (case aR => exact (Kd.R_reads' RP.out).2.2); (case aB => exact B8.out); (case aF => exact (fun k_ hk => Kd.fresh' (Kd.R_lt RP.out) k_ hk)); (case aO => exact (Kd.R_mono W8.out (fun _ hk => hk.2))); (case aS => exact B8.out.size); (case aL => have := HXL.out; omega); intro v9 w9 ho hb hg hat; have W9 := Aside0.mk (Kd.R_mono (ok' := fun _ => True) ho (fun _ _ => trivial)); have B9 := Aside0.mk hb; have S9 := Aside0.mk (Kd.S_over' S8.out (Kd.R_typed W8.out) (by decide) hg); clear ho hb hg hat) | (go_at_call 9; (with_reducible refine (PK.out _ _ _ (by have h_ := (Kd.R_reads' F7.out).2.2; rw [FL.out] at h_; exact h_) HC5.out).mono ?_); rintro e w8 ⟨A8, c8, rfl, hr8, hb8⟩; have RP := Aside0.mk hr8; have S8 := Aside0.mk (Kd.S_below S7.out hb8); have W8 := Aside0.mk (Kd.R_elder' W7.out (Kd.R_base hr8) hb8); have B8 := Aside0.mk (below_step B7.out hb8); clear hr8 hb8) | ((with_reducible refine gate_builtin (b := .append) (xs := #[.tmp 93, .tmp 95]) rfl ?_); at_builtin; refine Kd.S_append (Kd.slice 3 (Kd.int .i64)) (w0 := w0) w0.heap.size rfl (.tmp 93) (.tmp 95) 29 22 (.slice none 0 0) 24 rfl Tryd.underlying29 info22 rfl (by decide) (by omega) u13 ws fs [.slice (some ⟨gf, 0, none⟩) 256 c5] (fun _ => True) (fun k_ => some k_ = (.slice (some ⟨gf, 0, none⟩) 256 c5 : Value).ownBlock) rfl rfl ?aP (fun k_ hk_ => RF3.out.1 k_ hk_.symm) ?aF ?aO ?aB ?aS ?aL ?_; (case aP => exact Kd.M_row (Kd.R_mono (Kd.R_tight rfl RF3.out) (fun _ h_ => h_))); (case aB => exact HB2.out); (case aF => exact (fun _ _ => trivial)); (case aO => exact (Kd.S_mono SO.out (fun k_ hk => ⟨trivial, fun e_ => Nat.not_le.2 hk.2 (by have e2_ := FV.out k_ e_.symm; rw [e2_]; exact GF.out)⟩))); (case aS => exact HB2.out.size); (case aL => have := HW4.out; omega); intro v7 w7 ho hb hg hat; have S7 := Aside0.mk ho; have B7 := Aside0.mk hb; have F7 := Aside0.mk (Kd.R_grown RF3.out hg (fun k hk => hk.2)); have W7 := Aside0.mk (Kd.R_over' RW2.out (Kd.S_typed SO.out) (by decide) hg); clear ho hb hg hat))
            go_roundg k1
            case measure => omega
            case rel => exact ⟨i + 1, ws ++ [fs], (by
              have hw : wrap64 ((i : Int) + 1) = ((i + 1 : Nat) : Int) := by have := HCI.out; unfold wrap64; omega
              first | rfl | (rw [← hw]; rfl) | (simp [*]; done)), ⟨by have := HJ.out.1; omega, by rw [List.length_append, HJ.out.2.1]; rfl, fun f hf => by
                rcases List.mem_append.mp hf with h | h
                · exact HJ.out.2.2 f h
                · rw [List.mem_singleton.mp h]; exact HK.out.2⟩, S9, ⟨by rw [List.flatMap_append, List.flatMap_singleton, ← HXP.out.1, ← HXP.out.2]; exact W9.out⟩, B9⟩
    · have z1 : decide ((i : Int) < 8) = false := decide_eq_false (by omega)
      have z1' : decide (i < 8) = false := decide_eq_false ci
      have HWL : Aside0 (ws.length = 8) := ⟨by have := HJ.out; omega⟩
      have HOK : Aside0 (∀ f ∈ ws, okL 16 f) := ⟨HJ.out.2.2⟩
      have BLN : Aside0 ((ws.flatMap (LayM.pk 4)).length = 1024) := ⟨by rw [flat_len (d := 4) _ HOK.out, HWL.out]⟩
      clear ci HJ
      have HY : Aside0 (∀ w' A c, Kd.C (Kd.slice 3 (Kd.int .i64)) w' A 8 ws → 8 ≤ c → Calls Tryd.prog 10 #[.int .i64 3, .slice A 8 c] w' fun e w'' => ∃ A' c', e = .returned (.tuple #[.slice A' 1024 c', .nilIface]) ∧ Kd.R (Kd.int .u8) 5 w'' w'.heap.size (fun _ => True) (.slice A' 1024 c') (ws.flatMap (LayM.pk 4)) ∧ Below w'.heap.size w' w'') := ⟨fun w' A c h1 h2 => by
        have h3 := lay_High.calls 10000 3 A c ws (ws.flatMap (LayM.pk 4)) [] w' (by rw [HWL.out]; exact h1) (by rw [HWL.out]; exact h2) (LayM.high_yes par3 10000 ws HOK.out HWL.out (by decide))
        rw [HWL.out] at h3
        refine h3.mono ?_
        rintro e w'' ⟨v0, v1, q1, q2, q3, q4⟩
        obtain rfl := err_nil q3
        obtain ⟨A', c', rfl⟩ := Kd.R_slice q2
        rw [BLN.out] at q1 q2
        exact ⟨A', c', q1, q2, q4⟩⟩
      have HN : Aside0 (∀ (l : List (List Int)) (n : Nat) w' A c, l.length = n → n < 1000 → Kd.C (Kd.slice 3 (Kd.int .i64)) w' A n l → n ≤ c → (n ≠ 8 ∨ ∃ f ∈ l, lay_bad 16 f = true) → Calls Tryd.prog 10 #[.int .i64 3, .slice A n c] w' fun e w'' => ∃ vb g, e = .returned (.tuple #[vb, .iface 63 (.pointer (some ⟨g, 0, none⟩))]) ∧ Kd.R k67 67 w'' w'.heap.size (fun _ => True) (eRow (.iface 63 (.pointer (some ⟨g, 0, none⟩)))) [⟨3, ⟨#[108, 97, 121]⟩⟩] ∧ Below w'.heap.size w' w'') := ⟨fun l n w' A c hn hn2 h1 h2 h4 => by
        subst hn
        obtain ⟨b, hb⟩ := LayM.high_no par3 10000 l hn2 h4
        refine (lay_High.calls 10000 3 A c l b _ w' h1 h2 hb).mono ?_
        rintro e w'' ⟨v0, v1, q1, q2, q3, q4⟩
        obtain ⟨g, rfl⟩ := err_one q3
        exact ⟨v0, g, q1, q3, q4⟩⟩
      obtain ⟨gw, cw, rfl, _, _, _⟩ := Kd.S_form SW.out (by rw [HWL.out]; decide)
      have SW0 := SW.out
      rw [HWL.out] at SW0 ⊢
      have SW1 : Aside0 (Kd.S (Kd.slice 3 (Kd.int .i64)) 22 wr w0.heap.size (fun _ => True) (.slice (some ⟨gw, 0, none⟩) 8 cw) ws) := ⟨SW0⟩
      clear SW0 SW
      have HCW : Aside0 (8 ≤ cw) := ⟨(Kd.S_reads' SW1.out).2.1⟩
      have SC : Aside0 (∀ w' (l : List (List Int)), l.length = 8 → Kd.S (Kd.slice 3 (Kd.int .i64)) 22 w' w0.heap.size (fun _ => True) (.slice (some ⟨gw, 0, none⟩) 8 cw) l → Kd.C (Kd.slice 3 (Kd.int .i64)) w' (some ⟨gw, 0, none⟩) 8 l) := ⟨fun w' l hl h => by
        have := (Kd.S_reads' h).2.2
        rw [hl] at this
        exact this⟩
      obtain ⟨AV, cv, rfl⟩ := Kd.R_slice RW.out
      have RW0 := RW.out
      rw [BLN.out] at RW0 ⊢
      have RW1 : Aside0 (Kd.R (Kd.int .u8) 5 wr w0.heap.size (fun _ => True) (.slice AV 1024 cv) (ws.flatMap (LayM.pk 4))) := ⟨RW0⟩
      clear RW0 RW
      obtain ⟨ib, hib, _, hszb, _⟩ := info_parts info22
      have hcut := cut_from (P := Tryd.prog) 29 22 .i64 Tryd.underlying29 hib 1 hszb (some ⟨gw, 0, none⟩) 8 cw 1 (by decide) (by decide)
      obtain ⟨A1, hA1⟩ : ∃ X, X = (if cw = 1 then some (⟨gw, 0, none⟩ : Addr) else (some (⟨gw, 0, none⟩ : Addr)).map (·.add (1 * 1))) := ⟨_, rfl⟩
      simp only [show ((1 : Int)).toNat = 1 from rfl, ← hA1, show 8 - 1 = 7 from rfl] at hcut
      have DR : Aside0 (∀ w', Kd.C (Kd.slice 3 (Kd.int .i64)) w' (some ⟨gw, 0, none⟩) 8 ws → Kd.C (Kd.slice 3 (Kd.int .i64)) w' A1 7 (ws.drop 1)) := ⟨fun w' h => by
        rw [← HWL.out] at h
        have h2 := Kd.C_drop h (m := 1) (c := cw) (by rw [HWL.out]; decide) (by rw [HWL.out]; exact HCW.out)
        rw [List.length_drop, HWL.out] at h2
        rw [hA1]
        exact h2⟩
      have DL : Aside0 ((ws.drop 1).length = 7) := ⟨by rw [List.length_drop, HWL.out]⟩
      obtain ⟨a, ha, hfa⟩ := LayM.low_ok at_ 8 (by decide) (by decide)
      obtain ⟨r, hr, hfr⟩ := LayM.low_ok by_ 3 (by decide) (by decide)
      have LOWK : Aside0 (chatelainelaw0_Low.f at_ 8 = some (a : Int)) := ⟨hfa⟩
      have LOWR : Aside0 (chatelainelaw0_Low.f by_ 3 = some (r : Int)) := ⟨hfr⟩
      have LOWB : Aside0 (∀ x w', Calls Tryd.prog 7 #[.int .i64 x, .int .i64 256] w' fun e w'' => ∃ b : Nat, b < 256 ∧ e = .returned (.int .i64 (b : Int)) ∧ Below w'.heap.size w' w'') := ⟨fun x w' => by
        obtain ⟨b, hb, hf⟩ := LayM.low_ok x 256 (by decide) (by decide)
        exact (chatelainelaw0_Low.calls _ _ _ w' hf).mono fun e w'' h => ⟨b, hb, h.1, h.2.below⟩⟩
      have HA := Aside0.mk ha
      have hwr : IntKind.i64.wrap (16 + (r : Int)) = 16 + (r : Int) := (i64_w _).trans (PackH.w64 (by omega) (by omega))
      have ha2 : ((a : Int) < 8) = True := eq_true (by omega)
      have ha3 : (0 ≤ (a : Int)) = True := eq_true (by omega)
      have BAD : Aside0 (∀ (l : List (List Int)) (i j : Nat) (x : Int), i < l.length → (l.getD i []).length = 256 → j < 256 → (x < 0 ∨ 16 ≤ x) → ∃ f ∈ l.set i ((l.getD i []).set j x), lay_bad 16 f = true) := ⟨fun l i j x hi hl2 hj hx => bad_set l i j x 16 hi hl2 hj hx⟩
      have GL : Aside0 (∀ i, i < 8 → (ws.getD i []).length = 256) := ⟨fun i hi => by
        rw [List.getD_eq_getElem?_getD, List.getElem?_eq_getElem (by rw [HWL.out]; exact hi)]
        exact (HOK.out _ (List.getElem_mem _)).1⟩
      have SAME : Aside0 (∀ w' A c A' c', Kd.C (Kd.int .u8) w' A 1024 (ws.flatMap (LayM.pk 4)) → 1024 ≤ c → Kd.C (Kd.int .u8) w' A' 1024 (ws.flatMap (LayM.pk 4)) → 1024 ≤ c' → Calls Tryd.prog 11 #[.slice A 1024 c, .slice A' 1024 c'] w' fun e w'' => e = .returned (.bool true) ∧ Below w'.heap.size w' w'') := ⟨fun w' A c A' c' h1 h2 h3 h4 => by
        have h5 := chatelainelaw0_SameBytes.calls 10000 A c (ws.flatMap (LayM.pk 4)) A' c' (ws.flatMap (LayM.pk 4)) true w' (by rw [BLN.out]; exact h1) (by rw [BLN.out]; exact h2) (by rw [BLN.out]; exact h3) (by rw [BLN.out]; exact h4) (LayM.same_yes 10000 _ _ (by rw [BLN.out]; decide) (by decide) rfl)
        rw [BLN.out] at h5
        exact h5.mono fun e w'' h => ⟨h.1, h.2.below⟩⟩
      have NUM : Aside0 (∀ w' g, Below w0.heap.size w0 w' → Kd.R k67 67 w' w0.heap.size (fun _ => True) (eRow (.iface 63 (.pointer (some ⟨g, 0, none⟩)))) [⟨3, ⟨#[108, 97, 121]⟩⟩] → Calls Tryd.prog 12 #[.iface 63 (.pointer (some ⟨g, 0, none⟩))] w' fun e w'' => e = .returned (.int .i64 3) ∧ Below w'.heap.size w' w'') := ⟨fun w' g h1 h2 =>
        chatelainelaw0_Num.calls _ _ 3 w' (ErrIs.of h2) (pw_cell_below (below_step B0.out h1) HG.out) rfl⟩
      have AWK : Aside0 (∀ w', Below w0.heap.size w0 w' → Calls Tryd.prog 6 #[] w' fun e w'' => e = .returned (.bool true) ∧ Below w'.heap.size w' w'') := ⟨fun w' h1 => chatelainelaw11_awake.calls 100000 true w' (pw_cell_below (below_step B0.out h1) HG.out) LayM.awake_yes⟩
      clear hA1 hib hszb hfa hfr
      go_upto_region 26 with (first | (go_at_call 10; (with_reducible refine (HN.out (ws.drop 1) 7 _ _ _ DL.out (by decide) (DR.out _ (SC.out _ _ HWL.out S10.out)) (by have h_ := HCW.out; omega) (Or.inl (by decide))).mono ?_); rintro e w11 ⟨v11, g11, rfl, hr11, hb11⟩; have S11 := Aside0.mk (Kd.S_below S10.out hb11); have W11 := Aside0.mk (Kd.R_below W10.out hb11); have R11 := Aside0.mk (Kd.R_below R10.out hb11); have E11 := Aside0.mk (Kd.R_lower hr11 B10.out.size); have B11 := Aside0.mk (below_step B10.out hb11); clear hr11 hb11) | (go_at_call 10; (with_reducible refine (HY.out _ _ _ (SC.out _ _ HWL.out SW1.out) HCW.out).mono ?_); rintro e w10 ⟨A10, c10, rfl, hr10, hb10⟩; have S10 := Aside0.mk (Kd.S_below SW1.out hb10); have W10 := Aside0.mk (Kd.R_below RW1.out hb10); have R10 := Aside0.mk (Kd.R_lower hr10 HB.out.size); have B10 := Aside0.mk (below_step HB.out hb10); clear hr10 hb10))
      obtain ⟨g1, c1, hg1⟩ := cell2 S11.out a HA.out (n2 := 256) (by decide) (GL.out a HA.out)
      have HG1 := Aside0.mk hg1
      have HS0 : Aside0 (w11.cell? ⟨gp, 0, none⟩ = some (.int .i64 8) ∧ w11.cell? ⟨gw, a, none⟩ = some (.slice (some ⟨g1, 0, none⟩) 256 c1)) := ⟨⟨pw_cell_below B11.out P0.out, hg1⟩⟩
      clear hg1
      go_region_held3 (fun w' => w'.cell? ⟨gp, 0, none⟩ = some (.int .i64 8) ∧ w'.cell? ⟨gw, a, none⟩ = some (.slice (some ⟨g1, 0, none⟩) 256 c1)) (first | exact HS0.out | exact H12.out | exact H13.out | exact H14.out | exact H15.out | go_keep) (first | (go_at_call 7; (with_reducible refine (chatelainelaw0_Low.calls _ _ _ _ LOWR.out).mono ?_); rintro e w14 ⟨rfl, hb14⟩; have hb14 := hb14.below; have S14 := Aside0.mk (Kd.S_below S13.out hb14); have W14 := Aside0.mk (Kd.R_below W13.out hb14); have R14 := Aside0.mk (Kd.R_below R13.out hb14); have E14 := Aside0.mk (Kd.R_below E13.out hb14); have B14 := Aside0.mk (below_step B13.out hb14); have H14 := Aside0.mk (And.intro (pw_cell_below B14.out P0.out) (pw_cell_below hb14 H13.out.2)); obtain ⟨t1, t2, t3, t4, t5⟩ := put2w S14.out a HA.out b HBL.out (GL.out a HA.out) H14.out.2; have H15 := Aside0.mk (And.intro (pw_cell_below (below_set (j := b) (v := .int .i64 (16 + (r : Int))) B14.out t1) P0.out) (far2 (j := b) S14.out (by decide) t2 H14.out.2 (.int .i64 (16 + (r : Int))))); have T1 := Aside0.mk t1; have T2 := Aside0.mk t2; have S15 := Aside0.mk (t5 (16 + (r : Int))); clear t1 t2 t5) | (go_at_call 7; (with_reducible refine (LOWB.out _ _).mono ?_); rintro e w13 ⟨b, hb_, rfl, hb13⟩; have S13 := Aside0.mk (Kd.S_below S12.out hb13); have W13 := Aside0.mk (Kd.R_below W12.out hb13); have R13 := Aside0.mk (Kd.R_below R12.out hb13); have E13 := Aside0.mk (Kd.R_below E12.out hb13); have B13 := Aside0.mk (below_step B12.out hb13); have H13 := Aside0.mk (And.intro (pw_cell_below B13.out P0.out) (pw_cell_below hb13 H12.out.2)); have HBL := Aside0.mk hb_; have hbb1 : ((b : Int) < 256) = True := eq_true (by omega); have hbb2 : (0 ≤ (b : Int)) = True := eq_true (by omega)) | (go_at_call 7; (with_reducible refine (chatelainelaw0_Low.calls _ _ _ _ LOWK.out).mono ?_); rintro e w12 ⟨rfl, hb12⟩; have hb12 := hb12.below; have hb12 := below_undrew hb12; have S12 := Aside0.mk (Kd.S_below S11.out hb12); have W12 := Aside0.mk (Kd.R_below W11.out hb12); have R12 := Aside0.mk (Kd.R_below R11.out hb12); have E12 := Aside0.mk (Kd.R_below E11.out hb12); have B12 := Aside0.mk (below_step B11.out hb12); have H12 := Aside0.mk (And.intro (pw_cell_below B12.out P0.out) (pw_cell_below hb12 HS0.out.2))))
      obtain ⟨cc, hcc⟩ := T2.out
      have W15 := Aside0.mk (Kd.R_set W14.out hcc (by decide) b (.int .i64 (16 + (r : Int))))
      have R15 := Aside0.mk (Kd.R_set R14.out hcc (by decide) b (.int .i64 (16 + (r : Int))))
      have E15 := Aside0.mk (Kd.R_set E14.out hcc (by decide) b (.int .i64 (16 + (r : Int))))
      have B15 := Aside0.mk (below_set (j := b) (v := .int .i64 (16 + (r : Int))) B14.out T1.out)
      have BD1 := Aside0.mk (BAD.out ws a b (16 + (r : Int)) (by rw [HWL.out]; exact HA.out) (GL.out a HA.out) HBL.out (Or.inr (by omega)))
      obtain ⟨ws1, hws1⟩ : ∃ l, l = ws.set a ((ws.getD a []).set b (16 + (r : Int))) := ⟨_, rfl⟩
      have LN1 : Aside0 (ws1.length = 8) := ⟨by rw [hws1, List.length_set]; exact HWL.out⟩
      have GL1 : Aside0 ((ws1.getD 0 []).length = 256) := ⟨by rw [hws1, set_len]; exact GL.out 0 (by decide)⟩
      rw [← hws1] at S15 BD1
      clear hws1 hcc H15 T1 T2
      generalize w14.setCell ⟨g1, b, none⟩ (.int .i64 (16 + (r : Int))) = w15 at *
      have RC : Aside0 (∀ w' A c, Kd.R (Kd.int .u8) 5 w' w0.heap.size (fun _ => True) (.slice A 1024 c) (ws.flatMap (LayM.pk 4)) → Kd.C (Kd.int .u8) w' A 1024 (ws.flatMap (LayM.pk 4)) ∧ 1024 ≤ c) := ⟨fun w' A c h => by
        have h2 := Kd.R_reads' h
        have h3 := h2.2.2
        rw [BLN.out] at h3
        exact ⟨h3, h2.2.1⟩⟩
      go_wp2_with (first | (go_at_call 6; (with_reducible refine (AWK.out _ B22.out).mono ?_); rintro e w23 ⟨rfl, hb23⟩; have B23 := Aside0.mk (below_step B22.out hb23); clear hb23) | (go_at_call 12; (with_reducible refine (NUM.out _ g18 B21.out G21.out).mono ?_); rintro e w22 ⟨rfl, hb22⟩; have B22 := Aside0.mk (below_step B21.out hb22); clear hb22) | (go_at_call 12; (with_reducible refine (NUM.out _ g16 B20.out F20.out).mono ?_); rintro e w21 ⟨rfl, hb21⟩; have G21 := Aside0.mk (Kd.R_below G20.out hb21); have B21 := Aside0.mk (below_step B20.out hb21); clear hb21) | (go_at_call 12; (with_reducible refine (NUM.out _ g11 B19.out E19.out).mono ?_); rintro e w20 ⟨rfl, hb20⟩; have F20 := Aside0.mk (Kd.R_below F19.out hb20); have G20 := Aside0.mk (Kd.R_below G19.out hb20); have B20 := Aside0.mk (below_step B19.out hb20); clear hb20) | (go_at_call 11; (with_reducible refine (SAME.out _ _ _ _ _ (RC.out _ _ _ R18.out).1 (RC.out _ _ _ R18.out).2 (RC.out _ _ _ W18.out).1 (RC.out _ _ _ W18.out).2).mono ?_); rintro e w19 ⟨rfl, hb19⟩; have E19 := Aside0.mk (Kd.R_below E18.out hb19); have F19 := Aside0.mk (Kd.R_below F18.out hb19); have G19 := Aside0.mk (Kd.R_below G18.out hb19); have B19 := Aside0.mk (below_step B18.out hb19); clear hb19) | (go_at_call 10; (with_reducible refine (HN.out _ 8 _ _ _ LN2.out (by decide) (SC.out _ _ LN2.out S17.out) HCW.out (Or.inr BD2.out)).mono ?_); rintro e w18 ⟨v18, g18, rfl, hr18, hb18⟩; have W18 := Aside0.mk (Kd.R_below W17.out hb18); have R18 := Aside0.mk (Kd.R_below R17.out hb18); have E18 := Aside0.mk (Kd.R_below E17.out hb18); have F18 := Aside0.mk (Kd.R_below F17.out hb18); have B18 := Aside0.mk (below_step B17.out hb18); have G18 := Aside0.mk (Kd.R_lower hr18 B17.out.size); have hp18 := pw_cell_below B18.out P0.out; clear hr18 hb18) | (go_at_call 10; (with_reducible refine (HN.out ws1 8 _ _ _ LN1.out (by decide) (SC.out _ _ LN1.out S15.out) HCW.out (Or.inr BD1.out)).mono ?_); rintro e w16 ⟨v16, g16, rfl, hr16, hb16⟩; have S16 := Aside0.mk (Kd.S_below S15.out hb16); have W16 := Aside0.mk (Kd.R_below W15.out hb16); have R16 := Aside0.mk (Kd.R_below R15.out hb16); have E16 := Aside0.mk (Kd.R_below E15.out hb16); have B16 := Aside0.mk (below_step B15.out hb16); have F16 := Aside0.mk (Kd.R_lower hr16 B15.out.size); obtain ⟨g2, c2, hg2⟩ := cell2 S16.out 0 (n2 := 256) (by decide) (by decide) GL1.out; obtain ⟨t1, t2, t3, t4, t5⟩ := put2w S16.out 0 (by decide) 0 (by decide) GL1.out hg2; have S17 := Aside0.mk (t5 (-1)); obtain ⟨cc2, hcc2⟩ := t2; have W17 := Aside0.mk (Kd.R_set W16.out hcc2 (by decide) 0 (.int .i64 (-1))); have R17 := Aside0.mk (Kd.R_set R16.out hcc2 (by decide) 0 (.int .i64 (-1))); have E17 := Aside0.mk (Kd.R_set E16.out hcc2 (by decide) 0 (.int .i64 (-1))); have F17 := Aside0.mk (Kd.R_set F16.out hcc2 (by decide) 0 (.int .i64 (-1))); have B17 := Aside0.mk (below_set (j := 0) (v := .int .i64 (-1)) B16.out t1); have LN2 := Aside0.mk (len_s LN1.out 0 ((ws1.getD 0 []).set 0 (-1))); have BD2 := Aside0.mk (BAD.out ws1 0 0 (-1) (by rw [LN1.out]; decide) GL1.out (by decide) (Or.inl (by decide))); clear hr16 hb16 t1 t5 hcc2))
      go_ret
      exact ⟨rfl, below_step B0.out B23.out⟩
end

end Go.Proofs.YtggiddekbocokaaDoor.PLH
