import Derived.Test.YtagijaijjjaolaaDoorDkD
namespace Go.Proofs.YtagijaijjjaolaaDoor.PBL
open Go.RowKit Go.Proofs.YtagijaijjjaolaaDoorW.PrintWords Go.Proofs.YtagijaijjjaolaaDoorW.PrintLast Go.Proofs.YtagijaijjjaolaaDoorW.PrintMore
attribute [local go_sem] max2_int min2_int max_two min_two max_three min_three max_four min_four
set_option linter.unusedVariables false
set_option linter.unusedSimpArgs false
section
variable {ok ok2 : Nat → Prop}
set_option maxHeartbeats 8000000 in
set_option maxRecDepth 100000 in
theorem Rk_List.calls (o : Own) (s : DS) (w : World) (h : Dk ok 64 w o s) :
    Calls Tryd.prog 22 #[.pointer (some ⟨o.g, 0, none⟩)] w fun e w' => ∃ v, e = .returned v ∧ Kd.R (Kd.int .i64) 3 w' w.heap.size (fun _ => True) v (ints (dix s.dirty s.now.length)) ∧ Below w.heap.size w w' := by
  have HD := Aside0.mk h
  have HN := Aside0.mk h.n1
  have h0 := h.c0 rfl
  clear h
  go_enter Tryd.func22, Tryd.ntmps22
  go_wp2
  go_loopg [3, 4] s.now.length (fun kq v3 v4 w' => ∃ (j : Nat), v4 = .int .i64 (j : Int) ∧ Aside0 (j + kq = s.now.length) ∧ Aside0 (Kd.R (Kd.int .i64) 3 w' w.heap.size (fun _ => True) v3 (ints (dix s.dirty j))) ∧ Aside0 (Below w.heap.size w w'))
  case atStart => exact ⟨0, (by first | rfl | (simp; done)), ⟨by omega⟩, ⟨Kd.R_nil _ _ _ _ _⟩, ⟨Below.refl _ _⟩⟩
  case round =>
    obtain ⟨j, rfl, HJ, HR, HB⟩ := hrel
    have hDr := HD.out.below HB.out
    have q0 := hDr.c0 rfl
    have q2 := hDr.c2 rfl
    by_cases c8 : j < s.now.length
    · have c8b : decide ((j : Int) < (s.now.length : Int)) = true := decide_eq_true (by omega)
      have p1 : (0 : Int) ≤ (j : Int) := by omega
      have p2 : (j : Int) < (s.now.length : Int) := by omega
      have ab := add_plain o.bd j
      obtain ⟨b, hb, k1', z1'⟩ := hDr.kd c8
      have HBB := Aside0.mk hb
      clear hb hDr
      cases gk with
      | zero => have := HJ.out; omega
      | succ k1 =>
        cases b with
        | true =>
          go_wp2_with (first | ((with_reducible refine gate_builtin (b := .append) (xs := #[.tmp 21, .tmp 23]) rfl ?_); at_builtin; refine Kd.R_append (Kd.int .i64) (w0 := w) w.heap.size rfl (.tmp 21) (.tmp 23) 31 3 (.int .i64 0) 8 rfl Tryd.underlying31 info_int rfl (by decide) (by omega) u3 (ints (dix s.dirty j)) (j : Int) [.int .i64 (j : Int)] (fun _ => True) (fun _ => False) rfl rfl ?aP (fun _ hk => hk.elim) ?aF ?aO ?aB ?aS ?aL ?_; (case aP => exact rfl); (case aB => exact HB.out); (case aF => exact (fun _ _ => trivial)); (case aO => exact HR.out); (case aS => exact HB.out.size); (case aL => unfold ints; rw [List.length_map]; have := dix_len s.dirty j; have := HJ.out; have := HN.out; omega); intro v1 w1 ho1 hb1 hg1 ha1; have HR1 := Aside0.mk ho1; have HB1 := Aside0.mk hb1; clear ho1 hb1 hg1 ha1))
          go_roundg k1
          case measure => omega
          case rel => exact ⟨j + 1, (by
              have hw : wrap64 ((j : Int) + 1) = ((j + 1 : Nat) : Int) := by have := HJ.out; have := HN.out; unfold wrap64; omega
              first | rfl | (rw [← hw]; rfl) | (simp [*]; done)), ⟨by have := HJ.out; omega⟩, ⟨by unfold dix; rw [if_pos HBB.out]; have := HR1.out; unfold ints at this ⊢; rw [List.map_append]; exact this⟩, HB1⟩
        | false =>
          go_wp2
          go_roundg k1
          case measure => omega
          case rel => exact ⟨j + 1, (by
              have hw : wrap64 ((j : Int) + 1) = ((j + 1 : Nat) : Int) := by have := HJ.out; have := HN.out; unfold wrap64; omega
              first | rfl | (rw [← hw]; rfl) | (simp [*]; done)), ⟨by have := HJ.out; omega⟩, ⟨by unfold dix; rw [if_neg (by rw [HBB.out]; decide)]; exact HR.out⟩, HB⟩
    · have c8b : decide ((j : Int) < (s.now.length : Int)) = false := decide_eq_false (by omega)
      have c8i : (s.now.length : Int) ≤ (j : Int) := by omega
      have c8d : decide (j < s.now.length) = false := decide_eq_false c8
      obtain rfl : j = s.now.length := by have := HJ.out; omega
      clear hDr
      go_wp2
      go_ret
      exact ⟨_, rfl, HR.out, HB.out⟩

theorem Keeps.C {α : Type} {enc : α → Value} {h1 : ∀ x, (enc x).oneCell' = true} {w w' : World} {A : Option Addr} {n : Nat} {xs : List α} {S : Nat → Prop} (d : α) (hk : Keeps S w w') (h : (Kd.scalar enc h1).C w A n xs) (hA : ∀ ad, A = some ad → ¬ S ad.block) : (Kd.scalar enc h1).C w' A n xs := by
  obtain ⟨a1, a2, a3⟩ := Kd.reads_of_C (d := d) h
  refine Kd.C_of_reads (d := d) ⟨a1, a2, fun hn => ?_⟩
  obtain ⟨ad, e, hcl⟩ := a3 hn
  refine ⟨ad, e, fun j hj => ?_⟩
  have hbl : (ad.add j).block = ad.block := by unfold Addr.add; split <;> rfl
  have h2 := hcl j hj
  have hlt := World.block_lt_of_cell? w _ h2
  rw [hbl] at hlt
  rw [← h2]
  unfold World.cell?
  rw [hbl, hk.far _ hlt (hA ad e)]
theorem Keeps.Ce {w w' : World} {A : Option Addr} {xs : List Bool} {S : Nat → Prop} (hk : Keeps S w w') (h : Kd.C Kd.bool w A xs.length xs) (hA : ∀ ad, A = some ad → xs ≠ [] → ¬ S ad.block) : Kd.C Kd.bool w' A xs.length xs := by
  cases xs with
  | nil =>
    obtain ⟨a1, a2, a3⟩ := Kd.reads_of_C (d := false) h
    exact Kd.C_of_reads (d := false) ⟨a1, a2, fun hn => absurd hn (by decide)⟩
  | cons x xs => exact hk.C false h (fun ad e => hA ad e (List.cons_ne_nil _ _))
/-- Is the k-th kept? -/
def kept (keep : List Bool) (k : Nat) : Bool := decide (0 < keep.length) && keep.getD (k % keep.length) false
def DS.keep (s : DS) (i : Nat) : DS := { s with firm := s.firm.set i (s.now.getD i []) }
def DS.back (s : DS) (i : Nat) : DS := { s with now := s.now.set i (s.firm.getD i []), dirty := s.dirty.set i false }
def crashL (keep : List Bool) : List Nat → Nat → DS → Nat → DS × Nat
  | [], _, s, n => (s, n)
  | i :: r, k, s, n => if kept keep k = true then crashL keep r (k + 1) ((s.keep i).back i) (n + 1) else crashL keep r (k + 1) (s.back i) n
theorem DS.keep_now (s : DS) (i : Nat) : (s.keep i).now = s.now := rfl
theorem DS.back_len (s : DS) (i : Nat) : (s.back i).now.length = s.now.length := List.length_set
theorem Dk.keep {T : TypeId} {w : World} {o : Own} {s : DS} (h : Dk ok T w o s) (hT : T ≠ 22) {i : Nat} (hi : i < s.now.length) : ∃ q m c, w.cell? ⟨o.bn, i, none⟩ = some (.slice (some ⟨q, 0, none⟩) m c) ∧ Byt ok w (.slice (some ⟨q, 0, none⟩) m c) (s.now.getD i []) := by
  obtain ⟨vs, r, b⟩ := h.vn
  obtain ⟨u, hu, hb⟩ := b.at hi
  rw [List.getD_eq_getElem?_getD, List.getElem?_eq_getElem hi]
  obtain ⟨q, c, _, rfl, _⟩ := id hb
  exact ⟨_, _, _, r.cell hu, hb⟩
theorem Dk.back {T : TypeId} {w : World} {o : Own} {s : DS} (h : Dk ok T w o s) (hT : T ≠ 22) {i : Nat} (hi : i < s.now.length) : ∃ q m c, w.cell? ⟨o.bf, i, none⟩ = some (.slice (some ⟨q, 0, none⟩) m c) ∧ Byt ok w (.slice (some ⟨q, 0, none⟩) m c) (s.firm.getD i []) := by
  obtain ⟨vs, r, b⟩ := h.vf
  have hi2 : i < s.firm.length := by rw [h.nf]; exact hi
  obtain ⟨u, hu, hb⟩ := b.at hi2
  rw [List.getD_eq_getElem?_getD, List.getElem?_eq_getElem hi2]
  obtain ⟨q, c, _, rfl, _⟩ := id hb
  exact ⟨_, _, _, r.cell hu, hb⟩

theorem Dk.drew {T : TypeId} {w : World} {o : Own} {s : DS} (h : Dk ok T w o s) : Dk ok T w.drew o s := h.below (Below.drew (Below.refl _ _))
theorem R_ge {α : Type} {d : Kd α} {e base n c : Nat} {ok : Nat → Prop} {w : World} {A : Option Addr} {xs : List α} (h : d.R e w base ok (.slice A n c) xs) : ∀ ad, A = some ad → base ≤ ad.block := fun ad e => by subst e; exact Kd.R_base h _ rfl
theorem rd_ints (l : List Nat) (j : Nat) (h : j < l.length) : rd (ints l) (j : Int) = (l[j] : Int) := by
  unfold rd ints
  simp [List.getD_eq_getElem?_getD, h]

set_option maxHeartbeats 8000000 in
set_option maxRecDepth 100000 in
theorem Dk_Crash.calls (o : Own) (s : DS) (w : World) (h : Dk ok 58 w o s) (A1 : Option Addr) (c1 : Nat) (keep : List Bool) (hC : Kd.C Kd.bool w A1 keep.length keep) (hc : keep.length ≤ c1) (hA : ∀ ad, A1 = some ad → keep ≠ [] → ¬ o.has ad.block) :
    Calls Tryd.prog 14 #[.pointer (some ⟨o.g, 0, none⟩), .slice A1 keep.length c1] w fun e w' => e = .returned (.int .i64 ((crashL keep (dix s.dirty s.now.length) 0 s 0).2 : Int)) ∧ Dk ok 58 w' o (crashL keep (dix s.dirty s.now.length) 0 s 0).1 ∧ Keeps o.has w w' := by
  have HD := Aside0.mk h
  have HN := Aside0.mk h.n1
  have HC := Aside0.mk hC
  have Hc := Aside0.mk hc
  have HA := Aside0.mk hA
  have HLX := Aside0.mk (dix_lt s.dirty s.now.length)
  have HLL := Aside0.mk (dix_len s.dirty s.now.length)
  have hm : keep.length ≤ 9223372036854775807 := (Kd.reads_of_C (d := false) hC).2.1
  clear h hC hc hA
  go_enter Tryd.func14, Tryd.ntmps14
  go_wp2_with (first | (go_at_call 13; refine (Dk_Dirty.calls o s _ HD.out).mono ?_; rintro e w1 ⟨v1, rfl, ho1, hb1⟩; obtain ⟨A9, c9, rfl⟩ := Kd.R_slice ho1; have HO1 := Aside0.mk ho1; have HB1 := Aside0.mk hb1; have el : (ints (dix s.dirty s.now.length)).length = (dix s.dirty s.now.length).length := List.length_map _; rw [el]; have EL := Aside0.mk el; clear ho1 hb1 el))
  generalize hX : dix s.dirty s.now.length = X at *
  go_loopg [5, 11] X.length (fun kq v5 v11 w' => ∃ (j n : Nat) (s' : DS), v11 = .int .i64 (j : Int) ∧ v5 = .int .i64 (n : Int) ∧ Aside0 (j + kq = X.length) ∧ Aside0 (n ≤ j) ∧ Aside0 (crashL keep (X.drop j) j s' n = crashL keep X 0 s 0) ∧ Aside0 (Dk ok 58 w' o s') ∧ Aside0 (s'.now.length = s.now.length) ∧ Aside0 (Keeps o.has w w') ∧ Aside0 (Keeps o.has w1 w'))
  case atStart => exact ⟨0, 0, s, (by first | rfl | (simp; done)), (by first | rfl | (simp; done)), ⟨by omega⟩, ⟨by omega⟩, ⟨rfl⟩, ⟨HD.out.below HB1.out⟩, ⟨rfl⟩, ⟨Keeps.of_below HB1.out⟩, ⟨Keeps.refl _ _⟩⟩
  case round =>
    obtain ⟨j, n, s', rfl, rfl, HJ, HNJ, HR, HD', HL', HK, HK1⟩ := hrel
    by_cases c8 : j < X.length
    · have c8b : decide ((j : Int) < (X.length : Int)) = true := decide_eq_true (by omega)
      have p1 : (0 : Int) ≤ (j : Int) := by omega
      have p2 : (j : Int) < (X.length : Int) := by omega
      have hC9 : Kd.C (Kd.int .i64) wr A9 X.length (ints X) := by
        have h9 := (Kd.R_reads' HO1.out).2.2
        rw [EL.out] at h9
        exact HK1.out.C (0 : Int) h9 (fun ad e ho => by
          have h1 := R_ge HO1.out ad e
          have h2 := HD.out.lt _ ho
          omega)
      obtain ⟨ad9, e9, hx9⟩ := Kd.at_int hC9 (j : Int) p1 p2
      rw [rd_ints X j c8] at hx9
      have hdrop : X.drop j = X[j] :: X.drop (j + 1) := List.drop_eq_getElem_cons c8
      have hil := HLX.out X[j] (List.getElem_mem c8)
      have hR := HR.out
      rw [hdrop] at hR
      clear hdrop hC9 HR
      subst e9
      simp only [Int.toNat_natCast] at hx9
      generalize X[j] = i at *
      have HI := Aside0.mk hil
      have HRR := Aside0.mk hR
      have hCk := HK.out.Ce HC.out HA.out
      have pi1 : (0 : Int) ≤ (i : Int) := by omega
      have pi2 : (i : Int) < (s.now.length : Int) := by omega
      have an := add_plain o.bn i
      have af := add_plain o.bf i
      have adp := add_plain o.bd i
      have HL2 := HL'
      clear hR
      cases gk with
      | zero => have := HJ.out; omega
      | succ k1 =>
        by_cases g0 : 0 < keep.length
        · have g1 : decide ((keep.length : Int) > 0) = true := decide_eq_true (by omega)
          have g2 : decide ((0 : Int) < (keep.length : Int)) = true := decide_eq_true (by omega)
          have g3 : decide (0 < keep.length) = true := decide_eq_true g0
          have gm : j % keep.length < keep.length := Nat.mod_lt _ g0
          have p3 : (0 : Int) ≤ (j : Int) % (keep.length : Int) := Int.emod_nonneg _ (by omega)
          have p4 : (j : Int) % (keep.length : Int) < (keep.length : Int) := Int.emod_lt_of_pos _ (by omega)
          obtain ⟨adk, ek, hxk⟩ := Kd.at_bool hCk ((j : Int) % (keep.length : Int)) p3 p4
          have e5 : ((j : Int) % (keep.length : Int)).toNat = j % keep.length := by rw [← Int.natCast_emod, Int.toNat_natCast]
          rw [e5] at hxk
          have e6 : rdOf false keep ((j : Int) % (keep.length : Int)) = keep.getD (j % keep.length) false := by unfold rdOf; rw [e5]
          have hkn : kept keep j = keep.getD (j % keep.length) false := by unfold kept; rw [g3]; rfl
          rw [e6, ← hkn] at hxk
          subst ek
          clear e6 hkn hCk
          cases hkv : kept keep j with
          | true =>
            rw [hkv] at hxk
            have HKN := Aside0.mk hkv
            clear hkv
            obtain ⟨qk, mk, ck, kk1, bk1⟩ := HD'.out.keep (by decide) (i := i) (by have := HI.out; have := HL2.out; omega)
            obtain ⟨uq, kq1, zq1⟩ := HD'.out.kf (i := i) (by have := HI.out; have := HL2.out; omega)
            have c0 := HD'.out.c0 HL2.out
            have c1 := HD'.out.c1 HL2.out
            have DA0 := HD'.out.setF (by decide) bk1 i
            have hne1 : o.bn ≠ o.bf := HD'.out.ne
            have kf2 : (wr.setCell ⟨o.bf, i, none⟩ (.slice (some ⟨qk, 0, none⟩) mk ck)).cell? ⟨o.bn, i, none⟩ = some (.slice (some ⟨qk, 0, none⟩) mk ck) := (World.cell?_setCell_other _ _ _ _ (fun e => hne1 (congrArg Addr.block e).symm)).trans kk1
            have S2 := Aside0.mk (And.intro (DA0.c0 HL2.out) (And.intro (DA0.c1 HL2.out) kf2))
            have DA := Aside0.mk (show Dk ok 58 (wr.setCell ⟨o.bf, i, none⟩ (.slice (some ⟨qk, 0, none⟩) mk ck)).drew o (s'.keep i) from DA0.drew)
            have KA := Aside0.mk (HK.out.trans (Keeps.set _ _ o.bf i (.slice (some ⟨qk, 0, none⟩) mk ck) (.inr (.inr (.inl rfl))))).drew
            have KA1 := Aside0.mk (HK1.out.trans (Keeps.set _ _ o.bf i (.slice (some ⟨qk, 0, none⟩) mk ck) (.inr (.inr (.inl rfl))))).drew
            clear bk1 DA0 hne1
            go_wp2
            go_region_held3 (fun w' => w'.cell? ⟨o.g, 0, none⟩ = some (.slice (some ⟨o.bn, 0, none⟩) s.now.length o.cn) ∧ w'.cell? ⟨o.g, 1, none⟩ = some (.slice (some ⟨o.bf, 0, none⟩) s.now.length o.cf) ∧ w'.cell? ⟨o.bn, i, none⟩ = some (.slice (some ⟨qk, 0, none⟩) mk ck)) (first | exact S2.out | go_keep) (fail)
            clear kk1 kq1 zq1 c0 c1 kf2 S2
            generalize hw2 : (wr.setCell ⟨o.bf, i, none⟩ (.slice (some ⟨qk, 0, none⟩) mk ck)).drew = w2 at *
            clear hw2
            have HL2 : Aside0 ((s'.keep i).now.length = s.now.length) := ⟨HL'.out⟩
            go_wp2
            obtain ⟨qf, mf, cf, kf1, bf1⟩ := DA.out.back (by decide) (i := i) (by have := HI.out; have := HL2.out; omega)
            obtain ⟨un, kn1, zn1⟩ := DA.out.kn (i := i) (by have := HI.out; have := HL2.out; omega)
            have HBF := Aside0.mk bf1
            have c0 := DA.out.c0 HL2.out
            have c1 := DA.out.c1 HL2.out
            have c2 := DA.out.c2 HL2.out
            have D3 := Aside0.mk (DA.out.setN (by decide) HBF.out i)
            have D4 := Aside0.mk (D3.out.setD (by decide) false i)
            obtain ⟨ud, _, kd1, zd1⟩ := D3.out.kd (i := i) (by rw [List.length_set]; have := HI.out; have := HL2.out; omega)
            have hne1 : o.bf ≠ o.bn := Ne.symm DA.out.ne
            have hne2 : o.bf ≠ o.bd := (DA.out.vf.choose_spec.1).ne DA.out.vd (by decide)
            have kf2 : (w2.setCell ⟨o.bn, i, none⟩ (.slice (some ⟨qf, 0, none⟩) mf cf)).cell? ⟨o.bf, i, none⟩ = some (.slice (some ⟨qf, 0, none⟩) mf cf) := (World.cell?_setCell_other _ _ _ _ (fun e => hne1 (congrArg Addr.block e).symm)).trans kf1
            have kf3 : ((w2.setCell ⟨o.bn, i, none⟩ (.slice (some ⟨qf, 0, none⟩) mf cf)).setCell ⟨o.bd, i, none⟩ (.bool false)).cell? ⟨o.bf, i, none⟩ = some (.slice (some ⟨qf, 0, none⟩) mf cf) := (World.cell?_setCell_other _ _ _ _ (fun e => hne2 (congrArg Addr.block e).symm)).trans kf2
            have S2 := Aside0.mk (And.intro (D3.out.c0 (List.length_set.trans HL2.out)) (And.intro (D3.out.c1 (List.length_set.trans HL2.out)) (And.intro (D3.out.c2 (List.length_set.trans HL2.out)) kf2)))
            have S3 := Aside0.mk (And.intro (D4.out.c0 (List.length_set.trans HL2.out)) (And.intro (D4.out.c1 (List.length_set.trans HL2.out)) (And.intro (D4.out.c2 (List.length_set.trans HL2.out)) kf3)))
            clear kf3 bf1 hne1 hne2
            go_region_held3 (fun w' => w'.cell? ⟨o.g, 0, none⟩ = some (.slice (some ⟨o.bn, 0, none⟩) s.now.length o.cn) ∧ w'.cell? ⟨o.g, 1, none⟩ = some (.slice (some ⟨o.bf, 0, none⟩) s.now.length o.cf) ∧ w'.cell? ⟨o.g, 2, none⟩ = some (.slice (some ⟨o.bd, 0, none⟩) s.now.length o.cd) ∧ w'.cell? ⟨o.bf, i, none⟩ = some (.slice (some ⟨qf, 0, none⟩) mf cf)) (first | exact S2.out | exact S3.out | go_keep) (fail)
            go_wp2
            go_roundg k1
            case measure => omega
            case rel => exact ⟨j + 1, n + 1, (s'.keep i).back i, (by
                have hw : wrap64 ((j : Int) + 1) = ((j + 1 : Nat) : Int) := by have := HJ.out; have := HLL.out; have := HN.out; unfold wrap64; omega
                first | rfl | (rw [← hw]; rfl) | (simp [*]; done)), (by
                have hw : wrap64 ((n : Int) + 1) = ((n + 1 : Nat) : Int) := by have := HNJ.out; have := HJ.out; have := HLL.out; have := HN.out; unfold wrap64; omega
                first | rfl | (rw [← hw]; rfl) | (simp [*]; done)), ⟨by have := HJ.out; omega⟩, ⟨by have := HNJ.out; omega⟩, ⟨by have := HRR.out; rw [crashL, if_pos HKN.out] at this; exact this⟩, ⟨D4.out.drew⟩, ⟨(DS.back_len _ i).trans HL2.out⟩, ⟨((KA.out.trans (Keeps.set _ _ o.bn i _ (.inr (.inl rfl)))).trans (Keeps.set _ _ o.bd i _ (.inr (.inr (.inr rfl))))).drew⟩, ⟨((KA1.out.trans (Keeps.set _ _ o.bn i _ (.inr (.inl rfl)))).trans (Keeps.set _ _ o.bd i _ (.inr (.inr (.inr rfl))))).drew⟩⟩
          | false =>
            rw [hkv] at hxk
            have HKN := Aside0.mk hkv
            clear hkv
            go_wp2
            obtain ⟨qf, mf, cf, kf1, bf1⟩ := HD'.out.back (by decide) (i := i) (by have := HI.out; have := HL2.out; omega)
            obtain ⟨un, kn1, zn1⟩ := HD'.out.kn (i := i) (by have := HI.out; have := HL2.out; omega)
            have HBF := Aside0.mk bf1
            have c0 := HD'.out.c0 HL2.out
            have c1 := HD'.out.c1 HL2.out
            have c2 := HD'.out.c2 HL2.out
            have D3 := Aside0.mk (HD'.out.setN (by decide) HBF.out i)
            have D4 := Aside0.mk (D3.out.setD (by decide) false i)
            obtain ⟨ud, _, kd1, zd1⟩ := D3.out.kd (i := i) (by rw [List.length_set]; have := HI.out; have := HL2.out; omega)
            have hne1 : o.bf ≠ o.bn := Ne.symm HD'.out.ne
            have hne2 : o.bf ≠ o.bd := (HD'.out.vf.choose_spec.1).ne HD'.out.vd (by decide)
            have kf2 : (wr.setCell ⟨o.bn, i, none⟩ (.slice (some ⟨qf, 0, none⟩) mf cf)).cell? ⟨o.bf, i, none⟩ = some (.slice (some ⟨qf, 0, none⟩) mf cf) := (World.cell?_setCell_other _ _ _ _ (fun e => hne1 (congrArg Addr.block e).symm)).trans kf1
            have kf3 : ((wr.setCell ⟨o.bn, i, none⟩ (.slice (some ⟨qf, 0, none⟩) mf cf)).setCell ⟨o.bd, i, none⟩ (.bool false)).cell? ⟨o.bf, i, none⟩ = some (.slice (some ⟨qf, 0, none⟩) mf cf) := (World.cell?_setCell_other _ _ _ _ (fun e => hne2 (congrArg Addr.block e).symm)).trans kf2
            have S2 := Aside0.mk (And.intro (D3.out.c0 (List.length_set.trans HL2.out)) (And.intro (D3.out.c1 (List.length_set.trans HL2.out)) (And.intro (D3.out.c2 (List.length_set.trans HL2.out)) kf2)))
            have S3 := Aside0.mk (And.intro (D4.out.c0 (List.length_set.trans HL2.out)) (And.intro (D4.out.c1 (List.length_set.trans HL2.out)) (And.intro (D4.out.c2 (List.length_set.trans HL2.out)) kf3)))
            clear kf3 bf1 hne1 hne2
            go_region_held3 (fun w' => w'.cell? ⟨o.g, 0, none⟩ = some (.slice (some ⟨o.bn, 0, none⟩) s.now.length o.cn) ∧ w'.cell? ⟨o.g, 1, none⟩ = some (.slice (some ⟨o.bf, 0, none⟩) s.now.length o.cf) ∧ w'.cell? ⟨o.g, 2, none⟩ = some (.slice (some ⟨o.bd, 0, none⟩) s.now.length o.cd) ∧ w'.cell? ⟨o.bf, i, none⟩ = some (.slice (some ⟨qf, 0, none⟩) mf cf)) (first | exact S2.out | exact S3.out | go_keep) (fail)
            go_wp2
            go_roundg k1
            case measure => omega
            case rel => exact ⟨j + 1, n, (s').back i, (by
                have hw : wrap64 ((j : Int) + 1) = ((j + 1 : Nat) : Int) := by have := HJ.out; have := HLL.out; have := HN.out; unfold wrap64; omega
                first | rfl | (rw [← hw]; rfl) | (simp [*]; done)), (by
                have hw : wrap64 ((n : Int) + 1) = ((n + 1 : Nat) : Int) := by have := HNJ.out; have := HJ.out; have := HLL.out; have := HN.out; unfold wrap64; omega
                first | rfl | (rw [← hw]; rfl) | (simp [*]; done)), ⟨by have := HJ.out; omega⟩, ⟨by have := HNJ.out; omega⟩, ⟨by have := HRR.out; rw [crashL, if_neg (show ¬ (kept keep j = true) from by rw [HKN.out]; decide)] at this; exact this⟩, ⟨D4.out.drew⟩, ⟨(DS.back_len _ i).trans HL2.out⟩, ⟨((HK.out.trans (Keeps.set _ _ o.bn i _ (.inr (.inl rfl)))).trans (Keeps.set _ _ o.bd i _ (.inr (.inr (.inr rfl))))).drew⟩, ⟨((HK1.out.trans (Keeps.set _ _ o.bn i _ (.inr (.inl rfl)))).trans (Keeps.set _ _ o.bd i _ (.inr (.inr (.inr rfl))))).drew⟩⟩
        · have g1 : decide ((keep.length : Int) > 0) = false := decide_eq_false (by omega)
          have g2 : decide ((0 : Int) < (keep.length : Int)) = false := decide_eq_false (by omega)
          have g3 : decide (0 < keep.length) = false := decide_eq_false g0
          have g4 : (keep.length : Int) ≤ 0 := by omega
          have hkn : kept keep j = false := by unfold kept; rw [g3]; rfl
          have HKN := Aside0.mk hkn
          clear hkn hCk
          go_wp2
          obtain ⟨qf, mf, cf, kf1, bf1⟩ := HD'.out.back (by decide) (i := i) (by have := HI.out; have := HL2.out; omega)
          obtain ⟨un, kn1, zn1⟩ := HD'.out.kn (i := i) (by have := HI.out; have := HL2.out; omega)
          have HBF := Aside0.mk bf1
          have c0 := HD'.out.c0 HL2.out
          have c1 := HD'.out.c1 HL2.out
          have c2 := HD'.out.c2 HL2.out
          have D3 := Aside0.mk (HD'.out.setN (by decide) HBF.out i)
          have D4 := Aside0.mk (D3.out.setD (by decide) false i)
          obtain ⟨ud, _, kd1, zd1⟩ := D3.out.kd (i := i) (by rw [List.length_set]; have := HI.out; have := HL2.out; omega)
          have hne1 : o.bf ≠ o.bn := Ne.symm HD'.out.ne
          have hne2 : o.bf ≠ o.bd := (HD'.out.vf.choose_spec.1).ne HD'.out.vd (by decide)
          have kf2 : (wr.setCell ⟨o.bn, i, none⟩ (.slice (some ⟨qf, 0, none⟩) mf cf)).cell? ⟨o.bf, i, none⟩ = some (.slice (some ⟨qf, 0, none⟩) mf cf) := (World.cell?_setCell_other _ _ _ _ (fun e => hne1 (congrArg Addr.block e).symm)).trans kf1
          have kf3 : ((wr.setCell ⟨o.bn, i, none⟩ (.slice (some ⟨qf, 0, none⟩) mf cf)).setCell ⟨o.bd, i, none⟩ (.bool false)).cell? ⟨o.bf, i, none⟩ = some (.slice (some ⟨qf, 0, none⟩) mf cf) := (World.cell?_setCell_other _ _ _ _ (fun e => hne2 (congrArg Addr.block e).symm)).trans kf2
          have S2 := Aside0.mk (And.intro (D3.out.c0 (List.length_set.trans HL2.out)) (And.intro (D3.out.c1 (List.length_set.trans HL2.out)) (And.intro (D3.out.c2 (List.length_set.trans HL2.out)) kf2)))
          have S3 := Aside0.mk (And.intro (D4.out.c0 (List.length_set.trans HL2.out)) (And.intro (D4.out.c1 (List.length_set.trans HL2.out)) (And.intro (D4.out.c2 (List.length_set.trans HL2.out)) kf3)))
          clear kf3 bf1 hne1 hne2
          go_region_held3 (fun w' => w'.cell? ⟨o.g, 0, none⟩ = some (.slice (some ⟨o.bn, 0, none⟩) s.now.length o.cn) ∧ w'.cell? ⟨o.g, 1, none⟩ = some (.slice (some ⟨o.bf, 0, none⟩) s.now.length o.cf) ∧ w'.cell? ⟨o.g, 2, none⟩ = some (.slice (some ⟨o.bd, 0, none⟩) s.now.length o.cd) ∧ w'.cell? ⟨o.bf, i, none⟩ = some (.slice (some ⟨qf, 0, none⟩) mf cf)) (first | exact S2.out | exact S3.out | go_keep) (fail)
          go_wp2
          go_roundg k1
          case measure => omega
          case rel => exact ⟨j + 1, n, (s').back i, (by
              have hw : wrap64 ((j : Int) + 1) = ((j + 1 : Nat) : Int) := by have := HJ.out; have := HLL.out; have := HN.out; unfold wrap64; omega
              first | rfl | (rw [← hw]; rfl) | (simp [*]; done)), (by
              have hw : wrap64 ((n : Int) + 1) = ((n + 1 : Nat) : Int) := by have := HNJ.out; have := HJ.out; have := HLL.out; have := HN.out; unfold wrap64; omega
              first | rfl | (rw [← hw]; rfl) | (simp [*]; done)), ⟨by have := HJ.out; omega⟩, ⟨by have := HNJ.out; omega⟩, ⟨by have := HRR.out; rw [crashL, if_neg (show ¬ (kept keep j = true) from by rw [HKN.out]; decide)] at this; exact this⟩, ⟨D4.out.drew⟩, ⟨(DS.back_len _ i).trans HL2.out⟩, ⟨((HK.out.trans (Keeps.set _ _ o.bn i _ (.inr (.inl rfl)))).trans (Keeps.set _ _ o.bd i _ (.inr (.inr (.inr rfl))))).drew⟩, ⟨((HK1.out.trans (Keeps.set _ _ o.bn i _ (.inr (.inl rfl)))).trans (Keeps.set _ _ o.bd i _ (.inr (.inr (.inr rfl))))).drew⟩⟩
    · have c8b : decide ((j : Int) < (X.length : Int)) = false := decide_eq_false (by omega)
      have c8i : (X.length : Int) ≤ (j : Int) := by omega
      have c8d : decide (j < X.length) = false := decide_eq_false c8
      have hR := HR.out
      rw [List.drop_eq_nil_of_le (by omega)] at hR
      have HRR := Aside0.mk hR
      clear hR
      go_wp2
      go_ret
      rw [hX, ← HRR.out]
      exact ⟨rfl, HD'.out, HK.out⟩

end

end Go.Proofs.YtagijaijjjaolaaDoor.PBL
