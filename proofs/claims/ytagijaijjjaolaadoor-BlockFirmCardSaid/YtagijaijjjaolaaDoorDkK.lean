import Derived.Test.YtagijaijjjaolaaDoorDkJ
namespace Go.Proofs.YtagijaijjjaolaaDoor.PBL
open Go.RowKit Go.Proofs.YtagijaijjjaolaaDoorW.PrintWords Go.Proofs.YtagijaijjjaolaaDoorW.PrintLast Go.Proofs.YtagijaijjjaolaaDoorW.PrintMore
attribute [local go_sem] max2_int min2_int max_two min_two max_three min_three max_four min_four
set_option linter.unusedVariables false
set_option linter.unusedSimpArgs false
section
variable {ok ok2 : Nat → Prop}
def keepL (keep : List Bool) : List Nat → Nat → DS → Nat → DS × Nat
  | [], _, s, n => (s, n)
  | i :: r, k, s, n => if kept keep k = true then keepL keep r (k + 1) (s.keep i) (n + 1) else keepL keep r (k + 1) s n

set_option maxHeartbeats 8000000 in
set_option maxRecDepth 100000 in
theorem Rk_Crash.calls (o : Own) (s : DS) (w : World) (h : Dk ok 64 w o s) (A1 : Option Addr) (c1 : Nat) (keep : List Bool) (hC : Kd.C Kd.bool w A1 keep.length keep) (hc : keep.length ≤ c1) (hA : ∀ ad, A1 = some ad → keep ≠ [] → ¬ o.has ad.block) (hok : ∀ k, w.heap.size ≤ k → ok k) :
    Calls Tryd.prog 37 #[.pointer (some ⟨o.g, 0, none⟩), .slice A1 keep.length c1] w fun e w' => e = .returned (.int .i64 ((keepL keep (dix s.dirty s.now.length) 0 s 0).2 : Int)) ∧ Dk ok 64 w' o ⟨(keepL keep (dix s.dirty s.now.length) 0 s 0).1.firm, (keepL keep (dix s.dirty s.now.length) 0 s 0).1.firm, List.replicate s.now.length false⟩ ∧ Keeps o.has w w' := by
  have HOK := Aside0.mk hok
  clear hok
  have HD := Aside0.mk h
  have HN := Aside0.mk h.n1
  have HND := Aside0.mk h.nd
  have HNF := Aside0.mk h.nf
  have HC := Aside0.mk hC
  have Hc := Aside0.mk hc
  have HA := Aside0.mk hA
  have HLX := Aside0.mk (dix_lt s.dirty s.now.length)
  have HLL := Aside0.mk (dix_len s.dirty s.now.length)
  have hm : keep.length ≤ 9223372036854775807 := (Kd.reads_of_C (d := false) hC).2.1
  clear h hC hc hA
  go_enter Tryd.func37, Tryd.ntmps37
  go_wp2_with (first | (go_at_call 22; refine (Rk_List.calls o s _ HD.out).mono ?_; rintro e w1 ⟨v1, rfl, ho1, hb1⟩; obtain ⟨A9, c9, rfl⟩ := Kd.R_slice ho1; have HO1 := Aside0.mk ho1; have HB1 := Aside0.mk hb1; have el : (ints (dix s.dirty s.now.length)).length = (dix s.dirty s.now.length).length := List.length_map _; rw [el]; have EL := Aside0.mk el; clear ho1 hb1 el))
  generalize hX : dix s.dirty s.now.length = X at *
  go_loopg [6, 7] X.length (fun kq v6 v7 w' => ∃ (j n : Nat) (s' : DS), v7 = .int .i64 (j : Int) ∧ v6 = .int .i64 (n : Int) ∧ Aside0 (j + kq = X.length) ∧ Aside0 (n ≤ j) ∧ Aside0 (keepL keep (X.drop j) j s' n = keepL keep X 0 s 0) ∧ Aside0 (Dk ok 64 w' o s') ∧ Aside0 (s'.now.length = s.now.length) ∧ Aside0 (s'.dirty = s.dirty) ∧ Aside0 (Keeps o.has w w') ∧ Aside0 (Keeps o.has w1 w'))
  case atStart => exact ⟨0, 0, s, (by first | rfl | (simp; done)), (by first | rfl | (simp; done)), ⟨by omega⟩, ⟨by omega⟩, ⟨rfl⟩, ⟨HD.out.below HB1.out⟩, ⟨rfl⟩, ⟨rfl⟩, ⟨Keeps.of_below HB1.out⟩, ⟨Keeps.refl _ _⟩⟩
  case round =>
    obtain ⟨j, n, s', rfl, rfl, HJ, HNJ, HR, HD', HL', HDS, HK, HK1⟩ := hrel
    by_cases c8 : j < X.length
    · have c8b : decide ((j : Int) < (X.length : Int)) = true := decide_eq_true (by omega)
      have p1 : (0 : Int) ≤ (j : Int) := by omega
      have p2 : (j : Int) < (X.length : Int) := by omega
      have hA9 : ∀ ad, A9 = some ad → ¬ o.has ad.block := fun ad e ho => by
        have h1 := R_ge HO1.out ad e
        have h2 := HD.out.lt _ ho
        omega
      have hC9 : Kd.C (Kd.int .i64) wr A9 X.length (ints X) := by
        have h9 := (Kd.R_reads' HO1.out).2.2
        rw [EL.out] at h9
        exact HK1.out.C (0 : Int) h9 hA9
      obtain ⟨ad9, e9, hx9⟩ := Kd.at_int hC9 (j : Int) p1 p2
      rw [rd_ints X j c8] at hx9
      have hdrop : X.drop j = X[j] :: X.drop (j + 1) := List.drop_eq_getElem_cons c8
      have hil := HLX.out X[j] (List.getElem_mem c8)
      have hR := HR.out
      rw [hdrop] at hR
      clear hdrop hC9 HR
      subst e9
      have HAF : Aside0 ((ad9.add j).block ≠ o.bf) := ⟨fun e => by
        have hbl : (ad9.add j).block = ad9.block := by unfold Addr.add; split <;> rfl
        exact hA9 ad9 rfl (.inr (.inr (.inl (hbl.symm.trans e))))⟩
      simp only [Int.toNat_natCast] at hx9
      generalize X[j] = i at *
      have HI := Aside0.mk hil
      have HRR := Aside0.mk hR
      have hCk := HK.out.Ce HC.out HA.out
      have pi1 : (0 : Int) ≤ (i : Int) := by omega
      have pi2 : (i : Int) < (s.now.length : Int) := by omega
      have an := add_plain o.bn i
      have af := add_plain o.bf i
      have adp := add_plain o.bd i
      clear hR hA9
      cases gk with
      | zero => have := HJ.out; omega
      | succ k1 =>
        by_cases g0 : 0 < keep.length
        · have g1 : decide ((keep.length : Int) > 0) = true := decide_eq_true (by omega)
          have g2 : decide ((0 : Int) < (keep.length : Int)) = true := decide_eq_true (by omega)
          have g3 : decide (0 < keep.length) = true := decide_eq_true g0
          have gm : j % keep.length < keep.length := Nat.mod_lt _ g0
          have p3 : (0 : Int) ≤ (j : Int) % (keep.length : Int) := Int.emod_nonneg _ (by omega)
          have p4 : (j : Int) % (keep.length : Int) < (keep.length : Int) := Int.emod_lt_of_pos _ (by omega)
          obtain ⟨adk, ek, hxk⟩ := Kd.at_bool hCk ((j : Int) % (keep.length : Int)) p3 p4
          have e5 : ((j : Int) % (keep.length : Int)).toNat = j % keep.length := by rw [← Int.natCast_emod, Int.toNat_natCast]
          rw [e5] at hxk
          have e6 : rdOf false keep ((j : Int) % (keep.length : Int)) = keep.getD (j % keep.length) false := by unfold rdOf; rw [e5]
          have hkn : kept keep j = keep.getD (j % keep.length) false := by unfold kept; rw [g3]; rfl
          rw [e6, ← hkn] at hxk
          subst ek
          clear e6 hkn hCk
          cases hkv : kept keep j with
          | true =>
            rw [hkv] at hxk
            have HKN := Aside0.mk hkv
            clear hkv
            obtain ⟨q, cq, kq, hCq, hlq⟩ := HD'.out.elN (i := i) (by have := HI.out; have := HL'.out; omega)
            have HCq := Aside0.mk hCq
            have HLq := Aside0.mk hlq
            have q0 := HD'.out.c0 HL'.out
            have q1 := HD'.out.c1 HL'.out
            generalize hlx : (s'.now.getD i []) = lx at *
            clear hCq hlq
            go_wp2
            go_region_held3 (fun w' => w'.cell? ⟨o.g, 0, none⟩ = some (.slice (some ⟨o.bn, 0, none⟩) s.now.length o.cn) ∧ w'.cell? ⟨o.g, 1, none⟩ = some (.slice (some ⟨o.bf, 0, none⟩) s.now.length o.cf) ∧ w'.cell? ⟨o.bn, i, none⟩ = some (.slice (some ⟨q, 0, none⟩) lx.length cq) ∧ w'.cell? (ad9.add j) = some (.int .i64 (i : Int))) (first | exact S1.out | exact S2.out | go_keep) (first | (refine copy_step _ rfl (.tmp 46) rfl (some ⟨q, 0, none⟩) cq lx rfl (Kd.C_drew HCq.out) HLq.out (fun k hk => HOK.out k (Nat.le_trans HK.out.size hk)) ?_; intro g1 cap1 w2 hb1 hbel; have hbel := Below.trans (Below.drew (Below.refl _ _)) hbel; have HB2 : Aside0 (Below wr.heap.size wr w2) := ⟨hbel⟩; have D1 := Aside0.mk (HD'.out.below hbel); have kq1 := (hbel.cell (p := ⟨o.bn, i, none⟩) (HD'.out.lt _ (.inr (.inl rfl)))).trans kq; have kx1 := pw_cell_below HB2.out hx9; have S1 := Aside0.mk (And.intro (D1.out.c0 HL'.out) (And.intro (D1.out.c1 HL'.out) (And.intro kq1 kx1))); have D2 := Aside0.mk (D1.out.setF (by decide) hb1 i); have kq2 := (World.cell?_setCell_other w2 ⟨o.bf, i, none⟩ ⟨o.bn, i, none⟩ (.slice (some ⟨g1, 0, none⟩) lx.length cap1) (fun e => HD'.out.ne (congrArg Addr.block e).symm)).trans kq1; have kx2 := (World.cell?_setCell_other w2 ⟨o.bf, i, none⟩ (ad9.add j) (.slice (some ⟨g1, 0, none⟩) lx.length cap1) (fun e => HAF.out (congrArg Addr.block e).symm)).trans kx1; have S2 := Aside0.mk (And.intro (D2.out.c0 HL'.out) (And.intro (D2.out.c1 HL'.out) (And.intro kq2 kx2))); obtain ⟨u1, k1', z1'⟩ := D1.out.kf (i := i) (by have := HI.out; have := HL'.out; omega); clear hb1 hbel kq1 kq2 kx1 kx2))
            have D3 : Aside0 (Dk ok 64 (w2.setCell ⟨o.bf, i, none⟩ (.slice (some ⟨g1, 0, none⟩) lx.length cap1)) o (s'.keep i)) := ⟨by have h := D2.out; rw [← hlx] at h ⊢; exact h⟩
            have KS := Aside0.mk ((Keeps.of_below HB2.out).trans (Keeps.set o.has _ o.bf i (.slice (some ⟨g1, 0, none⟩) lx.length cap1) (.inr (.inr (.inl rfl)))))
            go_wp2
            go_roundg k1
            case measure => omega
            case rel => exact ⟨j + 1, n + 1, s'.keep i, (by
                have hw : wrap64 ((j : Int) + 1) = ((j + 1 : Nat) : Int) := by have := HJ.out; have := HLL.out; have := HN.out; unfold wrap64; omega
                first | rfl | (rw [← hw]; rfl) | (simp [*]; done)), (by
                have hw : wrap64 ((n : Int) + 1) = ((n + 1 : Nat) : Int) := by have := HNJ.out; have := HJ.out; have := HLL.out; have := HN.out; unfold wrap64; omega
                first | rfl | (rw [← hw]; rfl) | (simp [*]; done)), ⟨by have := HJ.out; omega⟩, ⟨by have := HNJ.out; omega⟩, ⟨by have := HRR.out; rw [keepL, if_pos HKN.out] at this; exact this⟩, ⟨D3.out⟩, ⟨HL'.out⟩, ⟨HDS.out⟩, ⟨HK.out.trans KS.out⟩, ⟨HK1.out.trans KS.out⟩⟩
          | false =>
            rw [hkv] at hxk
            have HKN := Aside0.mk hkv
            clear hkv
            go_wp2
            go_roundg k1
            case measure => omega
            case rel => exact ⟨j + 1, n, s', (by
                have hw : wrap64 ((j : Int) + 1) = ((j + 1 : Nat) : Int) := by have := HJ.out; have := HLL.out; have := HN.out; unfold wrap64; omega
                first | rfl | (rw [← hw]; rfl) | (simp [*]; done)), (by
                have hw : wrap64 ((n : Int) + 1) = ((n + 1 : Nat) : Int) := by have := HNJ.out; have := HJ.out; have := HLL.out; have := HN.out; unfold wrap64; omega
                first | rfl | (rw [← hw]; rfl) | (simp [*]; done)), ⟨by have := HJ.out; omega⟩, ⟨by have := HNJ.out; omega⟩, ⟨by have := HRR.out; rw [keepL, if_neg (show ¬ (kept keep j = true) from by rw [HKN.out]; decide)] at this; exact this⟩, HD', ⟨HL'.out⟩, ⟨HDS.out⟩, HK, HK1⟩
        · have g1 : decide ((keep.length : Int) > 0) = false := decide_eq_false (by omega)
          have g2 : decide ((0 : Int) < (keep.length : Int)) = false := decide_eq_false (by omega)
          have g3 : decide (0 < keep.length) = false := decide_eq_false g0
          have g4 : (keep.length : Int) ≤ 0 := by omega
          have hkn : kept keep j = false := by unfold kept; rw [g3]; rfl
          have HKN := Aside0.mk hkn
          clear hkn hCk
          go_wp2
          go_roundg k1
          case measure => omega
          case rel => exact ⟨j + 1, n, s', (by
              have hw : wrap64 ((j : Int) + 1) = ((j + 1 : Nat) : Int) := by have := HJ.out; have := HLL.out; have := HN.out; unfold wrap64; omega
              first | rfl | (rw [← hw]; rfl) | (simp [*]; done)), (by
              have hw : wrap64 ((n : Int) + 1) = ((n + 1 : Nat) : Int) := by have := HNJ.out; have := HJ.out; have := HLL.out; have := HN.out; unfold wrap64; omega
              first | rfl | (rw [← hw]; rfl) | (simp [*]; done)), ⟨by have := HJ.out; omega⟩, ⟨by have := HNJ.out; omega⟩, ⟨by have := HRR.out; rw [keepL, if_neg (show ¬ (kept keep j = true) from by rw [HKN.out]; decide)] at this; exact this⟩, HD', ⟨HL'.out⟩, ⟨HDS.out⟩, HK, HK1⟩
    · have c8b : decide ((j : Int) < (X.length : Int)) = false := decide_eq_false (by omega)
      have c8i : (X.length : Int) ≤ (j : Int) := by omega
      have c8d : decide (j < X.length) = false := decide_eq_false c8
      have hR := HR.out
      rw [List.drop_eq_nil_of_le (by omega)] at hR
      have HRR := Aside0.mk hR
      clear hR
      go_wp2
      have hs0 : s'.bk 0 = s' := by cases s'; rfl
      have HD0 : Aside0 (Dk ok 64 wr o (s'.bk 0)) := ⟨by rw [hs0]; exact HD'.out⟩
      have HKw := HK
      clear hs0
      generalize s' = s1 at *
      have HL1 := HL'
      have HD1 : Aside0 (s1.dirty.length = s.dirty.length) := ⟨by rw [HDS.out]⟩
      have HF1 : Aside0 (s1.firm.length = s1.now.length) := ⟨HD'.out.nf⟩
      go_loopg [8] s.now.length (fun kq v8 w' => ∃ (j : Nat), v8 = .int .i64 (j : Int) ∧ Aside0 (j + kq = s.now.length) ∧ Aside0 (Dk ok 64 w' o (s1.bk j)) ∧ Aside0 (Keeps o.has w w'))
      case atStart => exact ⟨0, (by first | rfl | (simp; done)), ⟨by omega⟩, HD0, HKw⟩
      case round =>
        clear HD' HK HK1 HR HJ HNJ
        obtain ⟨j, rfl, HJ, HD2, HK⟩ := hrel
        by_cases c8 : j < s.now.length
        · have HLN : Aside0 ((s1.bk j).now.length = s.now.length) := ⟨(DS.bk_len s1 j (by have := HL1.out; omega) HF1.out).trans HL1.out⟩
          have q0 := HD2.out.c0 HLN.out
          have c8b : decide ((j : Int) < (s.now.length : Int)) = true := decide_eq_true (by omega)
          have p1 : (0 : Int) ≤ (j : Int) := by omega
          have p2 : (j : Int) < (s.now.length : Int) := by omega
          have ab := add_plain o.bn j
          have af := add_plain o.bf j
          have adp := add_plain o.bd j
          cases gk with
          | zero => have := HJ.out; omega
          | succ k2 =>
            obtain ⟨q, cq, kq, hCq, hlq⟩ := HD2.out.elF (i := j) (by rw [HLN.out]; exact c8)
            have HCq := Aside0.mk hCq
            have HLq := Aside0.mk hlq
            have q0 := HD2.out.c0 HLN.out
            have q1 := HD2.out.c1 HLN.out
            generalize hlx : ((s1.bk j).firm.getD j []) = lx at *
            clear hCq hlq
            go_wp2
            go_region_held3 (fun w' => w'.cell? ⟨o.g, 0, none⟩ = some (.slice (some ⟨o.bn, 0, none⟩) s.now.length o.cn) ∧ w'.cell? ⟨o.g, 1, none⟩ = some (.slice (some ⟨o.bf, 0, none⟩) s.now.length o.cf) ∧ w'.cell? ⟨o.bf, j, none⟩ = some (.slice (some ⟨q, 0, none⟩) lx.length cq)) (first | exact S1.out | exact S2.out | go_keep) (first | (refine copy_step _ rfl (.tmp 71) rfl (some ⟨q, 0, none⟩) cq lx rfl (Kd.C_drew HCq.out) HLq.out (fun k hk => HOK.out k (Nat.le_trans HK.out.size hk)) ?_; intro g1 cap1 w1 hb1 hbel; have hbel := Below.trans (Below.drew (Below.refl _ _)) hbel; have HB1 : Aside0 (Below wr.heap.size wr w1) := ⟨hbel⟩; have D1 := Aside0.mk (HD2.out.below hbel); have kq1 := (hbel.cell (p := ⟨o.bf, j, none⟩) (HD2.out.lt _ (.inr (.inr (.inl rfl))))).trans kq; have S1 := Aside0.mk (And.intro (D1.out.c0 HLN.out) (And.intro (D1.out.c1 HLN.out) kq1)); have D2 := Aside0.mk (D1.out.setN (by decide) hb1 j); have kq2 := (World.cell?_setCell_other w1 ⟨o.bn, j, none⟩ ⟨o.bf, j, none⟩ (.slice (some ⟨g1, 0, none⟩) lx.length cap1) (fun e => (Ne.symm HD2.out.ne) (congrArg Addr.block e).symm)).trans kq1; have S2 := Aside0.mk (And.intro (D2.out.c0 (List.length_set.trans HLN.out)) (And.intro (D2.out.c1 (List.length_set.trans HLN.out)) kq2)); obtain ⟨u1, k1', z1'⟩ := D1.out.kn (i := j) (by rw [HLN.out]; exact c8); clear hb1 hbel kq1 kq2))
            have q2' : (w1.setCell ⟨o.bn, j, none⟩ (.slice (some ⟨g1, 0, none⟩) lx.length cap1)).cell? ⟨o.g, 2, none⟩ = some (.slice (some ⟨o.bd, 0, none⟩) s.now.length o.cd) := D2.out.c2 (List.length_set.trans HLN.out)
            obtain ⟨u2, _, k2', z2'⟩ := D2.out.kd (i := j) (by rw [List.length_set, HLN.out]; exact c8)
            go_wp2
            go_roundg k2
            case measure => omega
            case rel => exact ⟨j + 1, (by
                have hw : wrap64 ((j : Int) + 1) = ((j + 1 : Nat) : Int) := by have := HJ.out; have := HN.out; unfold wrap64; omega
                first | rfl | (rw [← hw]; rfl) | (simp [*]; done)), ⟨by have := HJ.out; omega⟩, ⟨Eq.mp (congrArg (fun z => Dk ok 64 _ o z) (DS.bk_step s1 j lx hlx (by have := HL1.out; omega) (by have := HF1.out; have := HL1.out; omega) (by have := HD1.out; have := HND.out; have := HL1.out; omega))) (D2.out.setD (by decide) false j)⟩, ⟨HK.out.trans (((Keeps.of_below HB1.out).trans (Keeps.set _ _ o.bn j _ (.inr (.inl rfl)))).trans (Keeps.set _ _ o.bd j _ (.inr (.inr (.inr rfl)))))⟩⟩
        · have c8b : decide ((j : Int) < (s.now.length : Int)) = false := decide_eq_false (by omega)
          have c8i : (s.now.length : Int) ≤ (j : Int) := by omega
          have c8d : decide (j < s.now.length) = false := decide_eq_false c8
          obtain rfl : j = s.now.length := by have := HJ.out; omega
          have HLN : Aside0 ((s1.bk s.now.length).now.length = s.now.length) := ⟨(DS.bk_len s1 _ (by have := HL1.out; omega) HF1.out).trans HL1.out⟩
          have q0 := HD2.out.c0 HLN.out
          go_wp2
          go_ret
          rw [hX, ← HRR.out]
          refine ⟨rfl, ?_, HK.out⟩
          have hD := HD2.out
          unfold DS.bk at hD
          rw [← HL1.out, List.take_of_length_le (by rw [HF1.out]; exact Nat.le_refl _), List.drop_eq_nil_of_le (Nat.le_refl _), List.drop_eq_nil_of_le (by have := HD1.out; have := HND.out; have := HL1.out; omega), List.append_nil, List.append_nil] at hD
          rw [HL1.out] at hD
          exact hD

end

end Go.Proofs.YtagijaijjjaolaaDoor.PBL
