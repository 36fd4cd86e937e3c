import Derived.Test.YtagijaijjjaolaaDoorDkI
namespace Go.Proofs.YtagijaijjjaolaaDoor.PBL
open Go.RowKit Go.Proofs.YtagijaijjjaolaaDoorW.PrintWords Go.Proofs.YtagijaijjjaolaaDoorW.PrintLast Go.Proofs.YtagijaijjjaolaaDoorW.PrintMore
attribute [local go_sem] max2_int min2_int max_two min_two max_three min_three max_four min_four
set_option linter.unusedVariables false
set_option linter.unusedSimpArgs false
section
variable {ok ok2 : Nat → Prop}
theorem take_set {α : Type} (d : α) (a b : List α) (j : Nat) (hj : j < a.length) (hb : b.length = a.length) : (a.take j ++ b.drop j).set j (a.getD j d) = a.take (j + 1) ++ b.drop (j + 1) := by
  have h1 : (a.take j).length = j := by rw [List.length_take]; omega
  have h2 : b.drop j = b[j] :: b.drop (j + 1) := List.drop_eq_getElem_cons (by omega)
  rw [List.set_append_right _ _ (by omega), h1, Nat.sub_self, h2, List.set_cons_zero, List.take_succ_eq_append_getElem hj, List.append_assoc, List.getD_eq_getElem?_getD, List.getElem?_eq_getElem hj]
  rfl
theorem rep_set (D : List Bool) (j : Nat) (hj : j < D.length) : (List.replicate j false ++ D.drop j).set j false = List.replicate (j + 1) false ++ D.drop (j + 1) := by
  have h2 : D.drop j = D[j] :: D.drop (j + 1) := List.drop_eq_getElem_cons hj
  rw [List.set_append_right _ _ (by rw [List.length_replicate]; exact Nat.le_refl _), List.length_replicate, Nat.sub_self, h2, List.set_cons_zero, List.replicate_succ', List.append_assoc]
  rfl
/-- The first so many are flushed. -/
def DS.fl (s : DS) (j : Nat) : DS := ⟨s.now, s.now.take j ++ s.firm.drop j, List.replicate j false ++ s.dirty.drop j⟩
/-- The first so many are as they last. -/
def DS.bk (s : DS) (j : Nat) : DS := ⟨s.firm.take j ++ s.now.drop j, s.firm, List.replicate j false ++ s.dirty.drop j⟩
theorem DS.bk_len (s : DS) (j : Nat) (hj : j ≤ s.now.length) (h : s.firm.length = s.now.length) : (s.bk j).now.length = s.now.length := by
  show (s.firm.take j ++ s.now.drop j).length = _
  rw [List.length_append, List.length_take, List.length_drop]; omega

theorem DS.fl_step (s : DS) (j : Nat) (lx : List Int) (hlx : (s.fl j).now.getD j [] = lx) (hj : j < s.now.length) (hf : s.firm.length = s.now.length) (hd : s.dirty.length = s.now.length) : (⟨(s.fl j).now, (s.fl j).firm.set j lx, (s.fl j).dirty.set j false⟩ : DS) = s.fl (j + 1) := by
  subst hlx
  show (⟨s.now, (s.now.take j ++ s.firm.drop j).set j (s.now.getD j []), (List.replicate j false ++ s.dirty.drop j).set j false⟩ : DS) = ⟨s.now, s.now.take (j + 1) ++ s.firm.drop (j + 1), List.replicate (j + 1) false ++ s.dirty.drop (j + 1)⟩
  rw [take_set [] s.now s.firm j hj hf, rep_set s.dirty j (by omega)]
theorem DS.bk_step (s : DS) (j : Nat) (lx : List Int) (hlx : (s.bk j).firm.getD j [] = lx) (hj : j < s.now.length) (hf : s.firm.length = s.now.length) (hd : s.dirty.length = s.now.length) : (⟨(s.bk j).now.set j lx, (s.bk j).firm, (s.bk j).dirty.set j false⟩ : DS) = s.bk (j + 1) := by
  subst hlx
  show (⟨(s.firm.take j ++ s.now.drop j).set j (s.firm.getD j []), s.firm, (List.replicate j false ++ s.dirty.drop j).set j false⟩ : DS) = ⟨s.firm.take (j + 1) ++ s.now.drop (j + 1), s.firm, List.replicate (j + 1) false ++ s.dirty.drop (j + 1)⟩
  rw [take_set [] s.firm s.now j (by omega) hf.symm, rep_set s.dirty j (by omega)]

set_option maxHeartbeats 8000000 in
set_option maxRecDepth 100000 in
theorem Rk_Flush.calls (o : Own) (s : DS) (w : World) (h : Dk ok 64 w o s) (hok : ∀ k, w.heap.size ≤ k → ok k) :
    Calls Tryd.prog 36 #[.pointer (some ⟨o.g, 0, none⟩)] w fun e w' => e = .returned (.tuple #[]) ∧ Dk ok 64 w' o ⟨s.now, s.now, List.replicate s.now.length false⟩ ∧ Keeps o.has w w' := by
  have HOK := Aside0.mk hok
  clear hok
  have HD := Aside0.mk h
  have HN := Aside0.mk h.n1
  have HND := Aside0.mk h.nd
  have HNF := Aside0.mk h.nf
  have h0 : s.fl 0 = s := by cases s; rfl
  have HD0 : Aside0 (Dk ok 64 w o (s.fl 0)) := ⟨by rw [h0]; exact h⟩
  clear h h0
  go_enter Tryd.func36, Tryd.ntmps36
  go_wp2
  go_loopg [2] s.now.length (fun kq v2 w' => ∃ (j : Nat), v2 = .int .i64 (j : Int) ∧ Aside0 (j + kq = s.now.length) ∧ Aside0 (Dk ok 64 w' o (s.fl j)) ∧ Aside0 (Keeps o.has w w'))
  case atStart => exact ⟨0, (by first | rfl | (simp; done)), ⟨by omega⟩, HD0, ⟨Keeps.refl _ _⟩⟩
  case round =>
    obtain ⟨j, rfl, HJ, HD2, HK⟩ := hrel
    have HLN : Aside0 ((s.fl j).now.length = s.now.length) := ⟨rfl⟩
    have q0 := HD2.out.c0 HLN.out
    by_cases c8 : j < s.now.length
    · have c8b : decide ((j : Int) < (s.now.length : Int)) = true := decide_eq_true (by omega)
      have p1 : (0 : Int) ≤ (j : Int) := by omega
      have p2 : (j : Int) < (s.now.length : Int) := by omega
      have ab := add_plain o.bn j
      have af := add_plain o.bf j
      have adp := add_plain o.bd j
      cases gk with
      | zero => have := HJ.out; omega
      | succ k1 =>
        obtain ⟨q, cq, kq, hCq, hlq⟩ := HD2.out.elN (i := j) (by rw [HLN.out]; exact c8)
        have HCq := Aside0.mk hCq
        have HLq := Aside0.mk hlq
        have q0 := HD2.out.c0 HLN.out
        have q1 := HD2.out.c1 HLN.out
        generalize hlx : ((s.fl j).now.getD j []) = lx at *
        clear hCq hlq
        go_wp2
        go_region_held3 (fun w' => w'.cell? ⟨o.g, 0, none⟩ = some (.slice (some ⟨o.bn, 0, none⟩) s.now.length o.cn) ∧ w'.cell? ⟨o.g, 1, none⟩ = some (.slice (some ⟨o.bf, 0, none⟩) s.now.length o.cf) ∧ w'.cell? ⟨o.bn, j, none⟩ = some (.slice (some ⟨q, 0, none⟩) lx.length cq)) (first | exact S1.out | exact S2.out | go_keep) (first | (refine copy_step _ rfl (.tmp 23) rfl (some ⟨q, 0, none⟩) cq lx rfl (Kd.C_drew HCq.out) HLq.out (fun k hk => HOK.out k (Nat.le_trans HK.out.size hk)) ?_; intro g1 cap1 w1 hb1 hbel; have hbel := Below.trans (Below.drew (Below.refl _ _)) hbel; have HB1 : Aside0 (Below wr.heap.size wr w1) := ⟨hbel⟩; have D1 := Aside0.mk (HD2.out.below hbel); have kq1 := (hbel.cell (p := ⟨o.bn, j, none⟩) (HD2.out.lt _ (.inr (.inl rfl)))).trans kq; have S1 := Aside0.mk (And.intro (D1.out.c0 HLN.out) (And.intro (D1.out.c1 HLN.out) kq1)); have D2 := Aside0.mk (D1.out.setF (by decide) hb1 j); have kq2 := (World.cell?_setCell_other w1 ⟨o.bf, j, none⟩ ⟨o.bn, j, none⟩ (.slice (some ⟨g1, 0, none⟩) lx.length cap1) (fun e => HD2.out.ne (congrArg Addr.block e).symm)).trans kq1; have S2 := Aside0.mk (And.intro (D2.out.c0 HLN.out) (And.intro (D2.out.c1 HLN.out) kq2)); obtain ⟨u1, k1', z1'⟩ := D1.out.kf (i := j) (by rw [HLN.out]; exact c8); clear hb1 hbel kq1 kq2))
        have q2' : (w1.setCell ⟨o.bf, j, none⟩ (.slice (some ⟨g1, 0, none⟩) lx.length cap1)).cell? ⟨o.g, 2, none⟩ = some (.slice (some ⟨o.bd, 0, none⟩) s.now.length o.cd) := D2.out.c2 HLN.out
        obtain ⟨u2, _, k2', z2'⟩ := D2.out.kd (i := j) (by show j < _; rw [HLN.out]; exact c8)
        go_wp2
        go_roundg k1
        case measure => omega
        case rel => exact ⟨j + 1, (by
            have hw : wrap64 ((j : Int) + 1) = ((j + 1 : Nat) : Int) := by have := HJ.out; have := HN.out; unfold wrap64; omega
            first | rfl | (rw [← hw]; rfl) | (simp [*]; done)), ⟨by have := HJ.out; omega⟩, ⟨Eq.mp (congrArg (fun z => Dk ok 64 _ o z) (DS.fl_step s j lx hlx c8 HNF.out HND.out)) (D2.out.setD (by decide) false j)⟩, ⟨HK.out.trans (((Keeps.of_below HB1.out).trans (Keeps.set _ _ o.bf j _ (.inr (.inr (.inl rfl))))).trans (Keeps.set _ _ o.bd j _ (.inr (.inr (.inr rfl)))))⟩⟩
    · have c8b : decide ((j : Int) < (s.now.length : Int)) = false := decide_eq_false (by omega)
      have c8i : (s.now.length : Int) ≤ (j : Int) := by omega
      have c8d : decide (j < s.now.length) = false := decide_eq_false c8
      obtain rfl : j = s.now.length := by have := HJ.out; omega
      go_wp2
      go_end0
      refine ⟨rfl, ?_, HK.out⟩
      have hD := HD2.out
      unfold DS.fl at hD
      rw [List.take_length, List.drop_eq_nil_of_le (by rw [HNF.out]; exact Nat.le_refl _), List.drop_eq_nil_of_le (by rw [HND.out]; exact Nat.le_refl _), List.append_nil, List.append_nil] at hD
      exact hD

end

end Go.Proofs.YtagijaijjjaolaaDoor.PBL
