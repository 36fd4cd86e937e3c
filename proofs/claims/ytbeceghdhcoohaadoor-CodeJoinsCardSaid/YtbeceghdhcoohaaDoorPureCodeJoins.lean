/- Parts that are laid at once are laid one behind the other; a text is laid as its bytes; unlike parts are laid unlike. No condition. -/
import Derived.Test.YtbeceghdhcoohaaDoorPCJx5
import Derived.Test.YtbeceghdhcoohaaDoorCodeBaseJ
import Derived.Lib.Bytes
namespace Go.Proofs.YtbeceghdhcoohaaDoor.Pure
open Go.RowKit Go.Proofs.YtbeceghdhcoohaaDoor.PCJ Go.Proofs.YtbeceghdhcoohaaDoor.CodeMathJ Go.Proofs.YtbeceghdhcoohaaDoorW.PrintWords Go.Proofs.YtbeceghdhcoohaaDoorW.PrintLast Go.Proofs.YtbeceghdhcoohaaDoorW.PrintMore

theorem str_bytes (l : List Int) (h : ∀ x ∈ l, 0 ≤ x ∧ x < 256) : bytesOf (strOfNums l) = l := by
  unfold bytesOf strOfNums
  rw [List.toList_toArray, List.map_map]
  conv => rhs; rw [← List.map_id l]
  apply List.map_congr_left
  intro x hx
  have := h x hx
  simp only [Function.comp_apply, UInt8.toNat_ofNat', id_eq]
  omega
theorem str_size (l : List Int) : (strOfNums l).size = l.length := by
  unfold strOfNums
  show (List.map _ l).toArray.size = _
  rw [List.size_toArray, List.length_map]
theorem be8_inj (a b : Int) (ha : 0 ≤ a) (ha' : a < 18446744073709551616) (hb : 0 ≤ b) (hb' : b < 18446744073709551616) (h : be8 a = be8 b) : a = b := by
  rw [be8_div, be8_div] at h
  simp only [List.cons.injEq, and_true] at h
  obtain ⟨h7, h6, h5, h4, h3, h2, h1, h0⟩ := h
  rw [Int.emod_eq_of_lt ha ha', Int.emod_eq_of_lt hb hb'] at *
  omega
theorem joins_unlike (p q : List Int) (hp : p.length < 1000) (hq : q.length < 1000) (h : cpart p ++ cpart q = cpart q ++ cpart p) : p = q := by
  unfold cpart at h
  rw [List.append_assoc, List.append_assoc] at h
  have h1 := (List.append_inj h rfl)
  have hl : p.length = q.length := by
    have := be8_inj _ _ (by omega) (by omega) (by omega) (by omega) h1.1
    omega
  exact (List.append_inj h1.2 hl).1
theorem joins_yes (l0 l1 l2 : List Int) (a3 : Int) (h0 : l0.length ≤ 200) (h1 : l1.length ≤ 200) (h2 : l2.length ≤ 200) (w1 : ∀ x ∈ l1, 0 ≤ x ∧ x < 256) (w2 : ∀ x ∈ l2, 0 ≤ x ∧ x < 256) :
    chatelainelaw14_CodeJoins.j0 100002 l0 l1 l2 a3 false = some true := by
  have hr : room [l1, l2] = 16 + l1.length + l2.length := by simp only [room, List.flatMap_cons, List.flatMap_nil, List.append_nil, List.length_append, cpart_len]; omega
  have hr' : room [l2, l1] = 16 + l1.length + l2.length := by simp only [room, List.flatMap_cons, List.flatMap_nil, List.append_nil, List.length_append, cpart_len]; omega
  have hr1 : room [l1] = 8 + l1.length := by simp only [room, List.flatMap_cons, List.flatMap_nil, List.append_nil, cpart_len]
  have hr2 : room [l2] = 8 + l2.length := by simp only [room, List.flatMap_cons, List.flatMap_nil, List.append_nil, cpart_len]
  have hb : ∀ a b : List Int, ([a, b] : List (List Int)).length = 2 := fun _ _ => rfl
  have hb1 : ∀ a : List Int, ([a] : List (List Int)).length = 1 := fun _ => rfl
  have f2 : ∀ a b : List Int, [a, b].flatMap cpart = cpart a ++ cpart b := fun a b => by simp
  have f1 : ∀ a : List Int, [a].flatMap cpart = cpart a := fun a => by simp
  have s1 := str_size l1
  have s2 := str_size l2
  have n0 : ([] : List Int).length = 0 := rfl
  rw [chatelainelaw14_CodeJoins.j0, if_neg (by simp)]
  refine bnd (cbytes _ l0 [l1, l2] (by simp only [hb]; omega) (by omega) (by simp only [hb]; omega)) ?_
  refine bnd (cbytes _ l0 [l1] (by simp only [hb1]; omega) (by omega) (by simp only [hb1]; omega)) ?_
  rw [f2, f1]
  refine bnd (cbytes _ _ [l2] (by simp only [hb1]; omega) (by rw [List.length_append, cpart_len]; omega) (by simp only [hb1]; omega)) ?_
  rw [f1]
  refine bnd (ctext _ l0 (strOfNums l1) (by omega) (by omega)) ?_
  rw [str_bytes l1 w1]
  refine bnd (ctext _ _ (strOfNums l2) (by rw [List.length_append, cpart_len]; omega) (by omega)) ?_
  rw [str_bytes l2 w2]
  refine bnd (cbytes _ [] [l1, l2] (by simp only [hb]; omega) (by omega) (by simp only [hb]; omega)) ?_
  refine bnd (cbytes _ [] [l2, l1] (by simp only [hb]; omega) (by omega) (by simp only [hb]; omega)) ?_
  rw [f2, f2, List.nil_append, List.nil_append]
  refine bnd (number1 _ [] a3 (by omega) (by omega)) ?_
  refine bnd (number1 _ _ _ (by rw [List.length_append, be8_len]; omega) (by omega)) ?_
  refine ifp (by rw [w64 (n := (l0.length : Int) + (l1.length : Int)) (by omega) (by omega), w64 (n := (l0.length : Int) + (l1.length : Int) + (l2.length : Int)) (by omega) (by omega), w64 (by omega) (by omega)]; simp only [List.length_append, cpart_len]; omega) ?_
  refine bnd (same_yes _ _ _ (by simp only [List.length_append, cpart_len]; omega) (by omega) (by rw [List.append_assoc])) (ifp rfl ?_)
  refine bnd (same_yes _ _ _ (by simp only [List.length_append, cpart_len]; omega) (by omega) (by rw [List.append_assoc])) (ifp rfl ?_)
  refine bnd (same _ _ _ (by simp only [List.length_append, cpart_len]; omega) (by omega)) ?_
  refine bnd (same _ _ _ (by omega) (by omega)) ?_
  have e : decide (cpart l1 ++ cpart l2 = cpart l2 ++ cpart l1) = decide (l1 = l2) := by
    by_cases h : l1 = l2
    · subst h; simp
    · have : ¬ (cpart l1 ++ cpart l2 = cpart l2 ++ cpart l1) := fun h' => h (joins_unlike _ _ (by omega) (by omega) h')
      rw [decide_eq_false h, decide_eq_false this]
  refine ifp (by rw [e]; simp) ?_
  refine bnd (number _ [] [a3, (l1.length : Int)] (by simp) (by simp)) ?_
  refine bnd (same_yes _ _ _ (by simp [be8_len]) (by omega) (by simp)) (ifp rfl ?_)
  rfl
theorem joins_no (l0 l1 l2 : List Int) (a3 : Int) : chatelainelaw14_CodeJoins.j0 100002 l0 l1 l2 a3 true = some true := by
  rw [chatelainelaw14_CodeJoins.j0, if_pos rfl]
  rfl
theorem wf_u8 {x : Int} (h : (Lit.int .u8 x).wf = true) : 0 ≤ x ∧ x < 256 := by
  simp [Lit.wf, IntKind.min, IntKind.max, IntKind.signed, IntKind.bits] at h
  omega
theorem CodeJoins : chatelainelaw14_CodeJoins.Pure := by
  intro l0 l1 l2 a3 _ _ _ _ _ w1 _ _ w2 _
  refine ⟨100002, ?_⟩
  unfold chatelainelaw14_CodeJoins.f
  by_cases h0 : (l0.length : Int) > 200
  · rw [if_pos h0]; exact joins_no ..
  rw [if_neg h0]
  by_cases h1 : (l1.length : Int) > 200
  · rw [if_pos h1]; exact joins_no ..
  rw [if_neg h1]
  by_cases h2 : (l2.length : Int) > 200
  · rw [decide_eq_true h2]; exact joins_no ..
  rw [decide_eq_false h2]
  exact joins_yes l0 l1 l2 a3 (by omega) (by omega) (by omega) (fun x hx => wf_u8 (w1 x hx)) (fun x hx => wf_u8 (w2 x hx))
end Go.Proofs.YtbeceghdhcoohaaDoor.Pure
