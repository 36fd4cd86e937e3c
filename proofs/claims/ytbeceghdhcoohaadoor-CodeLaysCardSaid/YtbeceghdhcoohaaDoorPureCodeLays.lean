/- Numbers', bytes' and texts' bytes are the document's. No condition. -/
import Derived.Test.YtbeceghdhcoohaaDoorPCodx10
import Derived.Test.YtbeceghdhcoohaaDoorPCodx7
import Derived.Test.YtbeceghdhcoohaaDoorPCodx8
import Derived.Test.YtbeceghdhcoohaaDoorPCodx9
import Derived.Test.YtbeceghdhcoohaaDoorCodeBase
namespace Go.Proofs.YtbeceghdhcoohaaDoor.Pure
open Go.RowKit Go.Proofs.YtbeceghdhcoohaaDoor.PCod Go.Proofs.YtbeceghdhcoohaaDoor.CodeMath Go.Proofs.YtbeceghdhcoohaaDoorW.PrintWords Go.Proofs.YtbeceghdhcoohaaDoorW.PrintLast Go.Proofs.YtbeceghdhcoohaaDoorW.PrintMore

theorem rnum_step (k : Nat) (ns x5 : List Int) (i : Nat) (s : Int) (hi : i < ns.length) (h0 : 0 ≤ s) (h1 : s ≤ 7) (hx : x5.length < 140737488355328) :
    chatelaineref14_Number.l1 (k + 1) ns x5 (i : Int) s = chatelaineref14_Number.l1 k ns (x5 ++ [byt ns[i] (8 * s)]) (i : Int) (s - 1) := by
  rw [chatelaineref14_Number.l1, if_pos h0, if_pos (by omega), if_pos (by omega), w64 (n := 8 * s) (by omega) (by omega), if_pos (by omega), if_pos hx, w64 (n := s - 1) (by omega) (by omega), rdI ns i hi]
  rfl
theorem rnum_l1 (k : Nat) (ns x5 : List Int) (i : Nat) (hi : i < ns.length) (hx : x5.length + 8 < 140737488355328) :
    chatelaineref14_Number.l1 (k + 9) ns x5 (i : Int) 7 = chatelaineref14_Number.l0 k ns (x5 ++ be8 ns[i]) (wrap64 ((i : Int) + 1)) := by
  rw [rnum_step _ _ _ _ _ hi (by omega) (by omega) (by omega)]
  rw [rnum_step _ _ _ _ _ hi (by omega) (by omega) (by simp only [List.length_append, List.length_cons, List.length_nil]; omega)]
  rw [rnum_step _ _ _ _ _ hi (by omega) (by omega) (by simp only [List.length_append, List.length_cons, List.length_nil]; omega)]
  rw [rnum_step _ _ _ _ _ hi (by omega) (by omega) (by simp only [List.length_append, List.length_cons, List.length_nil]; omega)]
  rw [rnum_step _ _ _ _ _ hi (by omega) (by omega) (by simp only [List.length_append, List.length_cons, List.length_nil]; omega)]
  rw [rnum_step _ _ _ _ _ hi (by omega) (by omega) (by simp only [List.length_append, List.length_cons, List.length_nil]; omega)]
  rw [rnum_step _ _ _ _ _ hi (by omega) (by omega) (by simp only [List.length_append, List.length_cons, List.length_nil]; omega)]
  rw [rnum_step _ _ _ _ _ hi (by omega) (by omega) (by simp only [List.length_append, List.length_cons, List.length_nil]; omega)]
  rw [chatelaineref14_Number.l1, if_neg (by omega)]
  simp only [List.append_assoc, List.cons_append, List.nil_append]
  rfl
theorem rnum_l0 (ns : List Int) (hn : ns.length < 140737488355328) : ∀ (m i k : Nat) (x0 : List Int), i + m = ns.length → x0.length + 8 * m < 140737488355328 → 10 * m < k →
    chatelaineref14_Number.l0 k ns x0 (i : Int) = some (x0 ++ (ns.drop i).flatMap be8)
  | 0, i, k + 1, x0, hi, _, _ => by
    rw [chatelaineref14_Number.l0, if_neg (by omega), List.drop_of_length_le (by omega)]
    simp
  | m + 1, i, k + 1, x0, hi, hx, hk => by
    obtain ⟨k', rfl⟩ : ∃ k', k = k' + 9 := ⟨k - 9, by omega⟩
    rw [chatelaineref14_Number.l0, if_pos (by omega), rnum_l1 k' ns x0 i (by omega) (by omega), w64 (by omega) (by omega),
      show (i : Int) + 1 = ((i + 1 : Nat) : Int) by omega,
      rnum_l0 ns hn m (i + 1) k' _ (by omega) (by rw [List.length_append, be8_len]; omega) (by omega), List.append_assoc, ← List.flatMap_cons, List.getElem_cons_drop]
theorem rnumber (k : Nat) (l ns : List Int) (h : l.length + 8 * ns.length < 140737488355328) (hk : 10 * ns.length < k) : chatelaineref14_Number.f k l ns = some (l ++ ns.flatMap be8) := by
  unfold chatelaineref14_Number.f
  rw [if_pos (by simp only [List.length_nil]; omega), List.nil_append]
  have := rnum_l0 ns (by omega) ns.length 0 k l (by omega) (by omega) (by omega)
  rw [List.drop_zero] at this
  exact this
theorem rnumber1 (k : Nat) (l : List Int) (n : Int) (h : l.length + 8 < 140737488355328) (hk : 10 < k) : chatelaineref14_Number.f k l [n] = some (l ++ be8 n) := by
  rw [rnumber k l [n] (by simp only [List.length_cons, List.length_nil]; omega) (by simp only [List.length_cons, List.length_nil]; omega)]
  simp
theorem rbytes_l0 (ps : List (List Int)) (hn : ps.length < 140737488355328) : ∀ (m i k : Nat) (x0 : List Int), i + m = ps.length → x0.length + room (ps.drop i) < 140737488355328 → 11 + m < k →
    chatelaineref14_Bytes.l0 k ps x0 (i : Int) = some (x0 ++ (ps.drop i).flatMap cpart)
  | 0, i, k + 1, x0, hi, _, _ => by
    rw [chatelaineref14_Bytes.l0, if_neg (by omega), List.drop_of_length_le (by omega)]
    simp
  | m + 1, i, k + 1, x0, hi, hx, hk => by
    have e : ps.drop i = ps[i] :: ps.drop (i + 1) := (List.getElem_cons_drop (by omega)).symm
    rw [e, room, List.flatMap_cons, List.length_append, cpart_len] at hx
    rw [chatelaineref14_Bytes.l0, if_pos (by omega), if_pos (by omega), rdL ps i (by omega), rnumber1 k x0 _ (by omega) (by omega), Option.bind_some,
      if_pos (by rw [List.length_append, be8_len]; omega), w64 (by omega) (by omega), show (i : Int) + 1 = ((i + 1 : Nat) : Int) by omega,
      rbytes_l0 ps hn m (i + 1) k _ (by omega) (by rw [List.length_append, List.length_append, be8_len, room]; omega) (by omega), e, List.flatMap_cons, cpart, List.append_assoc, List.append_assoc, List.append_assoc]
theorem rbytes (k : Nat) (l : List Int) (ps : List (List Int)) (hn : ps.length < 140737488355328) (h : l.length + room ps < 140737488355328) (hk : 11 + ps.length < k) : chatelaineref14_Bytes.f k l ps = some (l ++ ps.flatMap cpart) := by
  unfold chatelaineref14_Bytes.f
  rw [if_pos (by simp only [List.length_nil]; omega), List.nil_append]
  have := rbytes_l0 ps hn ps.length 0 k l (by omega) (by rw [List.drop_zero]; omega) (by omega)
  rw [List.drop_zero] at this
  exact this
theorem rtext (k : Nat) (l : List Int) (s : ByteArray) (h : l.length + s.size + 8 < 140737488355328) (hk : 12 < k) : chatelaineref14_Text.f k l s = some (l ++ cpart (bytesOf s)) := by
  unfold chatelaineref14_Text.f
  rw [rnumber1 k l _ (by omega) (by omega), Option.bind_some, if_pos (by rw [List.length_append, be8_len]; omega), cpart, bytesOf_length, List.append_assoc]
theorem over_l0 : ∀ (m i k : Nat) (x : List Int), x.length < 140737488355328 → i + m = x.length → m < k → chatelainelaw0_OverBytes.l0 k x (i : Int) = some ()
  | 0, i, k + 1, x, hx, hi, hk => by rw [chatelainelaw0_OverBytes.l0, if_neg (by omega), if_pos (by omega)]
  | m + 1, i, k + 1, x, hx, hi, hk => by
    rw [chatelainelaw0_OverBytes.l0, if_pos (by omega), if_pos (by omega), w64 (by omega) (by omega), show (i : Int) + 1 = ((i + 1 : Nat) : Int) by omega,
      over_l0 m (i + 1) k _ (by rw [List.length_set]; omega) (by rw [List.length_set]; omega) (by omega)]
theorem over (k : Nat) (x : List Int) (hx : x.length < 140737488355328) (hk : x.length < k) : chatelainelaw0_OverBytes.f k x = some () := over_l0 x.length 0 k x hx (by omega) hk
theorem lays_yes (l0 l1 l2 l3 : List Int) (a4 : ByteArray) (h0 : l0.length ≤ 300) (h1 : l1.length ≤ 20) (h2 : l2.length ≤ 300) (h3 : l3.length ≤ 300) (h4 : a4.size ≤ 300) : chatelainelaw14_CodeLays.j0 100002 l0 l1 l2 l3 a4 false = some true := by
  have hr : room [l2, l3] = 16 + l2.length + l3.length := by simp only [room, List.flatMap_cons, List.flatMap_nil, List.append_nil, List.length_append, cpart_len]; omega
  have hb : ([l2, l3] : List (List Int)).length = 2 := rfl
  rw [chatelainelaw14_CodeLays.j0, if_neg (by simp)]
  refine bnd (show chatelainelaw0_LendBytes.f l0 = some l0 by unfold chatelainelaw0_LendBytes.f; rw [if_pos (by omega)]) ?_
  refine bnd (number _ l0 l1 (by omega) (by omega)) (bnd (cbytes _ l0 [l2, l3] (by omega) (by omega) (by omega)) (bnd (ctext _ l0 a4 (by omega) (by omega)) ?_))
  refine bnd (rnumber _ l0 l1 (by omega) (by omega)) (bnd (same_yes _ _ _ (by rw [List.length_append, flat_len]; omega) (by omega) rfl) (ifp rfl ?_))
  refine bnd (rbytes _ l0 [l2, l3] (by omega) (by omega) (by omega)) (bnd (same_yes _ _ _ (by rw [List.length_append, ← room, hr]; omega) (by omega) rfl) (ifp rfl ?_))
  refine bnd (rtext _ l0 a4 (by omega) (by omega)) (bnd (same_yes _ _ _ (by rw [List.length_append, cpart_len, bytesOf_length]; omega) (by omega) rfl) ?_)
  rw [chatelainelaw14_CodeLays.j1]
  refine bnd (over _ _ (by rw [List.length_append, flat_len]; omega) (by rw [List.length_append, flat_len]; omega)) (bnd (over _ _ (by rw [List.length_append, cpart_len, bytesOf_length]; omega) (by rw [List.length_append, cpart_len, bytesOf_length]; omega)) (ifp rfl ?_))
  refine bnd (show chatelainelaw0_KeptBytes.f _ l0 l0 = some true from same_yes _ _ _ (by omega) (by omega) rfl) (ifp rfl ?_)
  rfl
theorem lays_no (l0 l1 l2 l3 : List Int) (a4 : ByteArray) : chatelainelaw14_CodeLays.j0 100002 l0 l1 l2 l3 a4 true = some true := by
  rw [chatelainelaw14_CodeLays.j0, if_pos rfl]
  rfl
theorem CodeLays : chatelainelaw14_CodeLays.Pure := by
  intro l0 l1 l2 l3 a4 _ _ _ _ _ _ _ _ _ _ _ _ _
  refine ⟨100002, ?_⟩
  unfold chatelainelaw14_CodeLays.f
  by_cases h0 : (l0.length : Int) > 300
  · rw [if_pos h0]; exact lays_no ..
  rw [if_neg h0]
  by_cases h1 : (l1.length : Int) > 20
  · rw [if_pos h1]; exact lays_no ..
  rw [if_neg h1]
  by_cases h2 : (l2.length : Int) > 300
  · rw [if_pos h2]; exact lays_no ..
  rw [if_neg h2]
  by_cases h3 : (l3.length : Int) > 300
  · rw [if_pos h3]; exact lays_no ..
  rw [if_neg h3]
  by_cases h4 : (a4.size : Int) > 300
  · rw [decide_eq_true h4]; exact lays_no ..
  rw [decide_eq_false h4]
  exact lays_yes l0 l1 l2 l3 a4 (by omega) (by omega) (by omega) (by omega) (by omega)
end Go.Proofs.YtbeceghdhcoohaaDoor.Pure
