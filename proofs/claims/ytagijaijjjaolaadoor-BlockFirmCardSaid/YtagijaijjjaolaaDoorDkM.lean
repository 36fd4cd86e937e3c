import Derived.Test.YtagijaijjjaolaaDoorDkL
namespace Go.Proofs.YtagijaijjjaolaaDoor.PBL
open Go.RowKit Go.Proofs.YtagijaijjjaolaaDoorW.PrintWords Go.Proofs.YtagijaijjjaolaaDoorW.PrintLast Go.Proofs.YtagijaijjjaolaaDoorW.PrintMore
attribute [local go_sem] max2_int min2_int max_two min_two max_three min_three max_four min_four
set_option linter.unusedVariables false
set_option linter.unusedSimpArgs false
section
variable {ok ok2 : Nat → Prop}
theorem rd_nat (l : List Int) (i : Nat) (h : i < l.length) : rd l (i : Int) = l[i] := by
  unfold rd
  simp [List.getD_eq_getElem?_getD, h]
theorem same_l : ∀ (m k i : Nat) (l l' : List Int), l.length = l'.length → l.length < 1000000 → i + m = l.length → m < k → chatelainelaw0_SameBytes.l0 k l l' (i : Int) = some (decide (l.drop i = l'.drop i))
  | 0, k, i, l, l', h0, h1, h2, h3 => by
    obtain ⟨k, rfl⟩ : ∃ m, k = m + 1 := ⟨k - 1, by omega⟩
    rw [chatelainelaw0_SameBytes.l0, if_neg (by omega), List.drop_eq_nil_of_le (by omega), List.drop_eq_nil_of_le (by omega), decide_eq_true rfl]
  | m + 1, k, i, l, l', h0, h1, h2, h3 => by
    obtain ⟨k, rfl⟩ : ∃ m, k = m + 1 := ⟨k - 1, by omega⟩
    have hw : wrap64 ((i : Int) + 1) = ((i + 1 : Nat) : Int) := by unfold wrap64; omega
    have e1 : l.drop i = l[i] :: l.drop (i + 1) := List.drop_eq_getElem_cons (by omega)
    have e2 : l'.drop i = l'[i] :: l'.drop (i + 1) := List.drop_eq_getElem_cons (by omega)
    rw [chatelainelaw0_SameBytes.l0, if_pos (by omega), if_pos (by omega), if_pos (by omega), rd_nat l i (by omega), rd_nat l' i (by omega), e1, e2]
    by_cases h : l[i] = l'[i]
    · rw [if_pos h, hw, same_l m k (i + 1) l l' h0 h1 (by omega) (by omega)]
      congr 1
      rw [decide_eq_decide]
      constructor
      · intro hh; rw [h, hh]
      · intro hh; injection hh
    · rw [if_neg h]
      congr 1
      symm
      rw [decide_eq_false_iff_not]
      intro hh
      injection hh with hh1 _
      exact h hh1
theorem same_dec (k : Nat) (l l' : List Int) (h1 : l.length < 1000000) (h3 : l.length < k) : chatelainelaw0_SameBytes.f k l l' = some (decide (l = l')) := by
  unfold chatelainelaw0_SameBytes.f
  by_cases h : (l.length : Int) = (l'.length : Int)
  · rw [if_pos h]
    exact same_l l.length k 0 l l' (by omega) h1 (by omega) h3
  · rw [if_neg h, decide_eq_false (by rintro rfl; exact h rfl)]
theorem samei_l : ∀ (m k i : Nat) (l l' : List Int), l.length = l'.length → l.length < 1000000 → i + m = l.length → m < k → chatelainelaw0_SameInts.l0 k l l' (i : Int) = some (decide (l.drop i = l'.drop i))
  | 0, k, i, l, l', h0, h1, h2, h3 => by
    obtain ⟨k, rfl⟩ : ∃ m, k = m + 1 := ⟨k - 1, by omega⟩
    rw [chatelainelaw0_SameInts.l0, if_neg (by omega), List.drop_eq_nil_of_le (by omega), List.drop_eq_nil_of_le (by omega), decide_eq_true rfl]
  | m + 1, k, i, l, l', h0, h1, h2, h3 => by
    obtain ⟨k, rfl⟩ : ∃ m, k = m + 1 := ⟨k - 1, by omega⟩
    have hw : wrap64 ((i : Int) + 1) = ((i + 1 : Nat) : Int) := by unfold wrap64; omega
    have e1 : l.drop i = l[i] :: l.drop (i + 1) := List.drop_eq_getElem_cons (by omega)
    have e2 : l'.drop i = l'[i] :: l'.drop (i + 1) := List.drop_eq_getElem_cons (by omega)
    rw [chatelainelaw0_SameInts.l0, if_pos (by omega), if_pos (by omega), if_pos (by omega), rd_nat l i (by omega), rd_nat l' i (by omega), e1, e2]
    by_cases h : l[i] = l'[i]
    · rw [if_pos h, hw, samei_l m k (i + 1) l l' h0 h1 (by omega) (by omega)]
      congr 1
      rw [decide_eq_decide]
      constructor
      · intro hh; rw [h, hh]
      · intro hh; injection hh
    · rw [if_neg h]
      congr 1
      symm
      rw [decide_eq_false_iff_not]
      intro hh
      injection hh with hh1 _
      exact h hh1
theorem samei_dec (k : Nat) (l l' : List Int) (h1 : l.length < 1000000) (h3 : l.length < k) : chatelainelaw0_SameInts.f k l l' = some (decide (l = l')) := by
  unfold chatelainelaw0_SameInts.f
  by_cases h : (l.length : Int) = (l'.length : Int)
  · rw [if_pos h]
    exact samei_l l.length k 0 l l' (by omega) h1 (by omega) h3
  · rw [if_neg h, decide_eq_false (by rintro rfl; exact h rfl)]
theorem clone_f (l : List Int) (h : l.length < 1000000) : slices_Clone_byte_byte_31.f l = some l := by
  unfold slices_Clone_byte_byte_31.f
  rw [Option.bind_some, if_pos (by simp; omega), List.nil_append]
theorem full_l : ∀ (m k i : Nat) (a : Int) (x : List Int), x.length < 1000000 → i + m = x.length → m < k → ∃ r, chatelainelaw23_full.l0 k a x (i : Int) = some r ∧ r.length = x.length
  | 0, k, i, a, x, h1, h2, h3 => by
    obtain ⟨k, rfl⟩ : ∃ m, k = m + 1 := ⟨k - 1, by omega⟩
    exact ⟨x, by rw [chatelainelaw23_full.l0, if_neg (by omega)], rfl⟩
  | m + 1, k, i, a, x, h1, h2, h3 => by
    obtain ⟨k, rfl⟩ : ∃ m, k = m + 1 := ⟨k - 1, by omega⟩
    have hw : wrap64 ((i : Int) + 1) = ((i + 1 : Nat) : Int) := by unfold wrap64; omega
    rw [chatelainelaw23_full.l0, if_pos (by omega), if_pos (by omega), hw]
    obtain ⟨r, e, hl⟩ := full_l m k (i + 1) a (x.set (i : Int).toNat ((a + ((i : Int) % 256)) % 256)) (by rw [List.length_set]; exact h1) (by rw [List.length_set]; omega) (by omega)
    exact ⟨r, e, hl.trans List.length_set⟩
/-- What a block is filled with. -/
def fullL (a b : Int) : List Int := (chatelainelaw23_full.f 1000 a b).getD []
theorem full_f (a b : Int) : chatelainelaw23_full.f 1000 a b = some (fullL a b) ∧ (fullL a b).length = (mn (mx b 0) 600).toNat := by
  have h0 : 0 ≤ mn (mx b 0) 600 := by unfold mn mx; split <;> split <;> omega
  have h1 : mn (mx b 0) 600 ≤ 600 := by unfold mn mx; split <;> split <;> omega
  have h : ∃ r, chatelainelaw23_full.f 1000 a b = some r ∧ r.length = (mn (mx b 0) 600).toNat := by
    unfold chatelainelaw23_full.f
    rw [if_pos h0, if_pos (by omega)]
    obtain ⟨r, e, hl⟩ := full_l (mn (mx b 0) 600).toNat 1000 0 a (List.replicate (mn (mx b 0) 600).toNat 0) (by rw [List.length_replicate]; omega) (by rw [List.length_replicate]; omega) (by omega)
    exact ⟨r, e, hl.trans List.length_replicate⟩
  obtain ⟨r, e, hl⟩ := h
  unfold fullL
  rw [e]
  exact ⟨rfl, hl⟩
theorem full_512 (a : Int) : (fullL a 512).length = 512 := by rw [(full_f a 512).2]; rfl
theorem full_lt (a b : Int) : (fullL a b).length ≤ 600 := by
  rw [(full_f a b).2]
  have h1 : mn (mx b 0) 600 ≤ 600 := by unfold mn mx; split <;> split <;> omega
  omega
theorem Fu.calls (a b : Int) (w : World) : Calls Tryd.prog 11 #[.int .u8 a, .int .i64 b] w fun e w' => ∃ A c, e = .returned (.slice A (fullL a b).length c) ∧ Kd.R (Kd.int .u8) 5 w' w.heap.size (fun _ => True) (.slice A (fullL a b).length c) (fullL a b) ∧ Below w.heap.size w w' :=
  (chatelainelaw23_full.calls 1000 a b (fullL a b) w (full_f a b).1).mono fun e w' ⟨v, h1, h2, h3⟩ => by
    obtain ⟨A, c, rfl⟩ := Kd.R_slice h2
    exact ⟨A, c, h1, h2, h3⟩
theorem Drawn0.below {w w' : World} (h : Drawn0 w w') : Below w.heap.size w w' := by
  obtain ⟨n, rfl⟩ := h.out
  exact pw_below_drewN (Below.refl _ _) n
theorem Sb.calls (A : Option Addr) (c : Nat) (l : List Int) (A' : Option Addr) (c' : Nat) (l' : List Int) (w : World) (h1 : Kd.C (Kd.int .u8) w A l.length l) (hc : l.length ≤ c) (h2 : Kd.C (Kd.int .u8) w A' l'.length l') (hc' : l'.length ≤ c') (hl : l.length < 100000) : Calls Tryd.prog 16 #[.slice A l.length c, .slice A' l'.length c'] w fun e w' => e = .returned (.bool (decide (l = l'))) ∧ Below w.heap.size w w' :=
  (chatelainelaw0_SameBytes.calls 200000 A c l A' c' l' _ w h1 hc h2 hc' (same_dec 200000 l l' (by omega) (by omega))).mono fun e w' ⟨q1, q2⟩ => ⟨q1, q2.below⟩
theorem Si.calls (A : Option Addr) (c : Nat) (l : List Int) (A' : Option Addr) (c' : Nat) (l' : List Int) (w : World) (h1 : Kd.C (Kd.int .i64) w A l.length l) (hc : l.length ≤ c) (h2 : Kd.C (Kd.int .i64) w A' l'.length l') (hc' : l'.length ≤ c') (hl : l.length < 100000) : Calls Tryd.prog 21 #[.slice A l.length c, .slice A' l'.length c'] w fun e w' => e = .returned (.bool (decide (l = l'))) ∧ Below w.heap.size w w' :=
  (chatelainelaw0_SameInts.calls 200000 A c l A' c' l' _ w h1 hc h2 hc' (samei_dec 200000 l l' (by omega) (by omega))).mono fun e w' ⟨q1, q2⟩ => ⟨q1, q2.below⟩
/-- An error by its number. -/
def ErrV (w : World) (v : Value) (c : Int) : Prop := c = 0 ∧ v = .nilIface ∨ c ≠ 0 ∧ FaultAt w v c
theorem ErrV.below {w w' : World} {v : Value} {c : Int} (h : ErrV w v c) (hb : Below w.heap.size w w') : ErrV w' v c := h.imp id fun h => ⟨h.1, h.2.below hb⟩
theorem ErrV.num {w : World} {v : Value} {c : Int} (h : ErrV w v c) (hg : w.cell? ⟨0, 0, none⟩ = some (.iface 94 (.agg #[.pointer (some ⟨1, 28, none⟩)]))) : Calls Tryd.prog 25 #[v] w fun e w' => e = .returned (.int .i64 c) ∧ Below w.heap.size w w' := by
  rcases h with ⟨rfl, rfl⟩ | ⟨hc, h⟩
  · exact Errs.num_nil w
  · exact h.num hc hg
/-- What a call that writes makes of a disk, and its error's number. -/
def DS.write (s : DS) (i : Int) (l : List Int) : DS × Int :=
  if i < 0 ∨ (s.now.length : Int) ≤ i then (s, 2) else if l.length ≠ 512 then (s, 3) else (⟨s.now.set i.toNat l, s.firm, s.dirty.set i.toNat true⟩, 0)
theorem Dk_Write.calls (o : Own) (s : DS) (w : World) (h : Dk ok 58 w o s) (A : Option Addr) (c : Nat) (l : List Int) (hC : Kd.C (Kd.int .u8) w A l.length l) (hc : l.length ≤ c) (i : Int) (hok : ∀ k, w.heap.size ≤ k → ok k) :
    Calls Tryd.prog 10 #[.pointer (some ⟨o.g, 0, none⟩), .int .i64 i, .slice A l.length c] w fun e w' => ∃ v, e = .returned v ∧ ErrV w' v (s.write i l).2 ∧ Dk ok 58 w' o (s.write i l).1 ∧ Keeps o.has w w' := by
  unfold DS.write
  by_cases h1 : i < 0 ∨ (s.now.length : Int) ≤ i
  · rw [if_pos h1]
    exact (Dk_WriteBad.calls o s w h A l.length c i h1).mono fun e w' ⟨v, q1, q2, q3⟩ => ⟨v, q1, .inr ⟨show (2 : Int) ≠ 0 by decide, q2⟩, h.below q3, Keeps.of_below q3⟩
  · rw [if_neg h1]
    obtain ⟨m, rfl⟩ := Int.eq_ofNat_of_zero_le (show 0 ≤ i by omega)
    have hm : m < s.now.length := by omega
    by_cases h2 : l.length ≠ 512
    · rw [if_pos h2]
      exact (Dk_WriteSize.calls o s w h A l.length c m hm h2).mono fun e w' ⟨v, q1, q2, q3⟩ => ⟨v, q1, .inr ⟨show (3 : Int) ≠ 0 by decide, q2⟩, h.below q3, Keeps.of_below q3⟩
    · rw [if_neg h2, Int.toNat_natCast]
      have h3 : l.length = 512 := by omega
      exact (Dk_WriteOk.calls o s w h A c l hC hc h3 (clone_f l (by omega)) m hm hok).mono fun e w' ⟨q1, q2, q3⟩ => ⟨_, q1, .inl ⟨rfl, rfl⟩, q2, q3⟩
theorem Rk_Write.calls (o : Own) (s : DS) (w : World) (h : Dk ok 64 w o s) (A : Option Addr) (c : Nat) (l : List Int) (hC : Kd.C (Kd.int .u8) w A l.length l) (hc : l.length ≤ c) (i : Int) (hok : ∀ k, w.heap.size ≤ k → ok k) :
    Calls Tryd.prog 33 #[.pointer (some ⟨o.g, 0, none⟩), .int .i64 i, .slice A l.length c] w fun e w' => e = .returned (.int .i64 (s.write i l).2) ∧ Dk ok 64 w' o (s.write i l).1 ∧ Keeps o.has w w' := by
  unfold DS.write
  by_cases h1 : i < 0 ∨ (s.now.length : Int) ≤ i
  · rw [if_pos h1]
    exact (Rk_WriteBad.calls o s w h A l.length c i h1).mono fun e w' ⟨q1, q2⟩ => ⟨q1, by rw [q2]; exact h, by rw [q2]; exact Keeps.refl _ _⟩
  · rw [if_neg h1]
    obtain ⟨m, rfl⟩ := Int.eq_ofNat_of_zero_le (show 0 ≤ i by omega)
    have hm : m < s.now.length := by omega
    by_cases h2 : l.length ≠ 512
    · rw [if_pos h2]
      exact (Rk_WriteSize.calls o s w h A l.length c m hm h2).mono fun e w' ⟨q1, q2⟩ => ⟨q1, by rw [q2]; exact h, by rw [q2]; exact Keeps.refl _ _⟩
    · rw [if_neg h2, Int.toNat_natCast]
      exact Rk_WriteOk.calls o s w h A c l hC (by omega) m hm hok
theorem dix_mem (D : List Bool) : ∀ n i, i ∈ dix D n ↔ i < n ∧ D[i]? = some true
  | 0, i => by simp [dix]
  | n + 1, i => by
    unfold dix
    have ih := dix_mem D n i
    split
    · rename_i h
      rw [List.mem_append, List.mem_singleton, ih]
      constructor
      · rintro (⟨h1, h2⟩ | rfl)
        · exact ⟨by omega, h2⟩
        · exact ⟨by omega, h⟩
      · rintro ⟨h1, h2⟩
        by_cases hi : i = n
        · exact .inr hi
        · exact .inl ⟨by omega, h2⟩
    · rename_i h
      rw [ih]
      constructor
      · rintro ⟨h1, h2⟩; exact ⟨by omega, h2⟩
      · rintro ⟨h1, h2⟩
        refine ⟨?_, h2⟩
        by_cases hi : i = n
        · subst hi; exact absurd h2 h
        · omega
theorem dix_nodup (D : List Bool) : ∀ n, (dix D n).Nodup
  | 0 => List.nodup_nil
  | n + 1 => by
    unfold dix
    split
    · rw [List.nodup_append]
      refine ⟨dix_nodup D n, by simp, fun a ha b hb => ?_⟩
      rw [List.mem_singleton.mp hb]
      have := dix_lt D n a ha
      omega
    · exact dix_nodup D n
/-- Lengths that fit. -/
structure DS.Fits (s : DS) : Prop where
  nf : s.firm.length = s.now.length
  nd : s.dirty.length = s.now.length
theorem Dk.fits {T : TypeId} {w : World} {o : Own} {s : DS} (h : Dk ok T w o s) : s.Fits := ⟨h.nf, h.nd⟩
theorem DS.Fits.keep {s : DS} (h : s.Fits) (i : Nat) : (s.keep i).Fits := ⟨List.length_set.trans h.nf, h.nd⟩
theorem DS.Fits.back {s : DS} (h : s.Fits) (i : Nat) : (s.back i).Fits := ⟨h.nf.trans List.length_set.symm, by show (s.dirty.set i false).length = (s.now.set i _).length; rw [List.length_set, List.length_set]; exact h.nd⟩
theorem get_set_ne {α : Type} (l : List α) (i j : Nat) (a : α) (h : i ≠ j) : (l.set i a)[j]? = l[j]? := by rw [List.getElem?_set, if_neg h]
theorem get_set_eq {α : Type} (l : List α) (i : Nat) (a : α) (h : i < l.length) : (l.set i a)[i]? = some a := by rw [List.getElem?_set, if_pos rfl, if_pos h]
theorem get_d {α : Type} (l : List α) (d : α) (i : Nat) (h : i < l.length) : l[i]? = some (l.getD i d) := by rw [List.getElem?_eq_getElem h, List.getD_eq_getElem?_getD, List.getElem?_eq_getElem h]; rfl
/-- What a crash leaves: elsewhere all stays; where it was dirty it is as it lasts. -/
structure Crashed (X : List Nat) (s r : DS) : Prop where
  len : r.now.length = s.now.length
  fits : r.Fits
  far : ∀ i, i ∉ X → r.now[i]? = s.now[i]? ∧ r.firm[i]? = s.firm[i]? ∧ r.dirty[i]? = s.dirty[i]?
  here : ∀ i, i ∈ X → r.now[i]? = r.firm[i]? ∧ r.dirty[i]? = some false
theorem crashed (keep : List Bool) : ∀ (X : List Nat) (k : Nat) (s : DS) (n : Nat), X.Nodup → (∀ i, i ∈ X → i < s.now.length) → s.Fits → Crashed X s (crashL keep X k s n).1
  | [], k, s, n, _, _, hf => ⟨rfl, hf, fun i _ => ⟨rfl, rfl, rfl⟩, fun i h => by cases h⟩
  | x :: X, k, s, n, hX, hlt, hf => by
    have hx : x < s.now.length := hlt x (List.mem_cons_self ..)
    obtain ⟨hxX, hX'⟩ := List.nodup_cons.mp hX
    have hxf : x < s.firm.length := by rw [hf.nf]; exact hx
    have hxd : x < s.dirty.length := by rw [hf.nd]; exact hx
    rw [crashL]
    split
    · have ih := crashed keep X (k + 1) ((s.keep x).back x) (n + 1) hX' (fun i hi => by rw [DS.back_len]; exact hlt i (List.mem_cons_of_mem _ hi)) ((hf.keep x).back x)
      have e1 := ih.far x hxX
      refine ⟨ih.len.trans (DS.back_len _ _), ih.fits, fun i hi => ?_, fun i hi => ?_⟩
      · have hix : x ≠ i := fun e => hi (e ▸ List.mem_cons_self ..)
        obtain ⟨a1, a2, a3⟩ := ih.far i (fun h => hi (List.mem_cons_of_mem _ h))
        refine ⟨a1.trans (get_set_ne _ _ _ _ hix), a2.trans (get_set_ne _ _ _ _ hix), a3.trans (get_set_ne _ _ _ _ hix)⟩
      · rcases List.mem_cons.mp hi with rfl | hi
        · rw [e1.1, e1.2.1, e1.2.2]
          show (s.now.set i ((s.firm.set i (s.now.getD i [])).getD i []))[i]? = (s.firm.set i (s.now.getD i []))[i]? ∧ (s.dirty.set i false)[i]? = some false
          rw [get_set_eq _ _ _ hx, get_set_eq _ _ _ hxf, get_set_eq _ _ _ hxd, List.getD_eq_getElem?_getD, get_set_eq _ _ _ hxf]
          exact ⟨rfl, rfl⟩
        · exact ih.here i hi
    · have ih := crashed keep X (k + 1) (s.back x) n hX' (fun i hi => by rw [DS.back_len]; exact hlt i (List.mem_cons_of_mem _ hi)) (hf.back x)
      have e1 := ih.far x hxX
      refine ⟨ih.len.trans (DS.back_len _ _), ih.fits, fun i hi => ?_, fun i hi => ?_⟩
      · have hix : x ≠ i := fun e => hi (e ▸ List.mem_cons_self ..)
        obtain ⟨a1, a2, a3⟩ := ih.far i (fun h => hi (List.mem_cons_of_mem _ h))
        exact ⟨a1.trans (get_set_ne _ _ _ _ hix), a2, a3.trans (get_set_ne _ _ _ _ hix)⟩
      · rcases List.mem_cons.mp hi with rfl | hi
        · rw [e1.1, e1.2.1, e1.2.2]
          show (s.now.set i (s.firm.getD i []))[i]? = s.firm[i]? ∧ (s.dirty.set i false)[i]? = some false
          rw [get_set_eq _ _ _ hx, get_set_eq _ _ _ hxd, get_d _ [] _ hxf]
          exact ⟨rfl, rfl⟩
        · exact ih.here i hi
/-- Both ways keep the same. -/
theorem crash_keep (keep : List Bool) : ∀ (X : List Nat) (k : Nat) (s t : DS) (n : Nat), X.Nodup → s.firm = t.firm → (∀ i, i ∈ X → s.now.getD i [] = t.now.getD i []) → (crashL keep X k s n).1.firm = (keepL keep X k t n).1.firm ∧ (crashL keep X k s n).2 = (keepL keep X k t n).2
  | [], k, s, t, n, _, h, _ => ⟨h, rfl⟩
  | x :: X, k, s, t, n, hX, h, hn => by
    obtain ⟨hxX, hX'⟩ := List.nodup_cons.mp hX
    have e0 := hn x (List.mem_cons_self ..)
    rw [crashL, keepL]
    have far : ∀ (l : List (List Int)) (v : List Int) (i : Nat), i ∈ X → (l.set x v).getD i [] = l.getD i [] := fun l v i hi => by
      have hxi : x ≠ i := by rintro rfl; exact hxX hi
      rw [List.getD_eq_getElem?_getD, List.getD_eq_getElem?_getD, get_set_ne _ _ _ _ hxi]
    split
    · refine crash_keep keep X (k + 1) _ _ (n + 1) hX' ?_ (fun i hi => ?_)
      · show s.firm.set x (s.now.getD x []) = t.firm.set x (t.now.getD x [])
        rw [h, e0]
      · show (s.now.set x _).getD i [] = t.now.getD i []
        rw [far _ _ i hi]
        exact hn i (List.mem_cons_of_mem _ hi)
    · refine crash_keep keep X (k + 1) _ _ n hX' h (fun i hi => ?_)
      show (s.now.set x _).getD i [] = t.now.getD i []
      rw [far _ _ i hi]
      exact hn i (List.mem_cons_of_mem _ hi)
/-- What is not dirty is as it lasts. -/
def DS.Clean (s : DS) : Prop := ∀ i : Nat, s.dirty[i]? = some false → s.now[i]? = s.firm[i]?
theorem DS.ext' {a b : DS} (h1 : a.now = b.now) (h2 : a.firm = b.firm) (h3 : a.dirty = b.dirty) : a = b := by
  cases a; cases b; simp only at h1 h2 h3; subst h1 h2 h3; rfl
/-- The reference's crash is the same. -/
theorem crash_same (s : DS) (keep : List Bool) (hf : s.Fits) (hc : s.Clean) : (⟨(keepL keep (dix s.dirty s.now.length) 0 s 0).1.firm, (keepL keep (dix s.dirty s.now.length) 0 s 0).1.firm, List.replicate s.now.length false⟩ : DS) = (crashL keep (dix s.dirty s.now.length) 0 s 0).1 ∧ (keepL keep (dix s.dirty s.now.length) 0 s 0).2 = (crashL keep (dix s.dirty s.now.length) 0 s 0).2 := by
  have h1 := crash_keep keep (dix s.dirty s.now.length) 0 s s 0 (dix_nodup _ _) rfl (fun _ _ => rfl)
  have h2 := crashed keep (dix s.dirty s.now.length) 0 s 0 (dix_nodup _ _) (dix_lt _ _) hf
  refine ⟨?_, h1.2.symm⟩
  rw [← h1.1]
  generalize (crashL keep (dix s.dirty s.now.length) 0 s 0).1 = r at *
  have hd : ∀ i, i ∉ dix s.dirty s.now.length → i < s.now.length → s.dirty[i]? = some false := fun i hi hlt => by
    have hl : i < s.dirty.length := by rw [hf.nd]; exact hlt
    have := mt (dix_mem s.dirty s.now.length i).mpr hi
    rw [List.getElem?_eq_getElem hl] at this ⊢
    cases hb : s.dirty[i] with
    | true => rw [hb] at this; exact absurd ⟨hlt, rfl⟩ this
    | false => rfl
  refine DS.ext' ?_ rfl ?_
  · show r.firm = r.now
    refine List.ext_getElem? fun i => ?_
    by_cases hi : i ∈ dix s.dirty s.now.length
    · exact (h2.here i hi).1.symm
    · obtain ⟨a1, a2, _⟩ := h2.far i hi
      rw [a1, a2]
      by_cases hlt : i < s.now.length
      · exact (hc i (hd i hi hlt)).symm
      · rw [List.getElem?_eq_none (by rw [hf.nf]; omega), List.getElem?_eq_none (by omega)]
  · show List.replicate s.now.length false = r.dirty
    refine List.ext_getElem? fun i => ?_
    by_cases hlt : i < s.now.length
    · rw [List.getElem?_replicate, if_pos hlt]
      by_cases hi : i ∈ dix s.dirty s.now.length
      · exact (h2.here i hi).2.symm
      · rw [(h2.far i hi).2.2, hd i hi hlt]
    · rw [List.getElem?_eq_none (by rw [List.length_replicate]; omega), List.getElem?_eq_none (by rw [h2.fits.nd, h2.len]; omega)]
theorem crash_clean (s : DS) (keep : List Bool) (hf : s.Fits) (hc : s.Clean) : (crashL keep (dix s.dirty s.now.length) 0 s 0).1.Clean := by
  intro i _
  rw [← (crash_same s keep hf hc).1]
def DS.crash (s : DS) (keep : List Bool) : DS × Nat := crashL keep (dix s.dirty s.now.length) 0 s 0

end

end Go.Proofs.YtagijaijjjaolaaDoor.PBL
