import Derived.Test.YtagijaijjjaolaaDoorDkQ
namespace Go.Proofs.YtagijaijjjaolaaDoor.PBL
open Go.RowKit Go.Proofs.YtagijaijjjaolaaDoorW.PrintWords Go.Proofs.YtagijaijjjaolaaDoorW.PrintLast Go.Proofs.YtagijaijjjaolaaDoorW.PrintMore
attribute [local go_sem] max2_int min2_int max_two min_two max_three min_three max_four min_four   -- for this text's walks alone
set_option linter.unusedVariables false
set_option linter.unusedSimpArgs false

section
variable {ok ok2 : Nat → Prop}
theorem great_l (l : List S44) (m : Int) (hl : l.length < 9223372036854775808) : ∀ d j : Nat, l.length - j ≤ d → ∃ k r, chatelainelaw23_great.l0 k l m (j : Int) = some r
  | d, j, h => by
    by_cases c : j < l.length
    · cases d with
      | zero => omega
      | succ d =>
        obtain ⟨k, r, e⟩ := great_l l m hl d (j + 1) (by omega)
        have hw : wrap64 ((j : Int) + 1) = ((j + 1 : Nat) : Int) := by unfold wrap64; omega
        by_cases g : (l.length : Int) ≤ m
        · by_cases g2 : (((rd_T44 l (j : Int)).f4).length : Int) > 40
          · exact ⟨k + 2, true, by
              rw [chatelainelaw23_great.l0, if_pos (by omega), chatelainelaw23_great.j1, if_pos (decide_eq_true g), if_pos (by omega), if_pos (by omega)]
              exact if_pos g2⟩
          · exact ⟨k + 2, r, by
              rw [chatelainelaw23_great.l0, if_pos (by omega), chatelainelaw23_great.j1, if_pos (decide_eq_true g), if_pos (by omega), if_pos (by omega)]
              exact (if_neg g2).trans (by rw [hw]; exact e)⟩
        · exact ⟨2, _, by
            rw [chatelainelaw23_great.l0, if_pos (by omega), chatelainelaw23_great.j1, if_neg (by rw [decide_eq_false g]; exact Bool.false_ne_true)]⟩
    · exact ⟨2, _, by
        rw [chatelainelaw23_great.l0, if_neg (by omega), chatelainelaw23_great.j1, if_neg Bool.false_ne_true]⟩
theorem great_tells (l : List S44) (m : Int) (hl : l.length < 9223372036854775808) : ∃ k r, chatelainelaw23_great.f k l m = some r := great_l l m hl l.length 0 (by omega)

theorem keep_lt {w : World} {A : Option Addr} {xs : List Bool} (h : Kd.C Kd.bool w A xs.length xs) (ad : Addr) (e : A = some ad) (hne : xs ≠ []) : ad.block < w.heap.size := by
  obtain ⟨_, _, a3⟩ := Kd.reads_of_C (d := false) h
  have hl : 0 < xs.length := List.length_pos_iff.mpr hne
  obtain ⟨ad2, e2, hcl⟩ := a3 hl
  rw [e] at e2
  cases e2
  have := World.block_lt_of_cell? w _ (hcl 0 hl)
  have hbl : (ad.add 0).block = ad.block := by unfold Addr.add; split <;> rfl
  rw [hbl] at this
  exact this
theorem act_at {w w' : World} {A : Option Addr} {n : Nat} {xs : List S44} (hr : Kd.C k44 w A n xs) (hb : Below w.heap.size w w') (j : Nat) (hj : j < n) : ∃ ad A4 c4 x0 x1 x2 x3 x4, A = some ad ∧ (ad.add (j * 5)).block < w.heap.size ∧ w'.cell? (ad.add (j * 5)) = some (.int .i64 x0) ∧ w'.cell? ⟨(ad.add (j * 5)).block, (ad.add (j * 5)).off + 1, none⟩ = some (.int .i64 x1) ∧ w'.cell? ⟨(ad.add (j * 5)).block, (ad.add (j * 5)).off + 2, none⟩ = some (.int .u8 x2) ∧ w'.cell? ⟨(ad.add (j * 5)).block, (ad.add (j * 5)).off + 3, none⟩ = some (.int .i64 x3) ∧ w'.cell? ⟨(ad.add (j * 5)).block, (ad.add (j * 5)).off + 4, none⟩ = some (.slice A4 x4.length c4) ∧ x4.length ≤ c4 ∧ Kd.C Kd.bool w' A4 x4.length x4 ∧ (∀ ad4, A4 = some ad4 → x4 ≠ [] → ad4.block < w.heap.size) ∧ rd_T44 xs (j : Int) = ⟨x0, x1, x2, x3, x4⟩ := by
  obtain ⟨ad, A4, c4, e, h0, h1, h2, h3, h4, hl, hC⟩ := at_T44 hr (j : Int) (by omega) (by omega)
  rw [Int.toNat_natCast] at h0 h1 h2 h3 h4
  exact ⟨ad, A4, c4, _, _, _, _, _, e, World.block_lt_of_cell? w _ h0, pw_cell_below hb h0, pw_cell_below hb h1, pw_cell_below hb h2, pw_cell_below hb h3, pw_cell_below hb h4, hl, Kd.C_below hC hb, fun ad4 e4 hne => keep_lt hC ad4 e4 hne, rfl⟩
theorem Keeps.cell {S : Nat → Prop} {w w' : World} (hk : Keeps S w w') {p : Addr} {v : Value} (h : w.cell? p = some v) (hn : ¬ S p.block) : w'.cell? p = some v := by
  rw [← h]; unfold World.cell?; rw [hk.far _ (World.block_lt_of_cell? w _ h) hn]
theorem DS.play_clean' (s : DS) (x : S44) (h : s.Fits) (hc : s.Clean) : (s.play x).Clean := DS.play_clean s x h hc

theorem Dk.gc' {o o2 : Own} {T T2 : TypeId} {w w' : World} {s s2 : DS} {t : TypeId} {v : Value} (h : Dk ok T w o s) (hg : w.cell? ⟨0, 0, none⟩ = some (.iface t v)) (h2 : Dk ok2 T2 w o2 s2) (hk : Keeps (KO o o2) w w') : w'.cell? ⟨0, 0, none⟩ = some (.iface t v) := by
  have n1 : ¬ o.has 0 := fun e => by
    have hh : Keeps o.has w { w with heap := w.heap.set! 0 (.cells #[] 0 (0, 0)) } := ⟨rfl, rfl, rfl, by simp, fun i hi hn => by
      have : (0 : Nat) ≠ i := fun e2 => hn (e2 ▸ e)
      simp [Array.set!, Array.getElem?_setIfInBounds, this]⟩
    have := h.gc hg hh
    have hlt := World.block_lt_of_cell? w _ hg
    simp [World.cell?, Array.set!, Array.getElem?_setIfInBounds, hlt] at this
  have n2 : ¬ o2.has 0 := fun e => by
    have hh : Keeps o2.has w { w with heap := w.heap.set! 0 (.cells #[] 0 (0, 0)) } := ⟨rfl, rfl, rfl, by simp, fun i hi hn => by
      have : (0 : Nat) ≠ i := fun e2 => hn (e2 ▸ e)
      simp [Array.set!, Array.getElem?_setIfInBounds, this]⟩
    have := h2.gc hg hh
    have hlt := World.block_lt_of_cell? w _ hg
    simp [World.cell?, Array.set!, Array.getElem?_setIfInBounds, hlt] at this
  exact hk.cell hg (fun e => Or.elim e n1 n2)

theorem act_len {w : World} {A : Option Addr} {xs : List S44} (h : Kd.C k44 w A xs.length xs) : xs.length < 9223372036854775808 := by have := h.2.1; unfold maxLen at this; omega

theorem w64' {n : Int} (h1 : -9223372036854775808 ≤ n) (h2 : n ≤ 9223372036854775807) : wrap64 n = n := by unfold wrap64; omega
theorem low_ok (a : Int) (n : Nat) (h0 : 0 < n) (h1 : n < 4294967296) : ∃ r : Nat, r < n ∧ chatelainelaw0_Low.f a (n : Int) = some (r : Int) := by
  have hw : ∀ x : Int, IntKind.u64.wrap x = x % 18446744073709551616 := fun x => by simp [IntKind.wrap, IntKind.bits, IntKind.signed]
  have hn : IntKind.u64.wrap (n : Int) = (n : Int) := by rw [hw]; omega
  have hu := hw a
  have hu0 : 0 ≤ IntKind.u64.wrap a := by rw [hu]; omega
  have hr0 : 0 ≤ IntKind.u64.wrap a % (n : Int) := Int.emod_nonneg _ (by omega)
  have hr1 : IntKind.u64.wrap a % (n : Int) < (n : Int) := Int.emod_lt_of_pos _ (by omega)
  refine ⟨(IntKind.u64.wrap a % (n : Int)).toNat, by omega, ?_⟩
  unfold chatelainelaw0_Low.f
  rw [hn, if_neg (by omega), Int.tmod_eq_emod_of_nonneg hu0, w64' (by omega) (by omega), Int.toNat_of_nonneg hr0]
/-- Acts, one behind the other. -/
def DS.plays (s : DS) : List S44 → DS
  | [] => s
  | x :: l => (s.play x).plays l
theorem plays_at {s : DS} {l : List S44} {j : Nat} {r : DS} {x : S44} (h : s.plays (l.drop j) = r) (hj : j < l.length) (hx : rd_T44 l (j : Int) = x) : (s.play x).plays (l.drop (j + 1)) = r := by
  have e : l.drop j = l[j] :: l.drop (j + 1) := List.drop_eq_getElem_cons hj
  have e2 : x = l[j] := by rw [← hx]; unfold rd_T44; rw [Int.toNat_natCast, List.getD_eq_getElem?_getD, List.getElem?_eq_getElem hj]; rfl
  rw [e] at h
  rw [e2]
  exact h
theorem plays_end {s : DS} {l : List S44} {j : Nat} {r : DS} (h : s.plays (l.drop j) = r) (hj : ¬ j < l.length) : s = r := by
  rw [List.drop_eq_nil_of_le (by omega)] at h
  exact h
theorem Keeps.of_l {o o2 : Own} {w w' : World} (h : Keeps o.has w w') : Keeps (KO o o2) w w' := Keeps.l h
theorem len512 {T : TypeId} {w : World} {o : Own} {s : DS} (h : Dk ok T w o s) {i : Nat} (hi : i < s.now.length) : (s.now.getD i []).length = 512 ∧ (s.firm.getD i []).length = 512 := by
  obtain ⟨_, _, _, _, a⟩ := h.elN hi
  obtain ⟨_, _, _, _, b⟩ := h.elF hi
  exact ⟨a, b⟩

theorem crash2_true : ∀ (X : List Nat) (k : Nat) (s : DS) (n : Nat), (crashL [true] X k s n).2 = n + X.length
  | [], _, _, _ => rfl
  | x :: X, k, s, n => by rw [crashL, if_pos (kept_true k), crash2_true X, List.length_cons]; omega
theorem crash2_nil : ∀ (X : List Nat) (k : Nat) (s : DS) (n : Nat), (crashL [] X k s n).2 = n
  | [], _, _, _ => rfl
  | x :: X, k, s, n => by rw [crashL, if_neg (show ¬ (kept [] k = true) by unfold kept; simp), crash2_nil X]
theorem crash2_le (keep : List Bool) : ∀ (X : List Nat) (k : Nat) (s : DS) (n : Nat), (crashL keep X k s n).2 ≤ n + X.length
  | [], _, _, _ => Nat.le_refl _
  | x :: X, k, s, n => by
    rw [crashL]
    split
    · have := crash2_le keep X (k + 1) ((s.keep x).back x) (n + 1); rw [List.length_cons]; omega
    · have := crash2_le keep X (k + 1) (s.back x) n; rw [List.length_cons]; omega
theorem keepL_nil : ∀ (X : List Nat) (k : Nat) (s : DS) (n : Nat), keepL [] X k s n = (s, n)
  | [], _, _, _ => rfl
  | x :: X, k, s, n => by rw [keepL, if_neg (show ¬ (kept [] k = true) by unfold kept; simp), keepL_nil X]
/-- How many blocks differ, of the first so many. -/
def chg (f g : List (List Int)) : Nat → Nat
  | 0 => 0
  | j + 1 => chg f g j + (if g.getD j [] = f.getD j [] then 0 else 1)
theorem chg_le (f g : List (List Int)) : ∀ j, chg f g j ≤ j
  | 0 => Nat.le_refl _
  | j + 1 => by have := chg_le f g j; rw [chg]; split <;> omega
theorem chg_refl (f : List (List Int)) : ∀ j, chg f f j = 0
  | 0 => rfl
  | j + 1 => by rw [chg, chg_refl f j, if_pos rfl]
theorem getD_set_ne (g : List (List Int)) (x j : Nat) (v : List Int) (h : x ≠ j) : (g.set x v).getD j [] = g.getD j [] := by
  rw [List.getD_eq_getElem?_getD, List.getD_eq_getElem?_getD, List.getElem?_set_ne h]
theorem chg_set (f g : List (List Int)) (x : Nat) (v : List Int) : ∀ j, chg f (g.set x v) j ≤ chg f g j + (if x < j then 1 else 0)
  | 0 => by rw [chg]; omega
  | j + 1 => by
    have h := chg_set f g x v j
    rw [chg, chg]
    by_cases e : x = j
    · subst e
      rw [if_neg (Nat.lt_irrefl _)] at h
      rw [if_pos (Nat.lt_succ_self _)]
      split <;> split <;> omega
    · rw [getD_set_ne g x j v e]
      by_cases l : x < j
      · rw [if_pos l] at h
        rw [if_pos (show x < j + 1 by omega)]
        omega
      · rw [if_neg l] at h
        rw [if_neg (show ¬ (x < j + 1) by omega)]
        omega
theorem keepL_chg (keep : List Bool) (f0 : List (List Int)) (m : Nat) : ∀ (X : List Nat) (k : Nat) (s : DS) (n : Nat), chg f0 (keepL keep X k s n).1.firm m + n ≤ chg f0 s.firm m + (keepL keep X k s n).2
  | [], _, _, _ => Nat.le_refl _
  | x :: X, k, s, n => by
    rw [keepL]
    split
    · have h := keepL_chg keep f0 m X (k + 1) (s.keep x) (n + 1)
      have h2 : chg f0 (s.keep x).firm m ≤ chg f0 s.firm m + 1 := by
        have := chg_set f0 s.firm x (s.now.getD x []) m
        show chg f0 (s.firm.set x (s.now.getD x [])) m ≤ _
        split at this <;> omega
      omega
    · exact keepL_chg keep f0 m X (k + 1) s n
theorem keepL_or (keep : List Bool) : ∀ (X : List Nat) (k : Nat) (s : DS) (n : Nat), (keepL keep X k s n).1.firm.length = s.firm.length ∧ ∀ i, (keepL keep X k s n).1.firm.getD i [] = s.firm.getD i [] ∨ (keepL keep X k s n).1.firm.getD i [] = s.now.getD i []
  | [], _, _, _ => ⟨rfl, fun _ => .inl rfl⟩
  | x :: X, k, s, n => by
    rw [keepL]
    split
    · obtain ⟨h1, h2⟩ := keepL_or keep X (k + 1) (s.keep x) (n + 1)
      refine ⟨h1.trans List.length_set, fun i => ?_⟩
      rcases h2 i with h | h
      · by_cases e : x = i
        · subst e
          by_cases hl : x < s.firm.length
          · right
            rw [h]
            show (s.firm.set x (s.now.getD x [])).getD x [] = _
            rw [List.getD_eq_getElem?_getD, List.getElem?_set_self hl]
            rfl
          · left
            rw [h]
            show (s.firm.set x (s.now.getD x [])).getD x [] = _
            rw [List.set_eq_of_length_le (by omega)]
        · left
          rw [h]
          exact getD_set_ne _ _ _ _ e
      · exact .inr h
    · exact keepL_or keep X (k + 1) s n
theorem crash_spec (s : DS) (keep : List Bool) (hf : s.Fits) (hc : s.Clean) : ∃ F z, crashL keep (dix s.dirty s.now.length) 0 s 0 = (⟨F, F, List.replicate s.now.length false⟩, z) ∧ F.length = s.now.length ∧ (∀ i : Nat, F.getD i [] = s.firm.getD i [] ∨ F.getD i [] = s.now.getD i []) ∧ chg s.firm F s.now.length ≤ z ∧ z ≤ (dix s.dirty s.now.length).length := by
  obtain ⟨h1, h2⟩ := crash_same s keep hf hc
  obtain ⟨h3, h4⟩ := keepL_or keep (dix s.dirty s.now.length) 0 s 0
  have h5 := keepL_chg keep s.firm s.now.length (dix s.dirty s.now.length) 0 s 0
  have h6 := crash2_le keep (dix s.dirty s.now.length) 0 s 0
  rw [chg_refl] at h5
  refine ⟨(keepL keep (dix s.dirty s.now.length) 0 s 0).1.firm, (crashL keep (dix s.dirty s.now.length) 0 s 0).2, Prod.ext h1.symm rfl, h3.trans hf.nf, h4, by omega, by omega⟩
theorem crash_all (s : DS) (hf : s.Fits) (hc : s.Clean) : crashL [true] (dix s.dirty s.now.length) 0 s 0 = (⟨s.now, s.now, List.replicate s.now.length false⟩, (dix s.dirty s.now.length).length) := Prod.ext (flush_same s hf hc).symm ((crash2_true _ _ _ _).trans (by omega))
theorem crash_none (s : DS) (hf : s.Fits) (hc : s.Clean) : crashL [] (dix s.dirty s.now.length) 0 s 0 = (⟨s.firm, s.firm, List.replicate s.now.length false⟩, 0) := by
  obtain ⟨h1, h2⟩ := crash_same s [] hf hc
  rw [keepL_nil] at h1
  exact Prod.ext h1.symm (crash2_nil _ _ _ _)
theorem dix_none (m n : Nat) : ints (dix (List.replicate m false) n) = [] := by
  have : dix (List.replicate m false) n = [] := by
    refine List.eq_nil_iff_forall_not_mem.mpr fun i hi => ?_
    obtain ⟨_, h⟩ := (dix_mem _ _ _).mp hi
    rw [List.getElem?_replicate] at h
    split at h <;> cases h
  rw [this]; rfl
def Rw (w : World) (A : Option Addr) (c : Nat) (l : List Int) : Prop := Kd.C (Kd.int .u8) w A l.length l ∧ l.length ≤ c
theorem Rw.far {w w' : World} {A : Option Addr} {c : Nat} {l : List Int} (h : Rw w A c l) (hb : Below w.heap.size w w') : Rw w' A c l := ⟨Kd.C_below h.1 hb, h.2⟩
structure Quad (w w' : World) (o a b c : Own) (s sa sb sc : DS) : Prop where
  d : Dk (fun _ => True) 58 w' o s
  a : Dk (fun _ => True) 58 w' a sa
  b : Dk (fun _ => True) 58 w' b sb
  c : Dk (fun _ => True) 58 w' c sc
  bl : Below w.heap.size w w'
theorem Quad.far {w w' w'' : World} {o a b c : Own} {s sa sb sc : DS} (h : Quad w w' o a b c s sa sb sc) (hb : Below w'.heap.size w' w'') : Quad w w'' o a b c s sa sb sc := ⟨h.d.below hb, h.a.below hb, h.b.below hb, h.c.below hb, below_step h.bl hb⟩
theorem Rd_at {w w' : World} {v : Value} {l : List Int} (h : Kd.R (Kd.int .u8) 5 w' w.heap.size (fun _ => True) v l) : ∃ A c, v = .slice A l.length c ∧ Rw w' A c l := by
  obtain ⟨A, c, rfl⟩ := Kd.R_slice h
  exact ⟨A, c, rfl, (Kd.R_reads' h).2.2, (Kd.R_reads' h).2.1⟩

theorem box_true (w : World) : Kd.C Kd.bool (w.alloc (.cells #[.bool true] 4 (0, 0))) (some ⟨w.heap.size, 0, none⟩) ([true] : List Bool).length [true] := Kd.C_of_reads (d := false) ⟨rfl, by decide, fun _ => ⟨_, rfl, fun j hj => by
    have : j = 0 := by have : ([true] : List Bool).length = 1 := rfl; omega
    subst this
    exact (blk_cell (blk_new _ _) 0).trans rfl⟩⟩

theorem Rd_now {w : World} {o : Own} {s : DS} (h : Dk (fun _ => True) 58 w o s) (i : Nat) (hi : i < s.now.length) (l : List Int) (hl : s.now.getD i [] = l) : Calls Tryd.prog 15 #[.pointer (some ⟨o.g, 0, none⟩), .int .i64 (i : Int)] w fun e w' => ∃ A c, e = .returned (.tuple #[.slice A l.length c, .nilIface]) ∧ Rw w' A c l ∧ Below w.heap.size w w' := by
  have h5 := len512 h hi
  have hg := get_d s.now [] i (by exact hi)
  rw [hl] at hg h5
  exact (Dk_Read.calls o s w h i hi l hg (clone_f _ (by omega))).mono fun e w' ⟨v, q1, q2, q3⟩ => by
    obtain ⟨A, c, rfl, hr⟩ := Rd_at q2
    exact ⟨A, c, q1, hr, q3⟩

theorem Rd_firm {w : World} {o : Own} {s : DS} (h : Dk (fun _ => True) 58 w o s) (i : Nat) (hi : i < s.now.length) (l : List Int) (hl : s.firm.getD i [] = l) : Calls Tryd.prog 24 #[.pointer (some ⟨o.g, 0, none⟩), .int .i64 (i : Int)] w fun e w' => ∃ A c, e = .returned (.tuple #[.slice A l.length c, .nilIface]) ∧ Rw w' A c l ∧ Below w.heap.size w w' := by
  have h5 := len512 h hi
  have hg := get_d s.firm [] i (by rw [h.nf]; exact hi)
  rw [hl] at hg h5
  exact (Dk_Firm.calls o s w h i hi l hg (clone_f _ (by omega))).mono fun e w' ⟨v, q1, q2, q3⟩ => by
    obtain ⟨A, c, rfl, hr⟩ := Rd_at q2
    exact ⟨A, c, q1, hr, q3⟩

theorem Sbv (l l' : List Int) (h : l.length < 100000) (v : Bool) (hv : decide (l = l') = v) (A : Option Addr) (c : Nat) (A' : Option Addr) (c' : Nat) (w : World) (h1 : Rw w A c l) (h2 : Rw w A' c' l') : Calls Tryd.prog 16 #[.slice A l.length c, .slice A' l'.length c'] w fun e w' => e = .returned (.bool v) ∧ Below w.heap.size w w' :=
  (Sb.calls A c l A' c' l' w h1.1 h1.2 h2.1 h2.2 h).mono fun e w' ⟨q1, q2⟩ => ⟨by rw [q1, hv], q2⟩
theorem Di_none (o : Own) (F : List (List Int)) (m : Nat) (w : World) (h : Dk (fun _ => True) 58 w o ⟨F, F, List.replicate m false⟩) : Calls Tryd.prog 13 #[.pointer (some ⟨o.g, 0, none⟩)] w fun e w' => ∃ A c, e = .returned (.slice A 0 c) ∧ Below w.heap.size w w' :=
  (Dk_Dirty.calls o _ w h).mono fun e w' ⟨v, q1, q2, q3⟩ => by
    obtain ⟨A, c, rfl⟩ := Kd.R_slice q2
    exact ⟨A, c, by rw [q1]; show _ = Ending.returned (.slice A ([] : List Int).length c); rw [← dix_none m F.length], q3⟩
theorem Di_len (o : Own) (s : DS) (w : World) (h : Dk (fun _ => True) 58 w o s) : Calls Tryd.prog 13 #[.pointer (some ⟨o.g, 0, none⟩)] w fun e w' => ∃ A c, e = .returned (.slice A (dix s.dirty s.now.length).length c) ∧ Below w.heap.size w w' :=
  (Dk_Dirty.calls o s w h).mono fun e w' ⟨v, q1, q2, q3⟩ => by
    obtain ⟨A, c, rfl⟩ := Kd.R_slice q2
    exact ⟨A, c, by rw [q1]; unfold ints; rw [List.length_map], q3⟩
theorem Dk.far {o o' : Own} {s s' : DS} {w w' : World} (h : Dk (fun _ => True) 58 w o s) (h' : Dk (fun _ => True) 58 w o' s') (hne : ∀ k, o.has k → ¬ o'.has k) (hk : Keeps o'.has w w') : Dk (fun _ => True) 58 w' o s := h.other h' (by decide) hne hk

def cntK (keep : List Bool) : Nat → Nat → Nat
  | _, 0 => 0
  | a, n + 1 => (if kept keep a = true then 1 else 0) + cntK keep (a + 1) n
theorem cntK_le (keep : List Bool) : ∀ n a, cntK keep a n ≤ n
  | 0, _ => Nat.le_refl _
  | n + 1, a => by have := cntK_le keep n (a + 1); rw [cntK]; split <;> omega
theorem getD_set_at (g : List (List Int)) (x : Nat) (v : List Int) (h : x < g.length) : (g.set x v).getD x [] = v := by
  rw [List.getD_eq_getElem?_getD, List.getElem?_set_self h]; rfl
theorem keepL_range (keep : List Bool) : ∀ (len a : Nat) (s : DS) (n : Nat), s.Fits → a + len ≤ s.now.length → (∀ i, (keepL keep (List.range' a len) a s n).1.firm.getD i [] = if a ≤ i ∧ i < a + len ∧ kept keep i = true then s.now.getD i [] else s.firm.getD i []) ∧ (keepL keep (List.range' a len) a s n).2 = n + cntK keep a len
  | 0, a, s, n, _, _ => ⟨fun i => by rw [if_neg (by omega)]; rfl, rfl⟩
  | len + 1, a, s, n, hf, hl => by
    rw [show List.range' a (len + 1) = a :: List.range' (a + 1) len from List.range'_succ .., keepL, cntK]
    cases hk : kept keep a with
    | true =>
      rw [if_pos rfl, if_pos rfl]
      obtain ⟨h1, h2⟩ := keepL_range keep len (a + 1) (s.keep a) (n + 1) (hf.keep a) (by show a + 1 + len ≤ s.now.length; omega)
      refine ⟨fun i => ?_, by rw [h2]; omega⟩
      rw [h1 i]
      show (if _ then s.now.getD i [] else (s.firm.set a (s.now.getD a [])).getD i []) = _
      by_cases e : a = i
      · subst e
        rw [if_neg (by omega), if_pos ⟨Nat.le_refl _, by omega, hk⟩, getD_set_at _ _ _ (by rw [hf.nf]; omega)]
      · rw [getD_set_ne _ _ _ _ e]
        by_cases c : a + 1 ≤ i ∧ i < a + 1 + len ∧ kept keep i = true
        · rw [if_pos c, if_pos ⟨by omega, by omega, c.2.2⟩]
        · rw [if_neg c, if_neg (fun h => c ⟨by omega, by omega, h.2.2⟩)]
    | false =>
      rw [if_neg (by decide), if_neg (by decide)]
      obtain ⟨h1, h2⟩ := keepL_range keep len (a + 1) s n hf (by omega)
      refine ⟨fun i => ?_, by rw [h2]; omega⟩
      rw [h1 i]
      by_cases e : a = i
      · subst e
        rw [if_neg (by omega), if_neg (fun h => by rw [hk] at h; exact absurd h.2.2 (by decide))]
      · by_cases c : a + 1 ≤ i ∧ i < a + 1 + len ∧ kept keep i = true
        · rw [if_pos c, if_pos ⟨by omega, by omega, c.2.2⟩]
        · rw [if_neg c, if_neg (fun h => c ⟨by omega, by omega, h.2.2⟩)]
theorem dix_range (D : List Bool) (p m : Nat) (h : ∀ i, i < m → D[i]? = some (decide (i < p))) : ∀ n, n ≤ m → dix D n = List.range (min n p)
  | 0, _ => by rw [Nat.zero_min]; rfl
  | n + 1, hn => by
    rw [dix, h n (by omega), dix_range D p m h n (by omega)]
    by_cases c : n < p
    · rw [decide_eq_true c, if_pos rfl, show min n p = n by omega, show min (n + 1) p = n + 1 by omega, List.range_succ]
    · rw [decide_eq_false c, if_neg (by decide), show min n p = p by omega, show min (n + 1) p = p by omega]
theorem write_ok (s : DS) (j : Nat) (l : List Int) (hj : j < s.now.length) (hl : l.length = 512) : s.write (j : Int) l = (⟨s.now.set j l, s.firm, s.dirty.set j true⟩, 0) := by
  unfold DS.write
  rw [if_neg (by omega), if_neg (by omega), Int.toNat_natCast]
/-- Behind so many writes of the second kind. -/
structure Fw (N : List (List Int)) (g : Nat → List Int) (t : DS) (j : Nat) : Prop where
  firm : t.firm = N
  len : t.now.length = N.length
  new : ∀ i, i < j → t.now.getD i [] = g i
  old : ∀ i, j ≤ i → t.now.getD i [] = N.getD i []
  dirty : ∀ i, i < N.length → t.dirty[i]? = some (decide (i < j))
  clean : t.Clean
theorem Fw.step {N : List (List Int)} {g : Nat → List Int} {t : DS} {j : Nat} (h : Fw N g t j) (hf : t.Fits) (hj : j < N.length) (hl : (g j).length = 512) : Fw N g (t.write (j : Int) (g j)).1 (j + 1) := by
  have hc := DS.write_clean hf h.clean (j : Int) (g j)
  have hjt : j < t.now.length := by rw [h.len]; exact hj
  rw [write_ok t j _ hjt hl] at hc ⊢
  refine ⟨h.firm, List.length_set.trans h.len, fun i hi => ?_, fun i hi => ?_, fun i hi => ?_, hc⟩
  · show (t.now.set j (g j)).getD i [] = _
    by_cases e : j = i
    · subst e; exact getD_set_at _ _ _ hjt
    · rw [getD_set_ne _ _ _ _ e]; exact h.new i (by omega)
  · show (t.now.set j (g j)).getD i [] = _
    rw [getD_set_ne _ _ _ _ (by omega)]; exact h.old i (by omega)
  · show (t.dirty.set j true)[i]? = _
    by_cases e : j = i
    · subst e
      rw [get_set_eq _ _ _ (by rw [hf.nd]; exact hjt), decide_eq_true (by omega)]
    · rw [get_set_ne _ _ _ _ e, h.dirty i hi]
      by_cases c : i < j
      · rw [decide_eq_true c, decide_eq_true (by omega)]
      · rw [decide_eq_false c, decide_eq_false (by omega)]
/-- Behind so many writes of the first kind. -/
structure Fa (g : Nat → List Int) (t : DS) (m j : Nat) : Prop where
  len : t.now.length = m
  new : ∀ i, i < j → t.now.getD i [] = g i
  clean : t.Clean
theorem Fa.step {g : Nat → List Int} {t : DS} {m j : Nat} (h : Fa g t m j) (hf : t.Fits) (hj : j < m) (hl : (g j).length = 512) : Fa g (t.write (j : Int) (g j)).1 m (j + 1) := by
  have hc := DS.write_clean hf h.clean (j : Int) (g j)
  have hjt : j < t.now.length := by rw [h.len]; exact hj
  rw [write_ok t j _ hjt hl] at hc ⊢
  refine ⟨List.length_set.trans h.len, fun i hi => ?_, hc⟩
  show (t.now.set j (g j)).getD i [] = _
  by_cases e : j = i
  · subst e; exact getD_set_at _ _ _ hjt
  · rw [getD_set_ne _ _ _ _ e]; exact h.new i (by omega)
theorem Fw.start {N : List (List Int)} {g : Nat → List Int} : Fw N g ⟨N, N, List.replicate N.length false⟩ 0 := ⟨rfl, rfl, fun i h => absurd h (Nat.not_lt_zero i), fun _ _ => rfl, fun i hi => by show (List.replicate N.length false)[i]? = _; rw [List.getElem?_replicate, if_pos hi]; rfl, fun i _ => rfl⟩
theorem Fw.crash {N : List (List Int)} {g : Nat → List Int} {t : DS} {p : Nat} (h : Fw N g t p) (hf : t.Fits) (hp : p ≤ N.length) (keep : List Bool) : (dix t.dirty t.now.length).length = p ∧ ∃ F, crashL keep (dix t.dirty t.now.length) 0 t 0 = (⟨F, F, List.replicate N.length false⟩, cntK keep 0 p) ∧ F.length = N.length ∧ ∀ i, F.getD i [] = if i < p ∧ kept keep i = true then g i else N.getD i [] := by
  have hd : dix t.dirty t.now.length = List.range p := by
    rw [h.len, dix_range t.dirty p N.length h.dirty N.length (Nat.le_refl _), show min N.length p = p by omega]
  obtain ⟨h1, h2⟩ := crash_same t keep hf h.clean
  rw [hd] at h1 h2 ⊢
  rw [List.range_eq_range'] at h1 h2 ⊢
  obtain ⟨h3, h4⟩ := keepL_range keep p 0 t 0 hf (by rw [h.len]; omega)
  obtain ⟨h5, _⟩ := keepL_or keep (List.range' 0 p) 0 t 0
  refine ⟨List.length_range', _, Prod.ext (h1.symm.trans (by rw [h.len])) (h2.symm.trans (h4.trans (by omega))), h5.trans (by rw [h.firm]), fun i => ?_⟩
  rw [h3 i]
  by_cases c : i < p ∧ kept keep i = true
  · rw [if_pos c, if_pos ⟨by omega, by omega, c.2⟩, h.new i c.1]
  · rw [if_neg c, if_neg (fun hh => c ⟨by omega, hh.2.2⟩), h.firm]

def gOf (l : List Int) (i : Nat) : List Int := fullL (rd l (i : Int)) 512
theorem gOf_len (l : List Int) (i : Nat) : (gOf l i).length = 512 := full_512 _
theorem Fu_of (l : List Int) (i : Nat) (x : Int) (hx : rd l (i : Int) = x) (lx : List Int) (hl : gOf l i = lx) (w : World) : Calls Tryd.prog 11 #[.int .u8 x, .int .i64 512] w fun e w' => ∃ A c, e = .returned (.slice A lx.length c) ∧ Rw w' A c lx ∧ Below w.heap.size w w' := by
  subst hx hl
  exact (Fu.calls (rd l (i : Int)) 512 w).mono fun e w' ⟨A, c, q1, q2, q3⟩ => ⟨A, c, q1, ⟨(Kd.R_reads' q2).2.2, (Kd.R_reads' q2).2.1⟩, q3⟩
theorem Wr_of (o : Own) (s : DS) (j : Nat) (l : List Int) (hj : j < s.now.length) (hl : l.length = 512) (A : Option Addr) (c : Nat) (w : World) (h : Dk (fun _ => True) 58 w o s) (hr : Rw w A c l) : Calls Tryd.prog 10 #[.pointer (some ⟨o.g, 0, none⟩), .int .i64 (j : Int), .slice A l.length c] w fun e w' => e = .returned .nilIface ∧ Dk (fun _ => True) 58 w' o (s.write (j : Int) l).1 ∧ Keeps o.has w w' := by
  rw [write_ok s j l hj hl]
  exact Dk_WriteOk.calls o s w h A c l hr.1 hr.2 hl (clone_f _ (by omega)) j hj (fun _ _ => trivial)

set_option maxHeartbeats 8000000 in
set_option maxRecDepth 100000 in
theorem BF1.calls (w : World) (hg : w.cell? ⟨0, 0, none⟩ = some (.iface 94 (.agg #[.pointer (some ⟨1, 28, none⟩)]))) (A1 : Option Addr) (c1 : Nat) (l1 : List Int) (hr1 : Kd.C (Kd.int .u8) w A1 l1.length l1) (hc1 : l1.length ≤ c1) (A2 : Option Addr) (c2 : Nat) (l2 : List Int) (hr2 : Kd.C (Kd.int .u8) w A2 l2.length l2) (hc2 : l2.length ≤ c2) (A3 : Option Addr) (c3 : Nat) (l3 : List Bool) (hr3 : Kd.C Kd.bool w A3 l3.length l3) (hc3 : l3.length ≤ c3) (g1 : 12 < l1.length) :
    Calls Tryd.prog 3 #[.slice A1 l1.length c1, .slice A2 l2.length c2, .slice A3 l3.length c3] w fun e w' => e = .returned (.bool true) ∧ Below w.heap.size w w' := by
  have HG := Aside0.mk hg
  have HR1 := Aside0.mk hr1
  have HR2 := Aside0.mk hr2
  have HR3 := Aside0.mk hr3
  have HC1 := Aside0.mk hc1
  have HC2 := Aside0.mk hc2
  have HC3 := Aside0.mk hc3
  have d1a : decide ((l1.length : Int) > (12 : Int)) = true := decide_eq_true (by omega)
  have d1b : decide ((12 : Int) < (l1.length : Int)) = true := decide_eq_true (by omega)
  have d1c : decide (12 < l1.length) = true := decide_eq_true (by omega)
  clear hg hr1 hr2 hr3 hc1 hc2 hc3
  go_enter Tryd.func3, Tryd.ntmps3
  have HBB := Aside0.mk (Below.refl w.heap.size w)
  go_wp2_with (first | (go_at_call 8; with_reducible refine (Aw.calls _ (pw_cell_below HBB.out HG.out)).mono ?_; rintro e w9 ⟨rfl, hb9⟩; have B9 := Aside0.mk (below_step HBB.out hb9); clear hb9))
  go_ret
  exact ⟨rfl, B9.out⟩

set_option maxHeartbeats 8000000 in
set_option maxRecDepth 100000 in
theorem BF2.calls (w : World) (hg : w.cell? ⟨0, 0, none⟩ = some (.iface 94 (.agg #[.pointer (some ⟨1, 28, none⟩)]))) (A1 : Option Addr) (c1 : Nat) (l1 : List Int) (hr1 : Kd.C (Kd.int .u8) w A1 l1.length l1) (hc1 : l1.length ≤ c1) (A2 : Option Addr) (c2 : Nat) (l2 : List Int) (hr2 : Kd.C (Kd.int .u8) w A2 l2.length l2) (hc2 : l2.length ≤ c2) (A3 : Option Addr) (c3 : Nat) (l3 : List Bool) (hr3 : Kd.C Kd.bool w A3 l3.length l3) (hc3 : l3.length ≤ c3) (g1 : ¬ 12 < l1.length) (g2 : l1.length < l2.length) :
    Calls Tryd.prog 3 #[.slice A1 l1.length c1, .slice A2 l2.length c2, .slice A3 l3.length c3] w fun e w' => e = .returned (.bool true) ∧ Below w.heap.size w w' := by
  have HG := Aside0.mk hg
  have HR1 := Aside0.mk hr1
  have HR2 := Aside0.mk hr2
  have HR3 := Aside0.mk hr3
  have HC1 := Aside0.mk hc1
  have HC2 := Aside0.mk hc2
  have HC3 := Aside0.mk hc3
  have d1a : decide ((l1.length : Int) > (12 : Int)) = false := decide_eq_false (by omega)
  have d1b : decide ((12 : Int) < (l1.length : Int)) = false := decide_eq_false (by omega)
  have d1c : decide (12 < l1.length) = false := decide_eq_false (by omega)
  have d2a : decide ((l2.length : Int) > (l1.length : Int)) = true := decide_eq_true (by omega)
  have d2b : decide ((l1.length : Int) < (l2.length : Int)) = true := decide_eq_true (by omega)
  have d2c : decide (l1.length < l2.length) = true := decide_eq_true (by omega)
  clear hg hr1 hr2 hr3 hc1 hc2 hc3
  go_enter Tryd.func3, Tryd.ntmps3
  have HBB := Aside0.mk (Below.refl w.heap.size w)
  go_wp2_with (first | (go_at_call 8; with_reducible refine (Aw.calls _ (pw_cell_below HBB.out HG.out)).mono ?_; rintro e w9 ⟨rfl, hb9⟩; have B9 := Aside0.mk (below_step HBB.out hb9); clear hb9))
  go_ret
  exact ⟨rfl, B9.out⟩

set_option maxHeartbeats 8000000 in
set_option maxRecDepth 100000 in
theorem BF3.calls (w : World) (hg : w.cell? ⟨0, 0, none⟩ = some (.iface 94 (.agg #[.pointer (some ⟨1, 28, none⟩)]))) (A1 : Option Addr) (c1 : Nat) (l1 : List Int) (hr1 : Kd.C (Kd.int .u8) w A1 l1.length l1) (hc1 : l1.length ≤ c1) (A2 : Option Addr) (c2 : Nat) (l2 : List Int) (hr2 : Kd.C (Kd.int .u8) w A2 l2.length l2) (hc2 : l2.length ≤ c2) (A3 : Option Addr) (c3 : Nat) (l3 : List Bool) (hr3 : Kd.C Kd.bool w A3 l3.length l3) (hc3 : l3.length ≤ c3) (g1 : ¬ 12 < l1.length) (g2 : ¬ l1.length < l2.length) (g3 : 40 < l3.length) :
    Calls Tryd.prog 3 #[.slice A1 l1.length c1, .slice A2 l2.length c2, .slice A3 l3.length c3] w fun e w' => e = .returned (.bool true) ∧ Below w.heap.size w w' := by
  have HG := Aside0.mk hg
  have HR1 := Aside0.mk hr1
  have HR2 := Aside0.mk hr2
  have HR3 := Aside0.mk hr3
  have HC1 := Aside0.mk hc1
  have HC2 := Aside0.mk hc2
  have HC3 := Aside0.mk hc3
  have d1a : decide ((l1.length : Int) > (12 : Int)) = false := decide_eq_false (by omega)
  have d1b : decide ((12 : Int) < (l1.length : Int)) = false := decide_eq_false (by omega)
  have d1c : decide (12 < l1.length) = false := decide_eq_false (by omega)
  have d2a : decide ((l2.length : Int) > (l1.length : Int)) = false := decide_eq_false (by omega)
  have d2b : decide ((l1.length : Int) < (l2.length : Int)) = false := decide_eq_false (by omega)
  have d2c : decide (l1.length < l2.length) = false := decide_eq_false (by omega)
  have d3a : decide ((l3.length : Int) > (40 : Int)) = true := decide_eq_true (by omega)
  have d3b : decide ((40 : Int) < (l3.length : Int)) = true := decide_eq_true (by omega)
  have d3c : decide (40 < l3.length) = true := decide_eq_true (by omega)
  clear hg hr1 hr2 hr3 hc1 hc2 hc3
  go_enter Tryd.func3, Tryd.ntmps3
  have HBB := Aside0.mk (Below.refl w.heap.size w)
  go_wp2_with (first | (go_at_call 8; with_reducible refine (Aw.calls _ (pw_cell_below HBB.out HG.out)).mono ?_; rintro e w9 ⟨rfl, hb9⟩; have B9 := Aside0.mk (below_step HBB.out hb9); clear hb9))
  go_ret
  exact ⟨rfl, B9.out⟩

set_option maxHeartbeats 8000000 in
set_option maxRecDepth 100000 in
theorem BF4.calls (w : World) (hg : w.cell? ⟨0, 0, none⟩ = some (.iface 94 (.agg #[.pointer (some ⟨1, 28, none⟩)]))) (A1 : Option Addr) (c1 : Nat) (l1 : List Int) (hr1 : Kd.C (Kd.int .u8) w A1 l1.length l1) (hc1 : l1.length ≤ c1) (A2 : Option Addr) (c2 : Nat) (l2 : List Int) (hr2 : Kd.C (Kd.int .u8) w A2 l2.length l2) (hc2 : l2.length ≤ c2) (A3 : Option Addr) (c3 : Nat) (l3 : List Bool) (hr3 : Kd.C Kd.bool w A3 l3.length l3) (hc3 : l3.length ≤ c3) (g2 : ¬ l1.length < l2.length) (g3 : ¬ 40 < l3.length) (g4 : l1.length = 0) :
    Calls Tryd.prog 3 #[.slice A1 l1.length c1, .slice A2 l2.length c2, .slice A3 l3.length c3] w fun e w' => e = .returned (.bool true) ∧ Below w.heap.size w w' := by
  have HG := Aside0.mk hg
  have HR1 := Aside0.mk hr1
  have HR2 := Aside0.mk hr2
  have HR3 := Aside0.mk hr3
  have HC1 := Aside0.mk hc1
  have HC2 := Aside0.mk hc2
  have HC3 := Aside0.mk hc3
  have g5 : l2.length = 0 := by omega
  obtain rfl := List.length_eq_zero_iff.mp g4
  obtain rfl := List.length_eq_zero_iff.mp g5
  clear g2 g4 g5
  have d3a : decide ((l3.length : Int) > (40 : Int)) = false := decide_eq_false (by omega)
  have d3b : decide ((40 : Int) < (l3.length : Int)) = false := decide_eq_false (by omega)
  have d3c : decide (40 < l3.length) = false := decide_eq_false (by omega)
  clear hg hr1 hr2 hr3 hc1 hc2 hc3
  go_enter Tryd.func3, Tryd.ntmps3
  have HBB := Aside0.mk (Below.refl w.heap.size w)
  go_wp2_with (first | (go_at_call 8; with_reducible refine (Aw.calls _ (pw_cell_below HBB.out HG.out)).mono ?_; rintro e w9 ⟨rfl, hb9⟩; have B9 := Aside0.mk (below_step HBB.out hb9); clear hb9))
  go_ret
  exact ⟨rfl, B9.out⟩

def AtO (w : World) (p : Addr) (v : Value) (q : Addr) (u : Value) : Prop := w.cell? p = some v ∧ w.cell? q = some u
theorem AtO.l {w : World} {p q : Addr} {v u : Value} (h : AtO w p v q u) : w.cell? p = some v := h.1
theorem AtO.r {w : World} {p q : Addr} {v u : Value} (h : AtO w p v q u) : w.cell? q = some u := h.2
theorem AtO.far {w w' : World} {p q : Addr} {v u : Value} (h : AtO w p v q u) (hb : Below w.heap.size w w') : AtO w' p v q u := ⟨pw_cell_below hb h.1, pw_cell_below hb h.2⟩

set_option maxHeartbeats 8000000 in
set_option maxRecDepth 100000 in
theorem BFok.calls (w : World) (hg : w.cell? ⟨0, 0, none⟩ = some (.iface 94 (.agg #[.pointer (some ⟨1, 28, none⟩)]))) (A1 : Option Addr) (c1 : Nat) (l1 : List Int) (hr1 : Kd.C (Kd.int .u8) w A1 l1.length l1) (hc1 : l1.length ≤ c1) (A2 : Option Addr) (c2 : Nat) (l2 : List Int) (hr2 : Kd.C (Kd.int .u8) w A2 l2.length l2) (hc2 : l2.length ≤ c2) (A3 : Option Addr) (c3 : Nat) (l3 : List Bool) (hr3 : Kd.C Kd.bool w A3 l3.length l3) (hc3 : l3.length ≤ c3) (g1 : ¬ 12 < l1.length) (g2 : ¬ l1.length < l2.length) (g3 : ¬ 40 < l3.length) (g4 : l1.length ≠ 0) :
    Calls Tryd.prog 3 #[.slice A1 l1.length c1, .slice A2 l2.length c2, .slice A3 l3.length c3] w fun e w' => e = .returned (.bool true) ∧ Below w.heap.size w w' := by
  have HG := Aside0.mk hg
  have HR1 := Aside0.mk hr1
  have HR2 := Aside0.mk hr2
  have HR3 := Aside0.mk hr3
  have HC1 := Aside0.mk hc1
  have HC2 := Aside0.mk hc2
  have HC3 := Aside0.mk hc3
  have d1a : decide ((l1.length : Int) > (12 : Int)) = false := decide_eq_false (by omega)
  have d1b : decide ((12 : Int) < (l1.length : Int)) = false := decide_eq_false (by omega)
  have d1c : decide (12 < l1.length) = false := decide_eq_false (by omega)
  have d2a : decide ((l2.length : Int) > (l1.length : Int)) = false := decide_eq_false (by omega)
  have d2b : decide ((l1.length : Int) < (l2.length : Int)) = false := decide_eq_false (by omega)
  have d2c : decide (l1.length < l2.length) = false := decide_eq_false (by omega)
  have d3a : decide ((l3.length : Int) > (40 : Int)) = false := decide_eq_false (by omega)
  have d3b : decide ((40 : Int) < (l3.length : Int)) = false := decide_eq_false (by omega)
  have d3c : decide (40 < l3.length) = false := decide_eq_false (by omega)
  have y0 : decide ((l1.length : Int) = 0) = false := decide_eq_false (by omega)
  have y1 : ((l1.length : Int) == 0) = false := beq_eq_false_iff_ne.mpr (by omega)
  have y2 : decide (l1.length = 0) = false := decide_eq_false (by omega)
  have y3 : decide (l1 = []) = false := decide_eq_false (fun e => by rw [e] at g4; exact absurd g4 (by decide))
  have y4 : (l1.length == 0) = false := beq_eq_false_iff_ne.mpr (by omega)
  have HL12 : Aside0 (l1.length ≤ 12 ∧ l2.length ≤ l1.length ∧ 1 ≤ l1.length) := ⟨by omega⟩
  have HM : Aside0 (1 ≤ l1.length ∧ l1.length ≤ 256) := ⟨by omega⟩
  have e1 : (⟨List.replicate l1.length (List.replicate 512 0), List.replicate l1.length (List.replicate 512 0), List.replicate l1.length false⟩ : DS).now.length = l1.length := List.length_replicate
  have e0 : (⟨List.replicate l1.length (List.replicate 512 0), List.replicate l1.length (List.replicate 512 0), List.replicate l1.length false⟩ : DS).Clean := fun j hj => rfl
  have HE1 := Aside0.mk e1
  have HE0 := Aside0.mk e0
  have NW : Aside0 (∀ w, Calls Tryd.prog 9 #[.int .i64 (l1.length : Int)] w fun e w' => ∃ o : Own, e = .returned (.pointer (some ⟨o.g, 0, none⟩)) ∧ Dk (fun _ => True) 58 w' o (⟨List.replicate l1.length (List.replicate 512 0), List.replicate l1.length (List.replicate 512 0), List.replicate l1.length false⟩ : DS) ∧ (∀ k, o.has k → w.heap.size ≤ k) ∧ Below w.heap.size w w') := ⟨fun w => Dk_New.calls l1.length w (by omega) (by omega)⟩
  generalize (⟨List.replicate l1.length (List.replicate 512 0), List.replicate l1.length (List.replicate 512 0), List.replicate l1.length false⟩ : DS) = s0 at *
  clear hg hr1 hr2 hr3 hc1 hc2 hc3 e0 e1
  go_enter Tryd.func3, Tryd.ntmps3
  go_wp2_with (first | (go_at_call 9; with_reducible refine (NW.out _).mono ?_; rintro e w3 ⟨o, rfl, hd2, hge2, hb2⟩; have D03 := Aside0.mk hd2; have HGEo : Aside0 (∀ k, o.has k → w.heap.size ≤ k) := ⟨hge2⟩; have B3 := Aside0.mk hb2; clear hd2 hge2 hb2))
  go_loopg [8] l1.length (fun kq v8 w' => ∃ (j : Nat) (s : DS), v8 = .int .i64 (j : Int) ∧ Aside0 (j + kq = l1.length) ∧ Aside0 (Dk (fun _ => True) 58 w' o s) ∧ Aside0 (Fa (gOf l1) s l1.length j) ∧ Aside0 (Keeps o.has w3 w'))
  case atStart => exact ⟨0, _, (by first | rfl | (simp; done)), ⟨by omega⟩, D03, ⟨HE1.out, fun i h => absurd h (Nat.not_lt_zero i), HE0.out⟩, ⟨Keeps.refl _ _⟩⟩
  case round =>
    clear D03 HE0 HE1
    obtain ⟨j, s, rfl, HJ, D0, FW, HK⟩ := hrel
    have hbr : Below w.heap.size w wr := HK.out.below HGEo.out B3.out.size B3.out
    have HBR := Aside0.mk hbr
    by_cases c8 : j < l1.length
    · have c8b : decide ((j : Int) < (l1.length : Int)) = true := decide_eq_true (by omega)
      cases gk with
      | zero => have := HJ.out; omega
      | succ k1 =>
        have p40 : 0 ≤ (j : Int) := by omega
        have q40 : (j : Int) < l1.length := by omega
        obtain ⟨ad, hA1, hx0⟩ := Kd.at_int (Kd.C_below HR1.out hbr) (j : Int) p40 q40
        subst hA1
        obtain ⟨x, hx⟩ : ∃ x, rd l1 (j : Int) = x := ⟨_, rfl⟩
        rw [hx] at hx0
        simp only [Int.toNat_natCast] at hx0
        have FS := Aside0.mk (FW.out.step D0.out.fits c8 (gOf_len l1 j))
        have hlx := gOf_len l1 j
        obtain ⟨lx, hl⟩ : ∃ lx, gOf l1 j = lx := ⟨_, rfl⟩
        rw [hl] at FS hlx
        have F1 := Aside0.mk (Fu_of l1 j x hx lx hl)
        have W1 := Aside0.mk (Wr_of o s j lx (by rw [FW.out.len]; exact c8) hlx)
        generalize (s.write (j : Int) lx).1 = s' at *
        clear hbr hx hlx hl
        go_wp2_with (first | (go_at_call 10; with_reducible refine (W1.out A5 c5 _ D5.out RW5.out).mono ?_; rintro e w6 ⟨rfl, hd, hk⟩; have D6 := Aside0.mk hd; have K6 := Aside0.mk (K5.out.trans hk); clear hd hk) | (go_at_call 11; with_reducible refine (F1.out _).mono ?_; rintro e w5 ⟨A5, c5, rfl, hr, hb⟩; have RW5 := Aside0.mk hr; have D5 := Aside0.mk (D0.out.below hb); have K5 := Aside0.mk (HK.out.trans (Keeps.of_below hb)); clear hr hb))
        go_roundg k1
        case measure => omega
        case rel => exact ⟨j + 1, s', (by
          have hw : wrap64 ((j : Int) + 1) = ((j + 1 : Nat) : Int) := by have := HJ.out; have := HL12.out; unfold wrap64; omega
          first | rfl | (rw [← hw]; rfl) | (simp [*]; done)), ⟨by have := HJ.out; omega⟩, D6, FS, K6⟩
    · have c8b : decide ((j : Int) < (l1.length : Int)) = false := decide_eq_false (by omega)
      obtain rfl : j = l1.length := by have := HJ.out; omega
      have hall := crash_all s D0.out.fits FW.out.clean
      obtain ⟨N, hN⟩ : ∃ N, s.now = N := ⟨_, rfl⟩
      have HNl : Aside0 (N.length = l1.length) := ⟨by rw [← hN]; exact FW.out.len⟩
      have HN : Aside0 (∀ i, i < l1.length → N.getD i [] = gOf l1 i) := ⟨fun i hi => by rw [← hN]; exact FW.out.new i hi⟩
      rw [hN] at hall
      have FLc : Aside0 (∀ w', Dk (fun _ => True) 58 w' o s → Calls Tryd.prog 12 #[.pointer (some ⟨o.g, 0, none⟩)] w' fun e w'' => e = .returned (.tuple #[]) ∧ Dk (fun _ => True) 58 w'' o ⟨N, N, List.replicate N.length false⟩ ∧ Keeps o.has w' w'') := ⟨fun w' h => by have := Dk_Flush.calls o s w' h; rw [hN, hall] at this; exact this⟩
      clear hall hN hbr FW
      go_wp2_with (first | (go_at_call 12; with_reducible refine (FLc.out _ D0.out).mono ?_; rintro e w7 ⟨rfl, hd, hk⟩; have DN := Aside0.mk hd; have KN := Aside0.mk (HK.out.trans hk); clear hd hk))
      go_loopg [9] l2.length (fun kq v9 w' => ∃ (j : Nat) (t : DS), v9 = .int .i64 (j : Int) ∧ Aside0 (j + kq = l2.length) ∧ Aside0 (Dk (fun _ => True) 58 w' o t) ∧ Aside0 (Fw N (gOf l2) t j) ∧ Aside0 (Keeps o.has w3 w'))
      case atStart => exact ⟨0, _, (by first | rfl | (simp; done)), ⟨by omega⟩, DN, ⟨Fw.start⟩, KN⟩
      case round =>
        clear DN KN c8 c8b HJ D0 HK HBR
        obtain ⟨j, t, rfl, HJ, D0, FW, HK⟩ := hrel
        have hbr : Below w.heap.size w wr := HK.out.below HGEo.out B3.out.size B3.out
        have HBR := Aside0.mk hbr
        by_cases c8 : j < l2.length
        · have c8b : decide ((j : Int) < (l2.length : Int)) = true := decide_eq_true (by omega)
          cases gk with
          | zero => have := HJ.out; omega
          | succ k1 =>
            have p40 : 0 ≤ (j : Int) := by omega
            have q40 : (j : Int) < l2.length := by omega
            obtain ⟨ad, hA1, hx0⟩ := Kd.at_int (Kd.C_below HR2.out hbr) (j : Int) p40 q40
            subst hA1
            obtain ⟨x, hx⟩ : ∃ x, rd l2 (j : Int) = x := ⟨_, rfl⟩
            rw [hx] at hx0
            simp only [Int.toNat_natCast] at hx0
            have FS := Aside0.mk (FW.out.step D0.out.fits (by have := HNl.out; have := HL12.out; omega) (gOf_len l2 j))
            have hlx := gOf_len l2 j
            obtain ⟨lx, hl⟩ : ∃ lx, gOf l2 j = lx := ⟨_, rfl⟩
            rw [hl] at FS hlx
            have F1 := Aside0.mk (Fu_of l2 j x hx lx hl)
            have W1 := Aside0.mk (Wr_of o t j lx (by rw [FW.out.len, HNl.out]; have := HL12.out; omega) hlx)
            generalize (t.write (j : Int) lx).1 = s' at *
            clear hbr hx hlx hl
            go_wp2_with (first | (go_at_call 10; with_reducible refine (W1.out A5 c5 _ D5.out RW5.out).mono ?_; rintro e w6 ⟨rfl, hd, hk⟩; have D6 := Aside0.mk hd; have K6 := Aside0.mk (K5.out.trans hk); clear hd hk) | (go_at_call 11; with_reducible refine (F1.out _).mono ?_; rintro e w5 ⟨A5, c5, rfl, hr, hb⟩; have RW5 := Aside0.mk hr; have D5 := Aside0.mk (D0.out.below hb); have K5 := Aside0.mk (HK.out.trans (Keeps.of_below hb)); clear hr hb))
            go_roundg k1
            case measure => omega
            case rel => exact ⟨j + 1, s', (by
              have hw : wrap64 ((j : Int) + 1) = ((j + 1 : Nat) : Int) := by have := HJ.out; have := HL12.out; unfold wrap64; omega
              first | rfl | (rw [← hw]; rfl) | (simp [*]; done)), ⟨by have := HJ.out; omega⟩, D6, FS, K6⟩
        · have c8b : decide ((j : Int) < (l2.length : Int)) = false := decide_eq_false (by omega)
          have hNl : N.length = l1.length := HNl.out
          obtain rfl : j = l2.length := by have := HJ.out; omega
          obtain ⟨hdl, F, hcr, hFl, hF⟩ := FW.out.crash D0.out.fits (by have := HL12.out; omega) l3
          have DL : Aside0 (∀ w', Dk (fun _ => True) 58 w' o t → Calls Tryd.prog 13 #[.pointer (some ⟨o.g, 0, none⟩)] w' fun e w'' => ∃ A c, e = .returned (.slice A l2.length c) ∧ Below w'.heap.size w' w'') := ⟨fun w' h => by have := Di_len o t w' h; rw [hdl] at this; exact this⟩
          have CC : Aside0 (∀ w', Dk (fun _ => True) 58 w' o t → Kd.C Kd.bool w' A3 l3.length l3 → Calls Tryd.prog 14 #[.pointer (some ⟨o.g, 0, none⟩), .slice A3 l3.length c3] w' fun e w'' => e = .returned (.int .i64 (cntK l3 0 l2.length : Int)) ∧ Dk (fun _ => True) 58 w'' o ⟨F, F, List.replicate N.length false⟩ ∧ Keeps o.has w' w'') := ⟨fun w' hd hC => by
            have := Dk_Crash.calls o t w' hd A3 c3 l3 hC HC3.out (fun ad e hne h => by have := HGEo.out _ h; have := keep_lt HR3.out ad e hne; omega)
            rw [hcr] at this
            exact this⟩
          have HFL := Aside0.mk (hFl.trans hNl)
          have HF := Aside0.mk hF
          clear hdl hcr hFl hF hbr hNl
          go_wp2_with (first | (go_at_call 14; with_reducible refine (CC.out _ D7.out (Kd.C_below HR3.out B7.out)).mono ?_; rintro e w8 ⟨rfl, hd, hk⟩; have DS9 := Aside0.mk hd; have BS9 := Aside0.mk (hk.below HGEo.out B7.out.size B7.out); clear hd hk) | (go_at_call 13; with_reducible refine (DL.out _ D0.out).mono ?_; rintro e w7 ⟨A7, c7, rfl, hb⟩; have D7 := Aside0.mk (D0.out.below hb); have B7 := Aside0.mk (below_step HBR.out hb); clear hb))
          go_loopg [11, 12] l1.length (fun kq v11 v12 w' => ∃ (i nz : Nat), v12 = .int .i64 (i : Int) ∧ v11 = .int .i64 (nz : Int) ∧ Aside0 (i + kq = l1.length) ∧ Aside0 (cntK l3 i (l2.length - i) = nz) ∧ Aside0 (Dk (fun _ => True) 58 w' o ⟨F, F, List.replicate N.length false⟩) ∧ Aside0 (Below w.heap.size w w'))
          case atStart => exact ⟨0, cntK l3 0 l2.length, (by first | rfl | (simp; done)), (by first | rfl | (simp; done)), ⟨by omega⟩, ⟨rfl⟩, DS9, BS9⟩
          case round =>
            clear DS9 BS9 c8 c8b HJ D0 FW HK HBR
            obtain ⟨i, nz, rfl, rfl, HI, HNZ, D0, HB⟩ := hrel
            by_cases d9 : i < l1.length
            · have b1 : decide ((i : Int) < (l1.length : Int)) = true := decide_eq_true (by omega)
              cases gk with
              | zero => have := HI.out; omega
              | succ k2 =>
                have hiF : i < F.length := by rw [HFL.out]; exact d9
                have p40 : 0 ≤ (i : Int) := by omega
                have q40 : (i : Int) < l1.length := by omega
                obtain ⟨ad, hA1, hx0⟩ := Kd.at_int (Kd.C_below HR1.out HB.out) (i : Int) p40 q40
                subst hA1
                obtain ⟨x, hx⟩ : ∃ x, rd l1 (i : Int) = x := ⟨_, rfl⟩
                rw [hx] at hx0
                simp only [Int.toNat_natCast] at hx0
                have HX1 := Aside0.mk hx0
                have hla := gOf_len l1 i
                have hN := HN.out i d9
                obtain ⟨la, hl⟩ : ∃ la, gOf l1 i = la := ⟨_, rfl⟩
                rw [hl] at hla hN
                have FA := Aside0.mk (Fu_of l1 i x hx la hl)
                have hF := HF.out i
                by_cases e1 : i < l2.length
                · have f1 : decide ((i : Int) < (l2.length : Int)) = true := decide_eq_true (by omega)
                  have p41 : (i : Int) < l2.length := by omega
                  obtain ⟨ad2, hA2, hy0⟩ := Kd.at_int (Kd.C_below HR2.out HB.out) (i : Int) p40 p41
                  subst hA2
                  obtain ⟨y, hy⟩ : ∃ y, rd l2 (i : Int) = y := ⟨_, rfl⟩
                  rw [hy] at hy0
                  simp only [Int.toNat_natCast] at hy0
                  have hlb := gOf_len l2 i
                  obtain ⟨lb, hl2⟩ : ∃ lb, gOf l2 i = lb := ⟨_, rfl⟩
                  rw [hl2] at hlb hF
                  have FB := Aside0.mk (Fu_of l2 i y hy lb hl2)
                  have hnz : cntK l3 i (l2.length - i) = (if kept l3 i = true then 1 else 0) + cntK l3 (i + 1) (l2.length - (i + 1)) := by
                    rw [show l2.length - i = (l2.length - (i + 1)) + 1 by omega, cntK]
                  rw [HNZ.out] at hnz
                  by_cases g0 : 0 < l3.length
                  · have g1 : decide ((l3.length : Int) > 0) = true := decide_eq_true (by omega)
                    have g2 : decide ((0 : Int) < (l3.length : Int)) = true := decide_eq_true (by omega)
                    have g3 : decide (0 < l3.length) = true := decide_eq_true g0
                    have gm : i % l3.length < l3.length := Nat.mod_lt _ g0
                    have p3 : (0 : Int) ≤ (i : Int) % (l3.length : Int) := Int.emod_nonneg _ (by omega)
                    have p4 : (i : Int) % (l3.length : Int) < (l3.length : Int) := Int.emod_lt_of_pos _ (by omega)
                    obtain ⟨adk, ek, hxk⟩ := Kd.at_bool (Kd.C_below HR3.out HB.out) ((i : Int) % (l3.length : Int)) p3 p4
                    have e5 : ((i : Int) % (l3.length : Int)).toNat = i % l3.length := by rw [← Int.natCast_emod, Int.toNat_natCast]
                    rw [e5] at hxk
                    have e6 : rdOf false l3 ((i : Int) % (l3.length : Int)) = l3.getD (i % l3.length) false := by unfold rdOf; rw [e5]
                    have hkn : kept l3 i = l3.getD (i % l3.length) false := by unfold kept; rw [g3]; rfl
                    rw [e6, ← hkn] at hxk
                    subst ek
                    cases hkv : kept l3 i with
                    | true =>
                      rw [hkv] at hxk hF hnz
                      rw [if_pos rfl] at hnz
                      rw [if_pos ⟨e1, rfl⟩] at hF
                      have HY : Aside0 (AtO wr (ad2.add i) (.int .u8 y) (adk.add (i % l3.length)) (.bool true)) := ⟨hy0, hxk⟩
                      have HNZ1 : Aside0 (1 ≤ nz ∧ nz ≤ 12) := ⟨by have := cntK_le l3 (l2.length - i) i; have := HNZ.out; have := HL12.out; omega⟩
                      have HNZ2 : Aside0 (cntK l3 (i + 1) (l2.length - (i + 1)) = nz - 1) := ⟨by omega⟩
                      have R1 : Aside0 (∀ w', Dk (fun _ => True) 58 w' o ⟨F, F, List.replicate N.length false⟩ → Calls Tryd.prog 15 #[.pointer (some ⟨o.g, 0, none⟩), .int .i64 (i : Int)] w' fun e w'' => ∃ A c, e = .returned (.tuple #[.slice A lb.length c, .nilIface]) ∧ Rw w'' A c lb ∧ Below w'.heap.size w' w'') := ⟨fun w' h => Rd_now h i hiF lb hF⟩
                      have SB1 : Aside0 (∀ (A : Option Addr) (c : Nat) (A' : Option Addr) (c' : Nat) (w' : World), Rw w' A c lb → Rw w' A' c' lb → Calls Tryd.prog 16 #[.slice A lb.length c, .slice A' lb.length c'] w' fun e w'' => e = .returned (.bool true) ∧ Below w'.heap.size w' w'') := ⟨Sbv lb lb (by omega) true (decide_eq_true rfl)⟩
                      clear hlb hla hF hnz hkv hkn e6 e5 hN hl hl2 hx hy hiF
                      go_wp2_with (first | (go_at_call 16; with_reducible refine (SB1.out A1r c1r A3r c3r _ rX3.out rY3.out).mono ?_; rintro e w34 ⟨rfl, hb⟩; have D4 := Aside0.mk (D3.out.below hb); have B34 := Aside0.mk (below_step B33.out hb); clear hb) | (go_at_call 11; with_reducible refine (FB.out _).mono ?_; rintro e w33 ⟨A3r, c3r, rfl, hr, hb⟩; have rY3 := Aside0.mk hr; have rX3 := Aside0.mk (rX2.out.far hb); have D3 := Aside0.mk (D2.out.below hb); have B33 := Aside0.mk (below_step B32.out hb); clear hr hb) | (go_at_call 11; with_reducible refine (FA.out _).mono ?_; rintro e w32 ⟨A2r, c2r, rfl, hr, hb⟩; have rY2 := Aside0.mk hr; have rX2 := Aside0.mk (rX1.out.far hb); have D2 := Aside0.mk (D1.out.below hb); have B32 := Aside0.mk (below_step B31.out hb); have Y32 := Aside0.mk (AtO.far Y31.out hb); have ky1 := AtO.l Y32.out; have ky2 := AtO.r Y32.out; clear hr hb) | (go_at_call 15; with_reducible refine (R1.out _ D0.out).mono ?_; rintro e w31 ⟨A1r, c1r, rfl, hr, hb⟩; have rX1 := Aside0.mk hr; have D1 := Aside0.mk (D0.out.below hb); have B31 := Aside0.mk (below_step HB.out hb); have X31 := Aside0.mk (pw_cell_below hb HX1.out); have Y31 := Aside0.mk (AtO.far HY.out hb); have kx1 := X31.out; clear hr hb))
                      go_roundg k2
                      case measure => omega
                      case rel => exact ⟨i + 1, nz - 1, (by
                        have hw : wrap64 ((i : Int) + 1) = ((i + 1 : Nat) : Int) := by have := HI.out; have := HL12.out; unfold wrap64; omega
                        first | rfl | (rw [← hw]; rfl) | (simp [*]; done)), (by
                        have hw : wrap64 ((nz : Int) - 1) = ((nz - 1 : Nat) : Int) := by have := HNZ1.out; unfold wrap64; omega
                        first | rfl | (rw [← hw]; rfl) | (simp [*]; done)), ⟨by have := HI.out; omega⟩, HNZ2, D4, B34⟩
                    | false =>
                      rw [hkv] at hxk hF hnz
                      rw [if_neg (by decide)] at hnz
                      rw [if_neg (fun h => absurd h.2 (by decide)), hN] at hF
                      have HY : Aside0 (AtO wr (ad2.add i) (.int .u8 y) (adk.add (i % l3.length)) (.bool false)) := ⟨hy0, hxk⟩
                      have HNZ1 : Aside0 (nz ≤ 12) := ⟨by have := cntK_le l3 (l2.length - i) i; have := HNZ.out; have := HL12.out; omega⟩
                      have HNZ2 : Aside0 (cntK l3 (i + 1) (l2.length - (i + 1)) = nz) := ⟨by omega⟩
                      have R1 : Aside0 (∀ w', Dk (fun _ => True) 58 w' o ⟨F, F, List.replicate N.length false⟩ → Calls Tryd.prog 15 #[.pointer (some ⟨o.g, 0, none⟩), .int .i64 (i : Int)] w' fun e w'' => ∃ A c, e = .returned (.tuple #[.slice A la.length c, .nilIface]) ∧ Rw w'' A c la ∧ Below w'.heap.size w' w'') := ⟨fun w' h => Rd_now h i hiF la hF⟩
                      have SB1 : Aside0 (∀ (A : Option Addr) (c : Nat) (A' : Option Addr) (c' : Nat) (w' : World), Rw w' A c la → Rw w' A' c' la → Calls Tryd.prog 16 #[.slice A la.length c, .slice A' la.length c'] w' fun e w'' => e = .returned (.bool true) ∧ Below w'.heap.size w' w'') := ⟨Sbv la la (by omega) true (decide_eq_true rfl)⟩
                      clear hlb hla hF hnz hkv hkn e6 e5 hN hl hl2 hx hy hiF
                      go_wp2_with (first | (go_at_call 16; with_reducible refine (SB1.out A1r c1r A2r c2r _ rX2.out rY2.out).mono ?_; rintro e w34 ⟨rfl, hb⟩; have D4 := Aside0.mk (D2.out.below hb); have B34 := Aside0.mk (below_step B32.out hb); clear hb) | (go_at_call 11; with_reducible refine (FA.out _).mono ?_; rintro e w32 ⟨A2r, c2r, rfl, hr, hb⟩; have rY2 := Aside0.mk hr; have rX2 := Aside0.mk (rX1.out.far hb); have D2 := Aside0.mk (D1.out.below hb); have B32 := Aside0.mk (below_step B31.out hb); have Y32 := Aside0.mk (AtO.far Y31.out hb); have ky1 := AtO.l Y32.out; have ky2 := AtO.r Y32.out; clear hr hb) | (go_at_call 15; with_reducible refine (R1.out _ D0.out).mono ?_; rintro e w31 ⟨A1r, c1r, rfl, hr, hb⟩; have rX1 := Aside0.mk hr; have D1 := Aside0.mk (D0.out.below hb); have B31 := Aside0.mk (below_step HB.out hb); have X31 := Aside0.mk (pw_cell_below hb HX1.out); have Y31 := Aside0.mk (AtO.far HY.out hb); have kx1 := X31.out; clear hr hb))
                      go_roundg k2
                      case measure => omega
                      case rel => exact ⟨i + 1, nz, (by
                        have hw : wrap64 ((i : Int) + 1) = ((i + 1 : Nat) : Int) := by have := HI.out; have := HL12.out; unfold wrap64; omega
                        first | rfl | (rw [← hw]; rfl) | (simp [*]; done)), (by
                        first | rfl | (rw [← hw]; rfl) | (simp [*]; done)), ⟨by have := HI.out; omega⟩, HNZ2, D4, B34⟩
                  · have g1 : decide ((l3.length : Int) > 0) = false := decide_eq_false (by omega)
                    have g2 : decide ((0 : Int) < (l3.length : Int)) = false := decide_eq_false (by omega)
                    have g3 : decide (0 < l3.length) = false := decide_eq_false g0
                    have g4 : (l3.length : Int) ≤ 0 := by omega
                    have hkn : kept l3 i = false := by unfold kept; rw [g3]; rfl
                    rw [hkn] at hF hnz
                    rw [if_neg (by decide)] at hnz
                    rw [if_neg (fun h => absurd h.2 (by decide)), hN] at hF
                    have HY : Aside0 (AtO wr (ad2.add i) (.int .u8 y) (ad2.add i) (.int .u8 y)) := ⟨hy0, hy0⟩
                    have HNZ1 : Aside0 (nz ≤ 12) := ⟨by have := cntK_le l3 (l2.length - i) i; have := HNZ.out; have := HL12.out; omega⟩
                    have HNZ2 : Aside0 (cntK l3 (i + 1) (l2.length - (i + 1)) = nz) := ⟨by omega⟩
                    have R1 : Aside0 (∀ w', Dk (fun _ => True) 58 w' o ⟨F, F, List.replicate N.length false⟩ → Calls Tryd.prog 15 #[.pointer (some ⟨o.g, 0, none⟩), .int .i64 (i : Int)] w' fun e w'' => ∃ A c, e = .returned (.tuple #[.slice A la.length c, .nilIface]) ∧ Rw w'' A c la ∧ Below w'.heap.size w' w'') := ⟨fun w' h => Rd_now h i hiF la hF⟩
                    have SB1 : Aside0 (∀ (A : Option Addr) (c : Nat) (A' : Option Addr) (c' : Nat) (w' : World), Rw w' A c la → Rw w' A' c' la → Calls Tryd.prog 16 #[.slice A la.length c, .slice A' la.length c'] w' fun e w'' => e = .returned (.bool true) ∧ Below w'.heap.size w' w'') := ⟨Sbv la la (by omega) true (decide_eq_true rfl)⟩
                    clear hlb hla hF hnz hkn hN hl hl2 hx hy hiF
                    go_wp2_with (first | (go_at_call 16; with_reducible refine (SB1.out A1r c1r A2r c2r _ rX2.out rY2.out).mono ?_; rintro e w34 ⟨rfl, hb⟩; have D4 := Aside0.mk (D2.out.below hb); have B34 := Aside0.mk (below_step B32.out hb); clear hb) | (go_at_call 11; with_reducible refine (FA.out _).mono ?_; rintro e w32 ⟨A2r, c2r, rfl, hr, hb⟩; have rY2 := Aside0.mk hr; have rX2 := Aside0.mk (rX1.out.far hb); have D2 := Aside0.mk (D1.out.below hb); have B32 := Aside0.mk (below_step B31.out hb); have Y32 := Aside0.mk (AtO.far Y31.out hb); have ky1 := AtO.l Y32.out; have ky2 := AtO.r Y32.out; clear hr hb) | (go_at_call 15; with_reducible refine (R1.out _ D0.out).mono ?_; rintro e w31 ⟨A1r, c1r, rfl, hr, hb⟩; have rX1 := Aside0.mk hr; have D1 := Aside0.mk (D0.out.below hb); have B31 := Aside0.mk (below_step HB.out hb); have X31 := Aside0.mk (pw_cell_below hb HX1.out); have Y31 := Aside0.mk (AtO.far HY.out hb); have kx1 := X31.out; clear hr hb))
                    go_roundg k2
                    case measure => omega
                    case rel => exact ⟨i + 1, nz, (by
                      have hw : wrap64 ((i : Int) + 1) = ((i + 1 : Nat) : Int) := by have := HI.out; have := HL12.out; unfold wrap64; omega
                      first | rfl | (rw [← hw]; rfl) | (simp [*]; done)), (by
                      first | rfl | (rw [← hw]; rfl) | (simp [*]; done)), ⟨by have := HI.out; omega⟩, HNZ2, D4, B34⟩
                · have f1 : decide ((i : Int) < (l2.length : Int)) = false := decide_eq_false (by omega)
                  rw [if_neg (fun h => e1 h.1), hN] at hF
                  have HY : Aside0 (AtO wr (ad.add i) (.int .u8 x) (ad.add i) (.int .u8 x)) := ⟨hx0, hx0⟩
                  have HNZ1 : Aside0 (nz ≤ 12) := ⟨by have := cntK_le l3 (l2.length - i) i; have := HNZ.out; have := HL12.out; omega⟩
                  have HNZ2 : Aside0 (cntK l3 (i + 1) (l2.length - (i + 1)) = nz) := ⟨by have := HNZ.out; rw [show l2.length - i = 0 by omega] at this; rw [show l2.length - (i + 1) = 0 by omega]; exact this⟩
                  have R1 : Aside0 (∀ w', Dk (fun _ => True) 58 w' o ⟨F, F, List.replicate N.length false⟩ → Calls Tryd.prog 15 #[.pointer (some ⟨o.g, 0, none⟩), .int .i64 (i : Int)] w' fun e w'' => ∃ A c, e = .returned (.tuple #[.slice A la.length c, .nilIface]) ∧ Rw w'' A c la ∧ Below w'.heap.size w' w'') := ⟨fun w' h => Rd_now h i hiF la hF⟩
                  have SB1 : Aside0 (∀ (A : Option Addr) (c : Nat) (A' : Option Addr) (c' : Nat) (w' : World), Rw w' A c la → Rw w' A' c' la → Calls Tryd.prog 16 #[.slice A la.length c, .slice A' la.length c'] w' fun e w'' => e = .returned (.bool true) ∧ Below w'.heap.size w' w'') := ⟨Sbv la la (by omega) true (decide_eq_true rfl)⟩
                  clear hla hF hN hl hx hiF
                  go_wp2_with (first | (go_at_call 16; with_reducible refine (SB1.out A1r c1r A2r c2r _ rX2.out rY2.out).mono ?_; rintro e w34 ⟨rfl, hb⟩; have D4 := Aside0.mk (D2.out.below hb); have B34 := Aside0.mk (below_step B32.out hb); clear hb) | (go_at_call 11; with_reducible refine (FA.out _).mono ?_; rintro e w32 ⟨A2r, c2r, rfl, hr, hb⟩; have rY2 := Aside0.mk hr; have rX2 := Aside0.mk (rX1.out.far hb); have D2 := Aside0.mk (D1.out.below hb); have B32 := Aside0.mk (below_step B31.out hb); have Y32 := Aside0.mk (AtO.far Y31.out hb); have ky1 := AtO.l Y32.out; have ky2 := AtO.r Y32.out; clear hr hb) | (go_at_call 15; with_reducible refine (R1.out _ D0.out).mono ?_; rintro e w31 ⟨A1r, c1r, rfl, hr, hb⟩; have rX1 := Aside0.mk hr; have D1 := Aside0.mk (D0.out.below hb); have B31 := Aside0.mk (below_step HB.out hb); have X31 := Aside0.mk (pw_cell_below hb HX1.out); have Y31 := Aside0.mk (AtO.far HY.out hb); have kx1 := X31.out; clear hr hb))
                  go_roundg k2
                  case measure => omega
                  case rel => exact ⟨i + 1, nz, (by
                    have hw : wrap64 ((i : Int) + 1) = ((i + 1 : Nat) : Int) := by have := HI.out; have := HL12.out; unfold wrap64; omega
                    first | rfl | (rw [← hw]; rfl) | (simp [*]; done)), (by
                    first | rfl | (rw [← hw]; rfl) | (simp [*]; done)), ⟨by have := HI.out; omega⟩, HNZ2, D4, B34⟩
            · have b1 : decide ((i : Int) < (l1.length : Int)) = false := decide_eq_false (by omega)
              have h0 : nz = 0 := by
                have h1 := HNZ.out
                have h2 := HL12.out
                rw [show l2.length - i = 0 by have := HI.out; omega] at h1
                exact h1.symm
              subst h0
              go_wp2_with (first | (go_at_call 8; with_reducible refine (Aw.calls _ (pw_cell_below B8.out HG.out)).mono ?_; rintro e w9 ⟨rfl, hb9⟩; have B9 := Aside0.mk (below_step B8.out hb9); clear hb9) | (go_at_call 13; with_reducible refine (Di_none o F N.length _ D0.out).mono ?_; rintro e w8 ⟨A7, c7, rfl, hb⟩; have B8 := Aside0.mk (below_step HB.out hb); clear hb))
              go_ret
              exact ⟨rfl, B9.out⟩

theorem BF.calls (w : World) (hg : w.cell? ⟨0, 0, none⟩ = some (.iface 94 (.agg #[.pointer (some ⟨1, 28, none⟩)]))) (A1 : Option Addr) (c1 : Nat) (l1 : List Int) (hr1 : Kd.C (Kd.int .u8) w A1 l1.length l1) (hc1 : l1.length ≤ c1) (A2 : Option Addr) (c2 : Nat) (l2 : List Int) (hr2 : Kd.C (Kd.int .u8) w A2 l2.length l2) (hc2 : l2.length ≤ c2) (A3 : Option Addr) (c3 : Nat) (l3 : List Bool) (hr3 : Kd.C Kd.bool w A3 l3.length l3) (hc3 : l3.length ≤ c3) : Calls Tryd.prog 3 #[.slice A1 l1.length c1, .slice A2 l2.length c2, .slice A3 l3.length c3] w fun e w' => e = .returned (.bool true) ∧ Below w.heap.size w w' := by
  by_cases g1 : 12 < l1.length
  · exact BF1.calls w hg A1 c1 l1 hr1 hc1 A2 c2 l2 hr2 hc2 A3 c3 l3 hr3 hc3 g1
  by_cases g2 : l1.length < l2.length
  · exact BF2.calls w hg A1 c1 l1 hr1 hc1 A2 c2 l2 hr2 hc2 A3 c3 l3 hr3 hc3 g1 g2
  by_cases g3 : 40 < l3.length
  · exact BF3.calls w hg A1 c1 l1 hr1 hc1 A2 c2 l2 hr2 hc2 A3 c3 l3 hr3 hc3 g1 g2 g3
  by_cases g4 : l1.length = 0
  · exact BF4.calls w hg A1 c1 l1 hr1 hc1 A2 c2 l2 hr2 hc2 A3 c3 l3 hr3 hc3 g2 g3 g4
  exact BFok.calls w hg A1 c1 l1 hr1 hc1 A2 c2 l2 hr2 hc2 A3 c3 l3 hr3 hc3 g1 g2 g3 g4

end

/-! ### chatelainelaw23_BlockFirm: function 3 -/
def chatelainelaw23_BlockFirm.f (_ _ : List Int) (_ : List Bool) : Option Bool := some true
theorem chatelainelaw23_BlockFirm.calls (A0 : Option Addr) (c0 : Nat) (l0 : List Int) (A1 : Option Addr) (c1 : Nat) (l1 : List Int) (A2 : Option Addr) (c2 : Nat) (l2 : List Bool) (r : Bool) (w : World) (hr0 : Kd.C (Kd.int .u8) w A0 l0.length l0) (hc0 : l0.length ≤ c0) (hr1 : Kd.C (Kd.int .u8) w A1 l1.length l1) (hc1 : l1.length ≤ c1) (hr2 : Kd.C Kd.bool w A2 l2.length l2) (hc2 : l2.length ≤ c2) (hg_ : w.cell? ⟨0, 0, none⟩ = some (.iface 94 (.agg #[.pointer (some ⟨1, 28, none⟩)]))) (h : chatelainelaw23_BlockFirm.f l0 l1 l2 = some r) : Calls Tryd.prog 3 #[.slice A0 l0.length c0, .slice A1 l1.length c1, .slice A2 l2.length c2] w fun e w' => e = .returned (.bool r) ∧ Below w.heap.size w w' := by
  cases h
  exact BF.calls w hg_ A0 c0 l0 hr0 hc0 A1 c1 l1 hr1 hc1 A2 c2 l2 hr2 hc2


/-- THE ONE PURE STATEMENT of chatelainelaw23_BlockFirm: yours. -/
def chatelainelaw23_BlockFirm.Pure : Prop := ∀ (l0 : List Int) (l1 : List Int) (l2 : List Bool), (l0.length ≤ maxLen ∧ l0.length * 1 ≤ 140737488351232 ∧ ∀ y0_ ∈ l0, (Lit.int .u8 y0_).wf = true) → (l1.length ≤ maxLen ∧ l1.length * 1 ≤ 140737488351232 ∧ ∀ y0_ ∈ l1, (Lit.int .u8 y0_).wf = true) → (l2.length ≤ maxLen ∧ l2.length * 1 ≤ 140737488351232 ∧ ∀ y0_ ∈ l2, True) → chatelainelaw23_BlockFirm.f l0 l1 l2 = some true
theorem chatelainelaw23_BlockFirm.walk (P_ : chatelainelaw23_BlockFirm.Pure) (A0 : Option Addr) (c0 : Nat) (l0 : List Int) (A1 : Option Addr) (c1 : Nat) (l1 : List Int) (A2 : Option Addr) (c2 : Nat) (l2 : List Bool) (w : World) (hr0 : Kd.C (Kd.int .u8) w A0 l0.length l0) (hc0 : l0.length ≤ c0) (hr1 : Kd.C (Kd.int .u8) w A1 l1.length l1) (hc1 : l1.length ≤ c1) (hr2 : Kd.C Kd.bool w A2 l2.length l2) (hc2 : l2.length ≤ c2) (hg_ : w.cell? ⟨0, 0, none⟩ = some (.iface 94 (.agg #[.pointer (some ⟨1, 28, none⟩)]))) (hq0 : l0.length ≤ maxLen ∧ l0.length * 1 ≤ 140737488351232 ∧ ∀ y0_ ∈ l0, (Lit.int .u8 y0_).wf = true) (hq1 : l1.length ≤ maxLen ∧ l1.length * 1 ≤ 140737488351232 ∧ ∀ y0_ ∈ l1, (Lit.int .u8 y0_).wf = true) (hq2 : l2.length ≤ maxLen ∧ l2.length * 1 ≤ 140737488351232 ∧ ∀ y0_ ∈ l2, True) :
    Calls Tryd.prog 3 #[.slice A0 l0.length c0, .slice A1 l1.length c1, .slice A2 l2.length c2] w fun e w' => e = .returned (.bool true) ∧ Below w.heap.size w w' := by
  have h := P_ l0 l1 l2 hq0 hq1 hq2
  refine (chatelainelaw23_BlockFirm.calls A0 c0 l0 A1 c1 l1 A2 c2 l2 true w hr0 hc0 hr1 hc1 hr2 hc2 hg_ h).mono ?_
  rintro e w' ⟨rfl, hd⟩
  exact ⟨rfl, hd⟩

end Go.Proofs.YtagijaijjjaolaaDoor.PBL