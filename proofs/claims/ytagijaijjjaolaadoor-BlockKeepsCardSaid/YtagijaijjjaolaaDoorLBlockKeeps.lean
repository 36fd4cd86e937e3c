import Derived.Test.YtagijaijjjaolaaDoorDkQ
namespace Go.Proofs.YtagijaijjjaolaaDoor.PBL
open Go.RowKit Go.Proofs.YtagijaijjjaolaaDoorW.PrintWords Go.Proofs.YtagijaijjjaolaaDoorW.PrintLast Go.Proofs.YtagijaijjjaolaaDoorW.PrintMore
attribute [local go_sem] max2_int min2_int max_two min_two max_three min_three max_four min_four   -- for this text's walks alone
set_option linter.unusedVariables false
set_option linter.unusedSimpArgs false

section
variable {ok ok2 : Nat → Prop}
theorem great_l (l : List S44) (m : Int) (hl : l.length < 9223372036854775808) : ∀ d j : Nat, l.length - j ≤ d → ∃ k r, chatelainelaw23_great.l0 k l m (j : Int) = some r
  | d, j, h => by
    by_cases c : j < l.length
    · cases d with
      | zero => omega
      | succ d =>
        obtain ⟨k, r, e⟩ := great_l l m hl d (j + 1) (by omega)
        have hw : wrap64 ((j : Int) + 1) = ((j + 1 : Nat) : Int) := by unfold wrap64; omega
        by_cases g : (l.length : Int) ≤ m
        · by_cases g2 : (((rd_T44 l (j : Int)).f4).length : Int) > 40
          · exact ⟨k + 2, true, by
              rw [chatelainelaw23_great.l0, if_pos (by omega), chatelainelaw23_great.j1, if_pos (decide_eq_true g), if_pos (by omega), if_pos (by omega)]
              exact if_pos g2⟩
          · exact ⟨k + 2, r, by
              rw [chatelainelaw23_great.l0, if_pos (by omega), chatelainelaw23_great.j1, if_pos (decide_eq_true g), if_pos (by omega), if_pos (by omega)]
              exact (if_neg g2).trans (by rw [hw]; exact e)⟩
        · exact ⟨2, _, by
            rw [chatelainelaw23_great.l0, if_pos (by omega), chatelainelaw23_great.j1, if_neg (by rw [decide_eq_false g]; exact Bool.false_ne_true)]⟩
    · exact ⟨2, _, by
        rw [chatelainelaw23_great.l0, if_neg (by omega), chatelainelaw23_great.j1, if_neg Bool.false_ne_true]⟩
theorem great_tells (l : List S44) (m : Int) (hl : l.length < 9223372036854775808) : ∃ k r, chatelainelaw23_great.f k l m = some r := great_l l m hl l.length 0 (by omega)

theorem keep_lt {w : World} {A : Option Addr} {xs : List Bool} (h : Kd.C Kd.bool w A xs.length xs) (ad : Addr) (e : A = some ad) (hne : xs ≠ []) : ad.block < w.heap.size := by
  obtain ⟨_, _, a3⟩ := Kd.reads_of_C (d := false) h
  have hl : 0 < xs.length := List.length_pos_iff.mpr hne
  obtain ⟨ad2, e2, hcl⟩ := a3 hl
  rw [e] at e2
  cases e2
  have := World.block_lt_of_cell? w _ (hcl 0 hl)
  have hbl : (ad.add 0).block = ad.block := by unfold Addr.add; split <;> rfl
  rw [hbl] at this
  exact this
theorem act_at {w w' : World} {A : Option Addr} {n : Nat} {xs : List S44} (hr : Kd.C k44 w A n xs) (hb : Below w.heap.size w w') (j : Nat) (hj : j < n) : ∃ ad A4 c4 x0 x1 x2 x3 x4, A = some ad ∧ (ad.add (j * 5)).block < w.heap.size ∧ w'.cell? (ad.add (j * 5)) = some (.int .i64 x0) ∧ w'.cell? ⟨(ad.add (j * 5)).block, (ad.add (j * 5)).off + 1, none⟩ = some (.int .i64 x1) ∧ w'.cell? ⟨(ad.add (j * 5)).block, (ad.add (j * 5)).off + 2, none⟩ = some (.int .u8 x2) ∧ w'.cell? ⟨(ad.add (j * 5)).block, (ad.add (j * 5)).off + 3, none⟩ = some (.int .i64 x3) ∧ w'.cell? ⟨(ad.add (j * 5)).block, (ad.add (j * 5)).off + 4, none⟩ = some (.slice A4 x4.length c4) ∧ x4.length ≤ c4 ∧ Kd.C Kd.bool w' A4 x4.length x4 ∧ (∀ ad4, A4 = some ad4 → x4 ≠ [] → ad4.block < w.heap.size) ∧ rd_T44 xs (j : Int) = ⟨x0, x1, x2, x3, x4⟩ := by
  obtain ⟨ad, A4, c4, e, h0, h1, h2, h3, h4, hl, hC⟩ := at_T44 hr (j : Int) (by omega) (by omega)
  rw [Int.toNat_natCast] at h0 h1 h2 h3 h4
  exact ⟨ad, A4, c4, _, _, _, _, _, e, World.block_lt_of_cell? w _ h0, pw_cell_below hb h0, pw_cell_below hb h1, pw_cell_below hb h2, pw_cell_below hb h3, pw_cell_below hb h4, hl, Kd.C_below hC hb, fun ad4 e4 hne => keep_lt hC ad4 e4 hne, rfl⟩
theorem Keeps.cell {S : Nat → Prop} {w w' : World} (hk : Keeps S w w') {p : Addr} {v : Value} (h : w.cell? p = some v) (hn : ¬ S p.block) : w'.cell? p = some v := by
  rw [← h]; unfold World.cell?; rw [hk.far _ (World.block_lt_of_cell? w _ h) hn]
theorem DS.play_clean' (s : DS) (x : S44) (h : s.Fits) (hc : s.Clean) : (s.play x).Clean := DS.play_clean s x h hc

theorem Dk.gc' {o o2 : Own} {T T2 : TypeId} {w w' : World} {s s2 : DS} {t : TypeId} {v : Value} (h : Dk ok T w o s) (hg : w.cell? ⟨0, 0, none⟩ = some (.iface t v)) (h2 : Dk ok2 T2 w o2 s2) (hk : Keeps (KO o o2) w w') : w'.cell? ⟨0, 0, none⟩ = some (.iface t v) := by
  have n1 : ¬ o.has 0 := fun e => by
    have hh : Keeps o.has w { w with heap := w.heap.set! 0 (.cells #[] 0 (0, 0)) } := ⟨rfl, rfl, rfl, by simp, fun i hi hn => by
      have : (0 : Nat) ≠ i := fun e2 => hn (e2 ▸ e)
      simp [Array.set!, Array.getElem?_setIfInBounds, this]⟩
    have := h.gc hg hh
    have hlt := World.block_lt_of_cell? w _ hg
    simp [World.cell?, Array.set!, Array.getElem?_setIfInBounds, hlt] at this
  have n2 : ¬ o2.has 0 := fun e => by
    have hh : Keeps o2.has w { w with heap := w.heap.set! 0 (.cells #[] 0 (0, 0)) } := ⟨rfl, rfl, rfl, by simp, fun i hi hn => by
      have : (0 : Nat) ≠ i := fun e2 => hn (e2 ▸ e)
      simp [Array.set!, Array.getElem?_setIfInBounds, this]⟩
    have := h2.gc hg hh
    have hlt := World.block_lt_of_cell? w _ hg
    simp [World.cell?, Array.set!, Array.getElem?_setIfInBounds, hlt] at this
  exact hk.cell hg (fun e => Or.elim e n1 n2)

theorem act_len {w : World} {A : Option Addr} {xs : List S44} (h : Kd.C k44 w A xs.length xs) : xs.length < 9223372036854775808 := by have := h.2.1; unfold maxLen at this; omega

theorem w64' {n : Int} (h1 : -9223372036854775808 ≤ n) (h2 : n ≤ 9223372036854775807) : wrap64 n = n := by unfold wrap64; omega
theorem low_ok (a : Int) (n : Nat) (h0 : 0 < n) (h1 : n < 4294967296) : ∃ r : Nat, r < n ∧ chatelainelaw0_Low.f a (n : Int) = some (r : Int) := by
  have hw : ∀ x : Int, IntKind.u64.wrap x = x % 18446744073709551616 := fun x => by simp [IntKind.wrap, IntKind.bits, IntKind.signed]
  have hn : IntKind.u64.wrap (n : Int) = (n : Int) := by rw [hw]; omega
  have hu := hw a
  have hu0 : 0 ≤ IntKind.u64.wrap a := by rw [hu]; omega
  have hr0 : 0 ≤ IntKind.u64.wrap a % (n : Int) := Int.emod_nonneg _ (by omega)
  have hr1 : IntKind.u64.wrap a % (n : Int) < (n : Int) := Int.emod_lt_of_pos _ (by omega)
  refine ⟨(IntKind.u64.wrap a % (n : Int)).toNat, by omega, ?_⟩
  unfold chatelainelaw0_Low.f
  rw [hn, if_neg (by omega), Int.tmod_eq_emod_of_nonneg hu0, w64' (by omega) (by omega), Int.toNat_of_nonneg hr0]
/-- Acts, one behind the other. -/
def DS.plays (s : DS) : List S44 → DS
  | [] => s
  | x :: l => (s.play x).plays l
theorem plays_at {s : DS} {l : List S44} {j : Nat} {r : DS} {x : S44} (h : s.plays (l.drop j) = r) (hj : j < l.length) (hx : rd_T44 l (j : Int) = x) : (s.play x).plays (l.drop (j + 1)) = r := by
  have e : l.drop j = l[j] :: l.drop (j + 1) := List.drop_eq_getElem_cons hj
  have e2 : x = l[j] := by rw [← hx]; unfold rd_T44; rw [Int.toNat_natCast, List.getD_eq_getElem?_getD, List.getElem?_eq_getElem hj]; rfl
  rw [e] at h
  rw [e2]
  exact h
theorem plays_end {s : DS} {l : List S44} {j : Nat} {r : DS} (h : s.plays (l.drop j) = r) (hj : ¬ j < l.length) : s = r := by
  rw [List.drop_eq_nil_of_le (by omega)] at h
  exact h
theorem Keeps.of_l {o o2 : Own} {w w' : World} (h : Keeps o.has w w') : Keeps (KO o o2) w w' := Keeps.l h
theorem len512 {T : TypeId} {w : World} {o : Own} {s : DS} (h : Dk ok T w o s) {i : Nat} (hi : i < s.now.length) : (s.now.getD i []).length = 512 ∧ (s.firm.getD i []).length = 512 := by
  obtain ⟨_, _, _, _, a⟩ := h.elN hi
  obtain ⟨_, _, _, _, b⟩ := h.elF hi
  exact ⟨a, b⟩

theorem crash2_true : ∀ (X : List Nat) (k : Nat) (s : DS) (n : Nat), (crashL [true] X k s n).2 = n + X.length
  | [], _, _, _ => rfl
  | x :: X, k, s, n => by rw [crashL, if_pos (kept_true k), crash2_true X, List.length_cons]; omega
theorem crash2_nil : ∀ (X : List Nat) (k : Nat) (s : DS) (n : Nat), (crashL [] X k s n).2 = n
  | [], _, _, _ => rfl
  | x :: X, k, s, n => by rw [crashL, if_neg (show ¬ (kept [] k = true) by unfold kept; simp), crash2_nil X]
theorem crash2_le (keep : List Bool) : ∀ (X : List Nat) (k : Nat) (s : DS) (n : Nat), (crashL keep X k s n).2 ≤ n + X.length
  | [], _, _, _ => Nat.le_refl _
  | x :: X, k, s, n => by
    rw [crashL]
    split
    · have := crash2_le keep X (k + 1) ((s.keep x).back x) (n + 1); rw [List.length_cons]; omega
    · have := crash2_le keep X (k + 1) (s.back x) n; rw [List.length_cons]; omega
theorem keepL_nil : ∀ (X : List Nat) (k : Nat) (s : DS) (n : Nat), keepL [] X k s n = (s, n)
  | [], _, _, _ => rfl
  | x :: X, k, s, n => by rw [keepL, if_neg (show ¬ (kept [] k = true) by unfold kept; simp), keepL_nil X]
/-- How many blocks differ, of the first so many. -/
def chg (f g : List (List Int)) : Nat → Nat
  | 0 => 0
  | j + 1 => chg f g j + (if g.getD j [] = f.getD j [] then 0 else 1)
theorem chg_le (f g : List (List Int)) : ∀ j, chg f g j ≤ j
  | 0 => Nat.le_refl _
  | j + 1 => by have := chg_le f g j; rw [chg]; split <;> omega
theorem chg_refl (f : List (List Int)) : ∀ j, chg f f j = 0
  | 0 => rfl
  | j + 1 => by rw [chg, chg_refl f j, if_pos rfl]
theorem getD_set_ne (g : List (List Int)) (x j : Nat) (v : List Int) (h : x ≠ j) : (g.set x v).getD j [] = g.getD j [] := by
  rw [List.getD_eq_getElem?_getD, List.getD_eq_getElem?_getD, List.getElem?_set_ne h]
theorem chg_set (f g : List (List Int)) (x : Nat) (v : List Int) : ∀ j, chg f (g.set x v) j ≤ chg f g j + (if x < j then 1 else 0)
  | 0 => by rw [chg]; omega
  | j + 1 => by
    have h := chg_set f g x v j
    rw [chg, chg]
    by_cases e : x = j
    · subst e
      rw [if_neg (Nat.lt_irrefl _)] at h
      rw [if_pos (Nat.lt_succ_self _)]
      split <;> split <;> omega
    · rw [getD_set_ne g x j v e]
      by_cases l : x < j
      · rw [if_pos l] at h
        rw [if_pos (show x < j + 1 by omega)]
        omega
      · rw [if_neg l] at h
        rw [if_neg (show ¬ (x < j + 1) by omega)]
        omega
theorem keepL_chg (keep : List Bool) (f0 : List (List Int)) (m : Nat) : ∀ (X : List Nat) (k : Nat) (s : DS) (n : Nat), chg f0 (keepL keep X k s n).1.firm m + n ≤ chg f0 s.firm m + (keepL keep X k s n).2
  | [], _, _, _ => Nat.le_refl _
  | x :: X, k, s, n => by
    rw [keepL]
    split
    · have h := keepL_chg keep f0 m X (k + 1) (s.keep x) (n + 1)
      have h2 : chg f0 (s.keep x).firm m ≤ chg f0 s.firm m + 1 := by
        have := chg_set f0 s.firm x (s.now.getD x []) m
        show chg f0 (s.firm.set x (s.now.getD x [])) m ≤ _
        split at this <;> omega
      omega
    · exact keepL_chg keep f0 m X (k + 1) s n
theorem keepL_or (keep : List Bool) : ∀ (X : List Nat) (k : Nat) (s : DS) (n : Nat), (keepL keep X k s n).1.firm.length = s.firm.length ∧ ∀ i, (keepL keep X k s n).1.firm.getD i [] = s.firm.getD i [] ∨ (keepL keep X k s n).1.firm.getD i [] = s.now.getD i []
  | [], _, _, _ => ⟨rfl, fun _ => .inl rfl⟩
  | x :: X, k, s, n => by
    rw [keepL]
    split
    · obtain ⟨h1, h2⟩ := keepL_or keep X (k + 1) (s.keep x) (n + 1)
      refine ⟨h1.trans List.length_set, fun i => ?_⟩
      rcases h2 i with h | h
      · by_cases e : x = i
        · subst e
          by_cases hl : x < s.firm.length
          · right
            rw [h]
            show (s.firm.set x (s.now.getD x [])).getD x [] = _
            rw [List.getD_eq_getElem?_getD, List.getElem?_set_self hl]
            rfl
          · left
            rw [h]
            show (s.firm.set x (s.now.getD x [])).getD x [] = _
            rw [List.set_eq_of_length_le (by omega)]
        · left
          rw [h]
          exact getD_set_ne _ _ _ _ e
      · exact .inr h
    · exact keepL_or keep X (k + 1) s n
theorem crash_spec (s : DS) (keep : List Bool) (hf : s.Fits) (hc : s.Clean) : ∃ F z, crashL keep (dix s.dirty s.now.length) 0 s 0 = (⟨F, F, List.replicate s.now.length false⟩, z) ∧ F.length = s.now.length ∧ (∀ i : Nat, F.getD i [] = s.firm.getD i [] ∨ F.getD i [] = s.now.getD i []) ∧ chg s.firm F s.now.length ≤ z ∧ z ≤ (dix s.dirty s.now.length).length := by
  obtain ⟨h1, h2⟩ := crash_same s keep hf hc
  obtain ⟨h3, h4⟩ := keepL_or keep (dix s.dirty s.now.length) 0 s 0
  have h5 := keepL_chg keep s.firm s.now.length (dix s.dirty s.now.length) 0 s 0
  have h6 := crash2_le keep (dix s.dirty s.now.length) 0 s 0
  rw [chg_refl] at h5
  refine ⟨(keepL keep (dix s.dirty s.now.length) 0 s 0).1.firm, (crashL keep (dix s.dirty s.now.length) 0 s 0).2, Prod.ext h1.symm rfl, h3.trans hf.nf, h4, by omega, by omega⟩
theorem crash_all (s : DS) (hf : s.Fits) (hc : s.Clean) : crashL [true] (dix s.dirty s.now.length) 0 s 0 = (⟨s.now, s.now, List.replicate s.now.length false⟩, (dix s.dirty s.now.length).length) := Prod.ext (flush_same s hf hc).symm ((crash2_true _ _ _ _).trans (by omega))
theorem crash_none (s : DS) (hf : s.Fits) (hc : s.Clean) : crashL [] (dix s.dirty s.now.length) 0 s 0 = (⟨s.firm, s.firm, List.replicate s.now.length false⟩, 0) := by
  obtain ⟨h1, h2⟩ := crash_same s [] hf hc
  rw [keepL_nil] at h1
  exact Prod.ext h1.symm (crash2_nil _ _ _ _)
theorem dix_none (m n : Nat) : ints (dix (List.replicate m false) n) = [] := by
  have : dix (List.replicate m false) n = [] := by
    refine List.eq_nil_iff_forall_not_mem.mpr fun i hi => ?_
    obtain ⟨_, h⟩ := (dix_mem _ _ _).mp hi
    rw [List.getElem?_replicate] at h
    split at h <;> cases h
  rw [this]; rfl
def Rw (w : World) (A : Option Addr) (c : Nat) (l : List Int) : Prop := Kd.C (Kd.int .u8) w A l.length l ∧ l.length ≤ c
theorem Rw.far {w w' : World} {A : Option Addr} {c : Nat} {l : List Int} (h : Rw w A c l) (hb : Below w.heap.size w w') : Rw w' A c l := ⟨Kd.C_below h.1 hb, h.2⟩
structure Quad (w w' : World) (o a b c : Own) (s sa sb sc : DS) : Prop where
  d : Dk (fun _ => True) 58 w' o s
  a : Dk (fun _ => True) 58 w' a sa
  b : Dk (fun _ => True) 58 w' b sb
  c : Dk (fun _ => True) 58 w' c sc
  bl : Below w.heap.size w w'
theorem Quad.far {w w' w'' : World} {o a b c : Own} {s sa sb sc : DS} (h : Quad w w' o a b c s sa sb sc) (hb : Below w'.heap.size w' w'') : Quad w w'' o a b c s sa sb sc := ⟨h.d.below hb, h.a.below hb, h.b.below hb, h.c.below hb, below_step h.bl hb⟩
theorem Rd_at {w w' : World} {v : Value} {l : List Int} (h : Kd.R (Kd.int .u8) 5 w' w.heap.size (fun _ => True) v l) : ∃ A c, v = .slice A l.length c ∧ Rw w' A c l := by
  obtain ⟨A, c, rfl⟩ := Kd.R_slice h
  exact ⟨A, c, rfl, (Kd.R_reads' h).2.2, (Kd.R_reads' h).2.1⟩

theorem box_true (w : World) : Kd.C Kd.bool (w.alloc (.cells #[.bool true] 4 (0, 0))) (some ⟨w.heap.size, 0, none⟩) ([true] : List Bool).length [true] := Kd.C_of_reads (d := false) ⟨rfl, by decide, fun _ => ⟨_, rfl, fun j hj => by
    have : j = 0 := by have : ([true] : List Bool).length = 1 := rfl; omega
    subst this
    exact (blk_cell (blk_new _ _) 0).trans rfl⟩⟩

theorem Rd_now {w : World} {o : Own} {s : DS} (h : Dk (fun _ => True) 58 w o s) (i : Nat) (hi : i < s.now.length) (l : List Int) (hl : s.now.getD i [] = l) : Calls Tryd.prog 15 #[.pointer (some ⟨o.g, 0, none⟩), .int .i64 (i : Int)] w fun e w' => ∃ A c, e = .returned (.tuple #[.slice A l.length c, .nilIface]) ∧ Rw w' A c l ∧ Below w.heap.size w w' := by
  have h5 := len512 h hi
  have hg := get_d s.now [] i (by exact hi)
  rw [hl] at hg h5
  exact (Dk_Read.calls o s w h i hi l hg (clone_f _ (by omega))).mono fun e w' ⟨v, q1, q2, q3⟩ => by
    obtain ⟨A, c, rfl, hr⟩ := Rd_at q2
    exact ⟨A, c, q1, hr, q3⟩

theorem Rd_firm {w : World} {o : Own} {s : DS} (h : Dk (fun _ => True) 58 w o s) (i : Nat) (hi : i < s.now.length) (l : List Int) (hl : s.firm.getD i [] = l) : Calls Tryd.prog 24 #[.pointer (some ⟨o.g, 0, none⟩), .int .i64 (i : Int)] w fun e w' => ∃ A c, e = .returned (.tuple #[.slice A l.length c, .nilIface]) ∧ Rw w' A c l ∧ Below w.heap.size w w' := by
  have h5 := len512 h hi
  have hg := get_d s.firm [] i (by rw [h.nf]; exact hi)
  rw [hl] at hg h5
  exact (Dk_Firm.calls o s w h i hi l hg (clone_f _ (by omega))).mono fun e w' ⟨v, q1, q2, q3⟩ => by
    obtain ⟨A, c, rfl, hr⟩ := Rd_at q2
    exact ⟨A, c, q1, hr, q3⟩

theorem Sbv (l l' : List Int) (h : l.length < 100000) (v : Bool) (hv : decide (l = l') = v) (A : Option Addr) (c : Nat) (A' : Option Addr) (c' : Nat) (w : World) (h1 : Rw w A c l) (h2 : Rw w A' c' l') : Calls Tryd.prog 16 #[.slice A l.length c, .slice A' l'.length c'] w fun e w' => e = .returned (.bool v) ∧ Below w.heap.size w w' :=
  (Sb.calls A c l A' c' l' w h1.1 h1.2 h2.1 h2.2 h).mono fun e w' ⟨q1, q2⟩ => ⟨by rw [q1, hv], q2⟩
theorem Di_none (o : Own) (F : List (List Int)) (m : Nat) (w : World) (h : Dk (fun _ => True) 58 w o ⟨F, F, List.replicate m false⟩) : Calls Tryd.prog 13 #[.pointer (some ⟨o.g, 0, none⟩)] w fun e w' => ∃ A c, e = .returned (.slice A 0 c) ∧ Below w.heap.size w w' :=
  (Dk_Dirty.calls o _ w h).mono fun e w' ⟨v, q1, q2, q3⟩ => by
    obtain ⟨A, c, rfl⟩ := Kd.R_slice q2
    exact ⟨A, c, by rw [q1]; show _ = Ending.returned (.slice A ([] : List Int).length c); rw [← dix_none m F.length], q3⟩
theorem Di_len (o : Own) (s : DS) (w : World) (h : Dk (fun _ => True) 58 w o s) : Calls Tryd.prog 13 #[.pointer (some ⟨o.g, 0, none⟩)] w fun e w' => ∃ A c, e = .returned (.slice A (dix s.dirty s.now.length).length c) ∧ Below w.heap.size w w' :=
  (Dk_Dirty.calls o s w h).mono fun e w' ⟨v, q1, q2, q3⟩ => by
    obtain ⟨A, c, rfl⟩ := Kd.R_slice q2
    exact ⟨A, c, by rw [q1]; unfold ints; rw [List.length_map], q3⟩
theorem Dk.far {o o' : Own} {s s' : DS} {w w' : World} (h : Dk (fun _ => True) 58 w o s) (h' : Dk (fun _ => True) 58 w o' s') (hne : ∀ k, o.has k → ¬ o'.has k) (hk : Keeps o'.has w w') : Dk (fun _ => True) 58 w' o s := h.other h' (by decide) hne hk

set_option maxHeartbeats 8000000 in
set_option maxRecDepth 100000 in
theorem BKg1.calls (n : Int) (w : World) (hg : w.cell? ⟨0, 0, none⟩ = some (.iface 94 (.agg #[.pointer (some ⟨1, 28, none⟩)]))) (A1 : Option Addr) (c1 : Nat) (l1 : List S44) (hr1 : Kd.C k44 w A1 l1.length l1) (hc1 : l1.length ≤ c1) (A3 : Option Addr) (c3 : Nat) (l3 : List Bool) (hr3 : Kd.C Kd.bool w A3 l3.length l3) (hc3 : l3.length ≤ c3) (k1 : Nat) (hk1 : chatelainelaw23_great.f k1 l1 20 = some true) :
    Calls Tryd.prog 7 #[.int .i64 n, .slice A1 l1.length c1, .slice A3 l3.length c3] w fun e w' => e = .returned (.bool true) ∧ Below w.heap.size w w' := by
  have HG := Aside0.mk hg
  have HR1 := Aside0.mk hr1
  have HR3 := Aside0.mk hr3
  have HC1 := Aside0.mk hc1
  have HC3 := Aside0.mk hc3
  have HK1 := Aside0.mk hk1
  clear hg hr1 hr3 hc1 hc3 hk1
  go_enter Tryd.func7, Tryd.ntmps7
  go_wp2_with (first | (go_at_call 8; with_reducible refine (Aw.calls _ (pw_cell_below B1.out HG.out)).mono ?_; rintro e w9 ⟨rfl, hb9⟩; have B9 := Aside0.mk (below_step B1.out hb9); clear hb9) | (go_at_call 17; with_reducible refine (chatelainelaw23_great.calls k1 A1 c1 l1 20 true _ HR1.out HC1.out HK1.out).mono ?_; rintro e w1 ⟨rfl, hd1⟩; have B1 := Aside0.mk hd1.below; clear hd1))
  go_ret
  exact ⟨rfl, B9.out⟩

set_option maxHeartbeats 8000000 in
set_option maxRecDepth 100000 in
theorem BKg2.calls (n : Int) (w : World) (hg : w.cell? ⟨0, 0, none⟩ = some (.iface 94 (.agg #[.pointer (some ⟨1, 28, none⟩)]))) (A1 : Option Addr) (c1 : Nat) (l1 : List S44) (hr1 : Kd.C k44 w A1 l1.length l1) (hc1 : l1.length ≤ c1) (A3 : Option Addr) (c3 : Nat) (l3 : List Bool) (hr3 : Kd.C Kd.bool w A3 l3.length l3) (hc3 : l3.length ≤ c3) (k1 : Nat) (hk1 : chatelainelaw23_great.f k1 l1 20 = some false) (h40 : 40 < l3.length) :
    Calls Tryd.prog 7 #[.int .i64 n, .slice A1 l1.length c1, .slice A3 l3.length c3] w fun e w' => e = .returned (.bool true) ∧ Below w.heap.size w w' := by
  have HG := Aside0.mk hg
  have HR1 := Aside0.mk hr1
  have HR3 := Aside0.mk hr3
  have HC1 := Aside0.mk hc1
  have HC3 := Aside0.mk hc3
  have HK1 := Aside0.mk hk1
  have d1 : decide ((l3.length : Int) > 40) = true := decide_eq_true (by omega)
  have d2 : decide ((40 : Int) < (l3.length : Int)) = true := decide_eq_true (by omega)
  have d3 : decide (40 < l3.length) = true := decide_eq_true h40
  clear hg hr1 hr3 hc1 hc3 hk1
  go_enter Tryd.func7, Tryd.ntmps7
  go_wp2_with (first | (go_at_call 8; with_reducible refine (Aw.calls _ (pw_cell_below B1.out HG.out)).mono ?_; rintro e w9 ⟨rfl, hb9⟩; have B9 := Aside0.mk (below_step B1.out hb9); clear hb9) | (go_at_call 17; with_reducible refine (chatelainelaw23_great.calls k1 A1 c1 l1 20 false _ HR1.out HC1.out HK1.out).mono ?_; rintro e w1 ⟨rfl, hd1⟩; have B1 := Aside0.mk hd1.below; clear hd1))
  go_ret
  exact ⟨rfl, B9.out⟩

set_option maxHeartbeats 8000000 in
set_option maxRecDepth 100000 in
theorem BKok.calls (n : Int) (w : World) (hg : w.cell? ⟨0, 0, none⟩ = some (.iface 94 (.agg #[.pointer (some ⟨1, 28, none⟩)]))) (A1 : Option Addr) (c1 : Nat) (l1 : List S44) (hr1 : Kd.C k44 w A1 l1.length l1) (hc1 : l1.length ≤ c1) (A3 : Option Addr) (c3 : Nat) (l3 : List Bool) (hr3 : Kd.C Kd.bool w A3 l3.length l3) (hc3 : l3.length ≤ c3) (k1 : Nat) (hk1 : chatelainelaw23_great.f k1 l1 20 = some false) (h40 : ¬ 40 < l3.length) (r : Nat) (hr : r < 10) (hlow : chatelainelaw0_Low.f n 10 = some (r : Int)) :
    Calls Tryd.prog 7 #[.int .i64 n, .slice A1 l1.length c1, .slice A3 l3.length c3] w fun e w' => e = .returned (.bool true) ∧ Below w.heap.size w w' := by
  have HG := Aside0.mk hg
  have HR1 := Aside0.mk hr1
  have HR3 := Aside0.mk hr3
  have HC1 := Aside0.mk hc1
  have HC3 := Aside0.mk hc3
  have HK1 := Aside0.mk hk1
  have d1 : decide ((l3.length : Int) > 40) = false := decide_eq_false (by omega)
  have d2 : decide ((40 : Int) < (l3.length : Int)) = false := decide_eq_false (by omega)
  have d3 : decide (40 < l3.length) = false := decide_eq_false h40
  have HLO := Aside0.mk hlow
  have HLm1 := Aside0.mk (act_len hr1)
  have NW : Aside0 (∀ w, Calls Tryd.prog 9 #[.int .i64 (wrap64 (1 + (r : Int)))] w fun e w' => ∃ o : Own, e = .returned (.pointer (some ⟨o.g, 0, none⟩)) ∧ Dk (fun _ => True) 58 w' o (⟨List.replicate (r + 1) (List.replicate 512 0), List.replicate (r + 1) (List.replicate 512 0), List.replicate (r + 1) false⟩ : DS) ∧ (∀ k, o.has k → w.heap.size ≤ k) ∧ Below w.heap.size w w') := ⟨fun w => by
    have e : wrap64 (1 + (r : Int)) = ((r + 1 : Nat) : Int) := by unfold wrap64; omega
    rw [e]
    exact Dk_New.calls (r + 1) w (by omega) (by omega)⟩
  have HM : Aside0 (1 ≤ r + 1 ∧ r + 1 ≤ 256) := ⟨by omega⟩
  have e1 : (⟨List.replicate (r + 1) (List.replicate 512 0), List.replicate (r + 1) (List.replicate 512 0), List.replicate (r + 1) false⟩ : DS).now.length = r + 1 := List.length_replicate
  have e0 : (⟨List.replicate (r + 1) (List.replicate 512 0), List.replicate (r + 1) (List.replicate 512 0), List.replicate (r + 1) false⟩ : DS).Clean := fun j hj => rfl
  have HS0 := Aside0.mk e1
  have HCL0 := Aside0.mk e0
  generalize (⟨List.replicate (r + 1) (List.replicate 512 0), List.replicate (r + 1) (List.replicate 512 0), List.replicate (r + 1) false⟩ : DS) = s0 at *
  generalize hm : r + 1 = m at HM HS0
  clear hg hr1 hr3 hc1 hc3 hk1 hlow hr e1 hm e0 h40
  go_enter Tryd.func7, Tryd.ntmps7
  go_wp2_with (first | (go_at_call 9; with_reducible refine (NW.out _).mono ?_; rintro e w3 ⟨o, rfl, hd2, hge2, hb2⟩; have D03 := Aside0.mk hd2; have HGEo : Aside0 (∀ k, o.has k → w.heap.size ≤ k) := ⟨fun k hk => Nat.le_trans B2b.out.size (hge2 k hk)⟩; have B3 := Aside0.mk (below_step B2b.out hb2); clear hd2 hge2 hb2) | (go_at_call 27; with_reducible refine (chatelainelaw0_Low.calls n 10 (r : Int) _ HLO.out).mono ?_; rintro e w2b ⟨rfl, hd1⟩; have B2b := Aside0.mk (below_step B1.out hd1.below); clear hd1) | (go_at_call 17; with_reducible refine (chatelainelaw23_great.calls k1 A1 c1 l1 20 false _ HR1.out HC1.out HK1.out).mono ?_; rintro e w1 ⟨rfl, hd1⟩; have B1 := Aside0.mk hd1.below; clear hd1))
  go_loopg [8] l1.length (fun kq v8 w' => ∃ (j : Nat) (s : DS), v8 = .int .i64 (j : Int) ∧ Aside0 (j + kq = l1.length) ∧ Aside0 (s.now.length = m) ∧ Aside0 (Dk (fun _ => True) 58 w' o s) ∧ Aside0 s.Clean ∧ Aside0 (Keeps o.has w3 w'))
  case atStart => exact ⟨0, _, (by first | rfl | (simp; done)), ⟨by omega⟩, HS0, D03, HCL0, ⟨Keeps.refl _ _⟩⟩
  case round =>
    clear D03 HS0 HCL0
    obtain ⟨j, s, rfl, HJ, HSLs, D0, HCL, HK⟩ := hrel
    have hbr : Below w.heap.size w wr := HK.out.below HGEo.out B3.out.size B3.out
    have HBR := Aside0.mk hbr
    by_cases c8 : j < l1.length
    · have c8b : decide ((j : Int) < (l1.length : Int)) = true := decide_eq_true (by omega)
      cases gk with
      | zero => have := HJ.out; omega
      | succ k1 =>
        have p40 : 0 ≤ (j : Int) := by omega
        have q40 : (j : Int) < l1.length := by omega
        obtain ⟨ad, A4, c4, x0, x1, x2, x3, x4, hA1, hpb, z0, z1, z2, z3, z4, hl4, hC4, hA4, hx4⟩ := act_at HR1.out hbr j c8
        subst hA1
        skip
        have HC4 := Aside0.mk hC4
        have DD : Aside0 (∀ w', Dk (fun _ => True) 58 w' o s → Kd.C Kd.bool w' A4 x4.length x4 → Calls Tryd.prog 28 #[.pointer (some ⟨o.g, 0, none⟩), .agg #[.int .i64 x0, .int .i64 x1, .int .u8 x2, .int .i64 x3, .slice A4 x4.length c4]] w' fun e w'' => e = .returned (.tuple #[]) ∧ Dk (fun _ => True) 58 w'' o (s.play ⟨x0, x1, x2, x3, x4⟩) ∧ Keeps o.has w' w'') := ⟨fun w' a c => Pl.calls o s w' a ⟨x0, x1, x2, x3, x4⟩ A4 c4 c hl4 (fun ad4 e4 hx e => by have := HGEo.out _ e; have := hA4 ad4 e4 hx; omega)⟩
        have HSL' := Aside0.mk ((DS.play_len s ⟨x0, x1, x2, x3, x4⟩ D0.out.fits).trans HSLs.out)
        have HCL' := Aside0.mk (DS.play_clean s ⟨x0, x1, x2, x3, x4⟩ D0.out.fits HCL.out)
        generalize s.play ⟨x0, x1, x2, x3, x4⟩ = s' at *
        clear hbr hpb hl4 hC4 hA4 hx4
        go_wp2_with (first | (go_at_call 28; with_reducible refine (DD.out _ D0.out HC4.out).mono ?_; rintro e w1b ⟨rfl, hd1, hk1⟩; have E1 := Aside0.mk hd1; have EK := Aside0.mk (HK.out.trans hk1); clear hd1 hk1))
        go_roundg k1
        case measure => omega
        case rel => exact ⟨j + 1, s', (by
          have hw : wrap64 ((j : Int) + 1) = ((j + 1 : Nat) : Int) := by have := HJ.out; have := HLm1.out; unfold wrap64; omega
          first | rfl | (rw [← hw]; rfl) | (simp [*]; done)), ⟨by have := HJ.out; omega⟩, HSL', E1, HCL', EK⟩
    · have c8b : decide ((j : Int) < (l1.length : Int)) = false := decide_eq_false (by omega)
      have HC := HCL
      go_wp2_with (first
        | (go_at_call 13; with_reducible refine (Di_len o s _ D4.out).mono ?_; rintro e w5 ⟨Ad, cd, rfl, hb⟩; have D5 := Aside0.mk (D4.out.below hb); have EA5 := Aside0.mk (EA4.out.below hb); have EB5 := Aside0.mk (EB4.out.below hb); have EC5 := Aside0.mk (EC4.out.below hb); have B5 := Aside0.mk (below_step B4.out hb); clear hb)
        | (go_at_call 26; with_reducible refine (Dk_Copy.calls o s _ D3.out).mono ?_; rintro e w4 ⟨c, rfl, hd2, hge2, hb2⟩; have GEc := Aside0.mk hge2; have EC4 := Aside0.mk hd2; have D4 := Aside0.mk (D3.out.below hb2); have EA4 := Aside0.mk (EA3.out.below hb2); have EB4 := Aside0.mk (EB3.out.below hb2); have B4 := Aside0.mk (below_step B3c.out hb2); clear hd2 hge2 hb2)
        | (go_at_call 26; with_reducible refine (Dk_Copy.calls o s _ D2.out).mono ?_; rintro e w3c ⟨b, rfl, hd2, hge2, hb2⟩; have GEb := Aside0.mk hge2; have EB3 := Aside0.mk hd2; have D3 := Aside0.mk (D2.out.below hb2); have EA3 := Aside0.mk (EA2.out.below hb2); have B3c := Aside0.mk (below_step B2c.out hb2); clear hd2 hge2 hb2)
        | (go_at_call 26; with_reducible refine (Dk_Copy.calls o s _ D0.out).mono ?_; rintro e w2c ⟨a, rfl, hd2, hge2, hb2⟩; have GEa := Aside0.mk hge2; have EA2 := Aside0.mk hd2; have D2 := Aside0.mk (D0.out.below hb2); have B2c := Aside0.mk (below_step HBR.out hb2); clear hd2 hge2 hb2))
      have HNoa : Aside0 (∀ k, o.has k → ¬ a.has k) := ⟨fun k h1 h2 => absurd (D0.out.lt k h1) (Nat.not_lt.mpr (GEa.out k h2))⟩
      have HNob : Aside0 (∀ k, o.has k → ¬ b.has k) := ⟨fun k h1 h2 => absurd (D2.out.lt k h1) (Nat.not_lt.mpr (GEb.out k h2))⟩
      have HNoc : Aside0 (∀ k, o.has k → ¬ c.has k) := ⟨fun k h1 h2 => absurd (D3.out.lt k h1) (Nat.not_lt.mpr (GEc.out k h2))⟩
      have HNab : Aside0 (∀ k, a.has k → ¬ b.has k) := ⟨fun k h1 h2 => absurd (EA2.out.lt k h1) (Nat.not_lt.mpr (GEb.out k h2))⟩
      have HNac : Aside0 (∀ k, a.has k → ¬ c.has k) := ⟨fun k h1 h2 => absurd (EA3.out.lt k h1) (Nat.not_lt.mpr (GEc.out k h2))⟩
      have HNbc : Aside0 (∀ k, b.has k → ¬ c.has k) := ⟨fun k h1 h2 => absurd (EB3.out.lt k h1) (Nat.not_lt.mpr (GEc.out k h2))⟩
      have GEaw : Aside0 (∀ k, a.has k → w.heap.size ≤ k) := ⟨fun k h => Nat.le_trans HBR.out.size (GEa.out k h)⟩
      have GEbw : Aside0 (∀ k, b.has k → w.heap.size ≤ k) := ⟨fun k h => Nat.le_trans B2c.out.size (GEb.out k h)⟩
      have GEcw : Aside0 (∀ k, c.has k → w.heap.size ≤ k) := ⟨fun k h => Nat.le_trans B3c.out.size (GEc.out k h)⟩
      obtain ⟨F, z, hFz, hFl, hor, hcz, hzn⟩ := crash_spec s l3 D5.out.fits HCL.out
      have hall := crash_all s D5.out.fits HCL.out
      have hnone := crash_none s D5.out.fits HCL.out
      obtain ⟨nd, hnd⟩ : ∃ nd, (dix s.dirty s.now.length).length = nd := ⟨_, rfl⟩
      rw [hnd] at hzn hall
      have hb0 : Below w5.heap.size w5 (w5.alloc (.cells #[.bool true] 4 (0, 0))) := (Below.refl _ _).alloc (Nat.le_refl _) _
      have hkC : Kd.C Kd.bool (w5.alloc (.cells #[.bool true] 4 (0, 0))) (some ⟨w5.heap.size, 0, none⟩) ([true] : List Bool).length [true] := box_true w5
      have CA : Aside0 (Calls Tryd.prog 14 #[.pointer (some ⟨a.g, 0, none⟩), .slice (some ⟨w5.heap.size, 0, none⟩) 1 1] (w5.alloc (.cells #[.bool true] 4 (0, 0))) fun e w'' => e = .returned (.int .i64 (nd : Int)) ∧ Dk (fun _ => True) 58 w'' a ⟨s.now, s.now, List.replicate m false⟩ ∧ Keeps a.has (w5.alloc (.cells #[.bool true] 4 (0, 0))) w'') := ⟨by
        have := Dk_Crash.calls a s _ (EA5.out.below hb0) (some ⟨w5.heap.size, 0, none⟩) 1 [true] hkC (by decide) (fun ad e _ h => by cases e; exact absurd (EA5.out.lt _ h) (Nat.lt_irrefl _))
        rw [hall, HSLs.out] at this
        exact this⟩
      have CB : Aside0 (∀ w', Dk (fun _ => True) 58 w' b s → Calls Tryd.prog 14 #[.pointer (some ⟨b.g, 0, none⟩), .slice none 0 0] w' fun e w'' => e = .returned (.int .i64 0) ∧ Dk (fun _ => True) 58 w'' b ⟨s.firm, s.firm, List.replicate m false⟩ ∧ Keeps b.has w' w'') := ⟨fun w' hd => by
        have := Dk_Crash.calls b s w' hd none 0 [] (keep_nil w') (Nat.le_refl _) (fun ad e _ => by cases e)
        rw [hnone, HSLs.out] at this
        exact this⟩
      have CC : Aside0 (∀ w', Dk (fun _ => True) 58 w' c s → Kd.C Kd.bool w' A3 l3.length l3 → Calls Tryd.prog 14 #[.pointer (some ⟨c.g, 0, none⟩), .slice A3 l3.length c3] w' fun e w'' => e = .returned (.int .i64 (z : Int)) ∧ Dk (fun _ => True) 58 w'' c ⟨F, F, List.replicate m false⟩ ∧ Keeps c.has w' w'') := ⟨fun w' hd hC => by
        have := Dk_Crash.calls c s w' hd A3 c3 l3 hC HC3.out (fun ad e hne h => by have := GEcw.out _ h; have := keep_lt HR3.out ad e hne; omega)
        rw [hFz, HSLs.out] at this
        exact this⟩
      have D6 := Aside0.mk (D5.out.below hb0)
      have EB6 := Aside0.mk (EB5.out.below hb0)
      have EC6 := Aside0.mk (EC5.out.below hb0)
      have EA6 := Aside0.mk (EA5.out.below hb0)
      have B6 := Aside0.mk (below_step B5.out hb0)
      have z1 : decide ((z : Int) > (nd : Int)) = false := decide_eq_false (by omega)
      have z2 : decide ((nd : Int) < (z : Int)) = false := decide_eq_false (by omega)
      have z3 : decide (nd < z) = false := decide_eq_false (by omega)
      have z4 : decide ((z : Int) < 0) = false := decide_eq_false (by omega)
      have HOR := Aside0.mk hor
      have HFL := Aside0.mk (hFl.trans HSLs.out)
      have HCZ : Aside0 (chg s.firm F m ≤ z) := ⟨by rw [← HSLs.out]; exact hcz⟩
      rw [hnd]
      clear hFz hFl hor hcz hzn hall hnone hb0 hkC D0 D2 D3 D4 D5 EA2 EA3 EA4 EA5 EB3 EB4 EB5 EC4 EC5 GEa GEb GEc hnd HK HCL HC hbr HJ
      go_wp2_with (first
        | (go_at_call 14; with_reducible refine (CC.out _ EC8.out (Kd.C_below HR3.out B8.out)).mono ?_; rintro e w9c ⟨rfl, hd, hk⟩; have QS : Aside0 (Quad w w9c o a b c s ⟨s.now, s.now, List.replicate m false⟩ ⟨s.firm, s.firm, List.replicate m false⟩ ⟨F, F, List.replicate m false⟩) := ⟨Quad.mk (Dk.far D8.out EC8.out HNoc.out hk) (Dk.far EA8.out EC8.out HNac.out hk) (Dk.far EB8.out EC8.out HNbc.out hk) hd (hk.below GEcw.out B8.out.size B8.out)⟩; clear hd hk)
        | (go_at_call 14; with_reducible refine (CB.out _ EB7.out).mono ?_; rintro e w8c ⟨rfl, hd, hk⟩; have EB8 := Aside0.mk hd; have D8 := Aside0.mk (Dk.far D7.out EB7.out HNob.out hk); have EA8 := Aside0.mk (Dk.far EA7.out EB7.out HNab.out hk); have EC8 := Aside0.mk (Dk.far EC7.out EB7.out (fun k h1 h2 => absurd h1 (HNbc.out k h2)) hk); have B8 := Aside0.mk (hk.below GEbw.out B7.out.size B7.out); clear hd hk)
        | (go_at_call 14; with_reducible refine (CA.out).mono ?_; rintro e w7c ⟨rfl, hd, hk⟩; have EA7 := Aside0.mk hd; have D7 := Aside0.mk (Dk.far D6.out EA6.out HNoa.out hk); have EB7 := Aside0.mk (Dk.far EB6.out EA6.out (fun k h1 h2 => absurd h1 (HNab.out k h2)) hk); have EC7 := Aside0.mk (Dk.far EC6.out EA6.out (fun k h1 h2 => absurd h1 (HNac.out k h2)) hk); have B7 := Aside0.mk (hk.below GEaw.out B6.out.size B6.out); clear hd hk))
      go_loopg [16, 17] m (fun kq v16 v17 w' => ∃ (i kp : Nat), v17 = .int .i64 (i : Int) ∧ v16 = .int .i64 (kp : Int) ∧ Aside0 (i + kq = m) ∧ Aside0 (chg s.firm F i = kp) ∧ Aside0 (Quad w w' o a b c s ⟨s.now, s.now, List.replicate m false⟩ ⟨s.firm, s.firm, List.replicate m false⟩ ⟨F, F, List.replicate m false⟩))
      case atStart => exact ⟨0, 0, (by first | rfl | (simp; done)), (by first | rfl | (simp; done)), ⟨by omega⟩, ⟨rfl⟩, QS⟩
      case round =>
        clear QS
        obtain ⟨i, kp, rfl, rfl, HI, HKP, Q0⟩ := hrel
        have LN : Aside0 (∀ w', Quad w w' o a b c s ⟨s.now, s.now, List.replicate m false⟩ ⟨s.firm, s.firm, List.replicate m false⟩ ⟨F, F, List.replicate m false⟩ → Calls Tryd.prog 23 #[.pointer (some ⟨o.g, 0, none⟩)] w' fun e w'' => e = .returned (.int .i64 (m : Int)) ∧ w'' = w') := ⟨fun w' q => by have := Dk_Len.calls o s w' q.d; rw [HSLs.out] at this; exact this⟩
        by_cases d1 : i < m
        · have b1 : decide ((i : Int) < (m : Int)) = true := decide_eq_true (by omega)
          cases gk with
          | zero => have := HI.out; omega
          | succ k2 =>
            have hi : i < s.now.length := by have := HSLs.out; omega
            have hor := HOR.out i
            obtain ⟨hln, hlf⟩ := len512 Q0.out.d hi
            obtain ⟨hlr, _⟩ := len512 Q0.out.c (i := i) (by have := HFL.out; show i < F.length; omega)
            have hlr : (F.getD i []).length = 512 := hlr
            obtain ⟨ln, hlN⟩ : ∃ ln, s.now.getD i [] = ln := ⟨_, rfl⟩
            obtain ⟨lf, hlF⟩ : ∃ lf, s.firm.getD i [] = lf := ⟨_, rfl⟩
            obtain ⟨lr, hlR⟩ : ∃ lr, F.getD i [] = lr := ⟨_, rfl⟩
            have RN : Aside0 (∀ w', Quad w w' o a b c s ⟨s.now, s.now, List.replicate m false⟩ ⟨s.firm, s.firm, List.replicate m false⟩ ⟨F, F, List.replicate m false⟩ → Calls Tryd.prog 15 #[.pointer (some ⟨o.g, 0, none⟩), .int .i64 (i : Int)] w' fun e w'' => ∃ A c, e = .returned (.tuple #[.slice A ln.length c, .nilIface]) ∧ Rw w'' A c ln ∧ Below w'.heap.size w' w'') := ⟨fun w' q => Rd_now q.d i hi ln hlN⟩
            have RF : Aside0 (∀ w', Quad w w' o a b c s ⟨s.now, s.now, List.replicate m false⟩ ⟨s.firm, s.firm, List.replicate m false⟩ ⟨F, F, List.replicate m false⟩ → Calls Tryd.prog 24 #[.pointer (some ⟨o.g, 0, none⟩), .int .i64 (i : Int)] w' fun e w'' => ∃ A c, e = .returned (.tuple #[.slice A lf.length c, .nilIface]) ∧ Rw w'' A c lf ∧ Below w'.heap.size w' w'') := ⟨fun w' q => Rd_firm q.d i hi lf hlF⟩
            have RP : Aside0 (∀ w', Quad w w' o a b c s ⟨s.now, s.now, List.replicate m false⟩ ⟨s.firm, s.firm, List.replicate m false⟩ ⟨F, F, List.replicate m false⟩ → Calls Tryd.prog 15 #[.pointer (some ⟨a.g, 0, none⟩), .int .i64 (i : Int)] w' fun e w'' => ∃ A c, e = .returned (.tuple #[.slice A ln.length c, .nilIface]) ∧ Rw w'' A c ln ∧ Below w'.heap.size w' w'') := ⟨fun w' q => Rd_now q.a i hi ln hlN⟩
            have RQ : Aside0 (∀ w', Quad w w' o a b c s ⟨s.now, s.now, List.replicate m false⟩ ⟨s.firm, s.firm, List.replicate m false⟩ ⟨F, F, List.replicate m false⟩ → Calls Tryd.prog 15 #[.pointer (some ⟨b.g, 0, none⟩), .int .i64 (i : Int)] w' fun e w'' => ∃ A c, e = .returned (.tuple #[.slice A lf.length c, .nilIface]) ∧ Rw w'' A c lf ∧ Below w'.heap.size w' w'') := ⟨fun w' q => Rd_now q.b i (show i < s.firm.length by rw [q.d.nf]; exact hi) lf hlF⟩
            have RR : Aside0 (∀ w', Quad w w' o a b c s ⟨s.now, s.now, List.replicate m false⟩ ⟨s.firm, s.firm, List.replicate m false⟩ ⟨F, F, List.replicate m false⟩ → Calls Tryd.prog 15 #[.pointer (some ⟨c.g, 0, none⟩), .int .i64 (i : Int)] w' fun e w'' => ∃ A c, e = .returned (.tuple #[.slice A lr.length c, .nilIface]) ∧ Rw w'' A c lr ∧ Below w'.heap.size w' w'') := ⟨fun w' q => Rd_now q.c i (show i < F.length by rw [HFL.out]; exact d1) lr hlR⟩
            have RS : Aside0 (∀ w', Quad w w' o a b c s ⟨s.now, s.now, List.replicate m false⟩ ⟨s.firm, s.firm, List.replicate m false⟩ ⟨F, F, List.replicate m false⟩ → Calls Tryd.prog 24 #[.pointer (some ⟨c.g, 0, none⟩), .int .i64 (i : Int)] w' fun e w'' => ∃ A c, e = .returned (.tuple #[.slice A lr.length c, .nilIface]) ∧ Rw w'' A c lr ∧ Below w'.heap.size w' w'') := ⟨fun w' q => Rd_firm q.c i (show i < F.length by rw [HFL.out]; exact d1) lr hlR⟩
            rw [hlN, hlF, hlR] at hor
            rw [hlN] at hln
            rw [hlF] at hlf
            rw [hlR] at hlr
            replace hln : ln.length < 100000 := by omega
            replace hlf : lf.length < 100000 := by omega
            replace hlr : lr.length < 100000 := by omega
            have SPN : Aside0 (∀ (A : Option Addr) (c : Nat) (A' : Option Addr) (c' : Nat) (w' : World), Rw w' A c ln → Rw w' A' c' ln → Calls Tryd.prog 16 #[.slice A ln.length c, .slice A' ln.length c'] w' fun e w'' => e = .returned (.bool true) ∧ Below w'.heap.size w' w'') := ⟨Sbv ln ln hln true (decide_eq_true rfl)⟩
            have SQF : Aside0 (∀ (A : Option Addr) (c : Nat) (A' : Option Addr) (c' : Nat) (w' : World), Rw w' A c lf → Rw w' A' c' lf → Calls Tryd.prog 16 #[.slice A lf.length c, .slice A' lf.length c'] w' fun e w'' => e = .returned (.bool true) ∧ Below w'.heap.size w' w'') := ⟨Sbv lf lf hlf true (decide_eq_true rfl)⟩
            have SRS : Aside0 (∀ (A : Option Addr) (c : Nat) (A' : Option Addr) (c' : Nat) (w' : World), Rw w' A c lr → Rw w' A' c' lr → Calls Tryd.prog 16 #[.slice A lr.length c, .slice A' lr.length c'] w' fun e w'' => e = .returned (.bool true) ∧ Below w'.heap.size w' w'') := ⟨Sbv lr lr hlr true (decide_eq_true rfl)⟩
            cases e1 : decide (lr = ln) with
            | true =>
              cases e2 : decide (lr = lf) with
              | true =>
                have SRN : Aside0 (∀ (A : Option Addr) (c : Nat) (A' : Option Addr) (c' : Nat) (w' : World), Rw w' A c lr → Rw w' A' c' ln → Calls Tryd.prog 16 #[.slice A lr.length c, .slice A' ln.length c'] w' fun e w'' => e = .returned (.bool true) ∧ Below w'.heap.size w' w'') := ⟨Sbv lr ln hlr true (e1)⟩
                have SRF : Aside0 (∀ (A : Option Addr) (c : Nat) (A' : Option Addr) (c' : Nat) (w' : World), Rw w' A c lr → Rw w' A' c' lf → Calls Tryd.prog 16 #[.slice A lr.length c, .slice A' lf.length c'] w' fun e w'' => e = .returned (.bool true) ∧ Below w'.heap.size w' w'') := ⟨Sbv lr lf hlr true (e2)⟩
                have HKP1 : Aside0 (chg s.firm F (i + 1) = kp) := ⟨by rw [chg, HKP.out, hlR, hlF]; rw [if_pos (of_decide_eq_true e2)]; rfl⟩
                have hkpi : kp ≤ i := by have := chg_le s.firm F i; have := HKP.out; omega
                have hkpi := Aside0.mk hkpi
                clear e1 e2 hlN hlF hlR hln hlf hlr hi hor
                go_wp2_with (first | (go_at_call 16; with_reducible refine (SRF.out ArR crR ArF crF _ rR10.out rF10.out).mono ?_; rintro e w311 ⟨rfl, hb⟩; have rN11 := Aside0.mk (rN10.out.far hb); have rF11 := Aside0.mk (rF10.out.far hb); have rP11 := Aside0.mk (rP10.out.far hb); have rQ11 := Aside0.mk (rQ10.out.far hb); have rR11 := Aside0.mk (rR10.out.far hb); have rS11 := Aside0.mk (rS10.out.far hb); have Q11 := Aside0.mk (Q10.out.far hb); clear hb) | (go_at_call 16; with_reducible refine (SRN.out ArR crR ArN crN _ rR9.out rN9.out).mono ?_; rintro e w310 ⟨rfl, hb⟩; have rN10 := Aside0.mk (rN9.out.far hb); have rF10 := Aside0.mk (rF9.out.far hb); have rP10 := Aside0.mk (rP9.out.far hb); have rQ10 := Aside0.mk (rQ9.out.far hb); have rR10 := Aside0.mk (rR9.out.far hb); have rS10 := Aside0.mk (rS9.out.far hb); have Q10 := Aside0.mk (Q9.out.far hb); clear hb) | (go_at_call 16; with_reducible refine (SRS.out ArR crR ArS crS _ rR8.out rS8.out).mono ?_; rintro e w39 ⟨rfl, hb⟩; have rN9 := Aside0.mk (rN8.out.far hb); have rF9 := Aside0.mk (rF8.out.far hb); have rP9 := Aside0.mk (rP8.out.far hb); have rQ9 := Aside0.mk (rQ8.out.far hb); have rR9 := Aside0.mk (rR8.out.far hb); have rS9 := Aside0.mk (rS8.out.far hb); have Q9 := Aside0.mk (Q8.out.far hb); clear hb) | (go_at_call 16; with_reducible refine (SQF.out ArQ crQ ArF crF _ rQ7.out rF7.out).mono ?_; rintro e w38 ⟨rfl, hb⟩; have rN8 := Aside0.mk (rN7.out.far hb); have rF8 := Aside0.mk (rF7.out.far hb); have rP8 := Aside0.mk (rP7.out.far hb); have rQ8 := Aside0.mk (rQ7.out.far hb); have rR8 := Aside0.mk (rR7.out.far hb); have rS8 := Aside0.mk (rS7.out.far hb); have Q8 := Aside0.mk (Q7.out.far hb); clear hb) | (go_at_call 16; with_reducible refine (SPN.out ArP crP ArN crN _ rP6.out rN6.out).mono ?_; rintro e w37 ⟨rfl, hb⟩; have rN7 := Aside0.mk (rN6.out.far hb); have rF7 := Aside0.mk (rF6.out.far hb); have rP7 := Aside0.mk (rP6.out.far hb); have rQ7 := Aside0.mk (rQ6.out.far hb); have rR7 := Aside0.mk (rR6.out.far hb); have rS7 := Aside0.mk (rS6.out.far hb); have Q7 := Aside0.mk (Q6.out.far hb); clear hb) | (go_at_call 24; with_reducible refine (RS.out _ Q5.out).mono ?_; rintro e w36 ⟨ArS, crS, rfl, hr, hb⟩; have rN6 := Aside0.mk (rN5.out.far hb); have rF6 := Aside0.mk (rF5.out.far hb); have rP6 := Aside0.mk (rP5.out.far hb); have rQ6 := Aside0.mk (rQ5.out.far hb); have rR6 := Aside0.mk (rR5.out.far hb); have rS6 := Aside0.mk hr; have Q6 := Aside0.mk (Q5.out.far hb); clear hr hb) | (go_at_call 15; with_reducible refine (RR.out _ Q4.out).mono ?_; rintro e w35 ⟨ArR, crR, rfl, hr, hb⟩; have rN5 := Aside0.mk (rN4.out.far hb); have rF5 := Aside0.mk (rF4.out.far hb); have rP5 := Aside0.mk (rP4.out.far hb); have rQ5 := Aside0.mk (rQ4.out.far hb); have rR5 := Aside0.mk hr; have Q5 := Aside0.mk (Q4.out.far hb); clear hr hb) | (go_at_call 15; with_reducible refine (RQ.out _ Q3.out).mono ?_; rintro e w34 ⟨ArQ, crQ, rfl, hr, hb⟩; have rN4 := Aside0.mk (rN3.out.far hb); have rF4 := Aside0.mk (rF3.out.far hb); have rP4 := Aside0.mk (rP3.out.far hb); have rQ4 := Aside0.mk hr; have Q4 := Aside0.mk (Q3.out.far hb); clear hr hb) | (go_at_call 15; with_reducible refine (RP.out _ Q2.out).mono ?_; rintro e w33 ⟨ArP, crP, rfl, hr, hb⟩; have rN3 := Aside0.mk (rN2.out.far hb); have rF3 := Aside0.mk (rF2.out.far hb); have rP3 := Aside0.mk hr; have Q3 := Aside0.mk (Q2.out.far hb); clear hr hb) | (go_at_call 24; with_reducible refine (RF.out _ Q1.out).mono ?_; rintro e w32 ⟨ArF, crF, rfl, hr, hb⟩; have rN2 := Aside0.mk (rN1.out.far hb); have rF2 := Aside0.mk hr; have Q2 := Aside0.mk (Q1.out.far hb); clear hr hb) | (go_at_call 15; with_reducible refine (RN.out _ Q0.out).mono ?_; rintro e w31 ⟨ArN, crN, rfl, hr, hb⟩; have rN1 := Aside0.mk hr; have Q1 := Aside0.mk (Q0.out.far hb); clear hr hb) | (go_at_call 23; with_reducible refine (LN.out _ Q0.out).mono ?_; rintro e wc ⟨rfl, hw⟩; replace hw := hw.symm; subst hw))
                go_roundg k2
                case measure => omega
                case rel => exact ⟨i + 1, kp, (by
                  have hw : wrap64 ((i : Int) + 1) = ((i + 1 : Nat) : Int) := by have := HI.out; have := HM.out; unfold wrap64; omega
                  first | rfl | (rw [← hw]; rfl) | (simp [*]; done)), (by
                  have hw : wrap64 ((kp : Int) + 1) = ((kp + 1 : Nat) : Int) := by have := HI.out; have := HM.out; have := hkpi.out; unfold wrap64; omega
                  first | rfl | (rw [← hw]; rfl) | (simp [*]; done)), ⟨by have := HI.out; omega⟩, HKP1, Q11⟩
              | false =>
                have SRN : Aside0 (∀ (A : Option Addr) (c : Nat) (A' : Option Addr) (c' : Nat) (w' : World), Rw w' A c lr → Rw w' A' c' ln → Calls Tryd.prog 16 #[.slice A lr.length c, .slice A' ln.length c'] w' fun e w'' => e = .returned (.bool true) ∧ Below w'.heap.size w' w'') := ⟨Sbv lr ln hlr true (e1)⟩
                have SRF : Aside0 (∀ (A : Option Addr) (c : Nat) (A' : Option Addr) (c' : Nat) (w' : World), Rw w' A c lr → Rw w' A' c' lf → Calls Tryd.prog 16 #[.slice A lr.length c, .slice A' lf.length c'] w' fun e w'' => e = .returned (.bool false) ∧ Below w'.heap.size w' w'') := ⟨Sbv lr lf hlr false (e2)⟩
                have HKP1 : Aside0 (chg s.firm F (i + 1) = kp + 1) := ⟨by rw [chg, HKP.out, hlR, hlF]; rw [if_neg (of_decide_eq_false e2)]⟩
                have hkpi : kp ≤ i := by have := chg_le s.firm F i; have := HKP.out; omega
                have hkpi := Aside0.mk hkpi
                clear e1 e2 hlN hlF hlR hln hlf hlr hi hor
                go_wp2_with (first | (go_at_call 16; with_reducible refine (SRF.out ArR crR ArF crF _ rR10.out rF10.out).mono ?_; rintro e w311 ⟨rfl, hb⟩; have rN11 := Aside0.mk (rN10.out.far hb); have rF11 := Aside0.mk (rF10.out.far hb); have rP11 := Aside0.mk (rP10.out.far hb); have rQ11 := Aside0.mk (rQ10.out.far hb); have rR11 := Aside0.mk (rR10.out.far hb); have rS11 := Aside0.mk (rS10.out.far hb); have Q11 := Aside0.mk (Q10.out.far hb); clear hb) | (go_at_call 16; with_reducible refine (SRN.out ArR crR ArN crN _ rR9.out rN9.out).mono ?_; rintro e w310 ⟨rfl, hb⟩; have rN10 := Aside0.mk (rN9.out.far hb); have rF10 := Aside0.mk (rF9.out.far hb); have rP10 := Aside0.mk (rP9.out.far hb); have rQ10 := Aside0.mk (rQ9.out.far hb); have rR10 := Aside0.mk (rR9.out.far hb); have rS10 := Aside0.mk (rS9.out.far hb); have Q10 := Aside0.mk (Q9.out.far hb); clear hb) | (go_at_call 16; with_reducible refine (SRS.out ArR crR ArS crS _ rR8.out rS8.out).mono ?_; rintro e w39 ⟨rfl, hb⟩; have rN9 := Aside0.mk (rN8.out.far hb); have rF9 := Aside0.mk (rF8.out.far hb); have rP9 := Aside0.mk (rP8.out.far hb); have rQ9 := Aside0.mk (rQ8.out.far hb); have rR9 := Aside0.mk (rR8.out.far hb); have rS9 := Aside0.mk (rS8.out.far hb); have Q9 := Aside0.mk (Q8.out.far hb); clear hb) | (go_at_call 16; with_reducible refine (SQF.out ArQ crQ ArF crF _ rQ7.out rF7.out).mono ?_; rintro e w38 ⟨rfl, hb⟩; have rN8 := Aside0.mk (rN7.out.far hb); have rF8 := Aside0.mk (rF7.out.far hb); have rP8 := Aside0.mk (rP7.out.far hb); have rQ8 := Aside0.mk (rQ7.out.far hb); have rR8 := Aside0.mk (rR7.out.far hb); have rS8 := Aside0.mk (rS7.out.far hb); have Q8 := Aside0.mk (Q7.out.far hb); clear hb) | (go_at_call 16; with_reducible refine (SPN.out ArP crP ArN crN _ rP6.out rN6.out).mono ?_; rintro e w37 ⟨rfl, hb⟩; have rN7 := Aside0.mk (rN6.out.far hb); have rF7 := Aside0.mk (rF6.out.far hb); have rP7 := Aside0.mk (rP6.out.far hb); have rQ7 := Aside0.mk (rQ6.out.far hb); have rR7 := Aside0.mk (rR6.out.far hb); have rS7 := Aside0.mk (rS6.out.far hb); have Q7 := Aside0.mk (Q6.out.far hb); clear hb) | (go_at_call 24; with_reducible refine (RS.out _ Q5.out).mono ?_; rintro e w36 ⟨ArS, crS, rfl, hr, hb⟩; have rN6 := Aside0.mk (rN5.out.far hb); have rF6 := Aside0.mk (rF5.out.far hb); have rP6 := Aside0.mk (rP5.out.far hb); have rQ6 := Aside0.mk (rQ5.out.far hb); have rR6 := Aside0.mk (rR5.out.far hb); have rS6 := Aside0.mk hr; have Q6 := Aside0.mk (Q5.out.far hb); clear hr hb) | (go_at_call 15; with_reducible refine (RR.out _ Q4.out).mono ?_; rintro e w35 ⟨ArR, crR, rfl, hr, hb⟩; have rN5 := Aside0.mk (rN4.out.far hb); have rF5 := Aside0.mk (rF4.out.far hb); have rP5 := Aside0.mk (rP4.out.far hb); have rQ5 := Aside0.mk (rQ4.out.far hb); have rR5 := Aside0.mk hr; have Q5 := Aside0.mk (Q4.out.far hb); clear hr hb) | (go_at_call 15; with_reducible refine (RQ.out _ Q3.out).mono ?_; rintro e w34 ⟨ArQ, crQ, rfl, hr, hb⟩; have rN4 := Aside0.mk (rN3.out.far hb); have rF4 := Aside0.mk (rF3.out.far hb); have rP4 := Aside0.mk (rP3.out.far hb); have rQ4 := Aside0.mk hr; have Q4 := Aside0.mk (Q3.out.far hb); clear hr hb) | (go_at_call 15; with_reducible refine (RP.out _ Q2.out).mono ?_; rintro e w33 ⟨ArP, crP, rfl, hr, hb⟩; have rN3 := Aside0.mk (rN2.out.far hb); have rF3 := Aside0.mk (rF2.out.far hb); have rP3 := Aside0.mk hr; have Q3 := Aside0.mk (Q2.out.far hb); clear hr hb) | (go_at_call 24; with_reducible refine (RF.out _ Q1.out).mono ?_; rintro e w32 ⟨ArF, crF, rfl, hr, hb⟩; have rN2 := Aside0.mk (rN1.out.far hb); have rF2 := Aside0.mk hr; have Q2 := Aside0.mk (Q1.out.far hb); clear hr hb) | (go_at_call 15; with_reducible refine (RN.out _ Q0.out).mono ?_; rintro e w31 ⟨ArN, crN, rfl, hr, hb⟩; have rN1 := Aside0.mk hr; have Q1 := Aside0.mk (Q0.out.far hb); clear hr hb) | (go_at_call 23; with_reducible refine (LN.out _ Q0.out).mono ?_; rintro e wc ⟨rfl, hw⟩; replace hw := hw.symm; subst hw))
                go_roundg k2
                case measure => omega
                case rel => exact ⟨i + 1, kp + 1, (by
                  have hw : wrap64 ((i : Int) + 1) = ((i + 1 : Nat) : Int) := by have := HI.out; have := HM.out; unfold wrap64; omega
                  first | rfl | (rw [← hw]; rfl) | (simp [*]; done)), (by
                  have hw : wrap64 ((kp : Int) + 1) = ((kp + 1 : Nat) : Int) := by have := HI.out; have := HM.out; have := hkpi.out; unfold wrap64; omega
                  first | rfl | (rw [← hw]; rfl) | (simp [*]; done)), ⟨by have := HI.out; omega⟩, HKP1, Q11⟩
            | false =>
              have e2 : decide (lr = lf) = true := decide_eq_true (hor.elim id fun h => absurd h (of_decide_eq_false e1))
              have SRN : Aside0 (∀ (A : Option Addr) (c : Nat) (A' : Option Addr) (c' : Nat) (w' : World), Rw w' A c lr → Rw w' A' c' ln → Calls Tryd.prog 16 #[.slice A lr.length c, .slice A' ln.length c'] w' fun e w'' => e = .returned (.bool false) ∧ Below w'.heap.size w' w'') := ⟨Sbv lr ln hlr false (e1)⟩
              have SRF : Aside0 (∀ (A : Option Addr) (c : Nat) (A' : Option Addr) (c' : Nat) (w' : World), Rw w' A c lr → Rw w' A' c' lf → Calls Tryd.prog 16 #[.slice A lr.length c, .slice A' lf.length c'] w' fun e w'' => e = .returned (.bool true) ∧ Below w'.heap.size w' w'') := ⟨Sbv lr lf hlr true (e2)⟩
              have HKP1 : Aside0 (chg s.firm F (i + 1) = kp) := ⟨by rw [chg, HKP.out, hlR, hlF]; rw [if_pos (of_decide_eq_true e2)]; rfl⟩
              have hkpi : kp ≤ i := by have := chg_le s.firm F i; have := HKP.out; omega
              have hkpi := Aside0.mk hkpi
              clear e1 e2 hlN hlF hlR hln hlf hlr hi hor
              go_wp2_with (first | (go_at_call 16; with_reducible refine (SRF.out ArR crR ArF crF _ rR11.out rF11.out).mono ?_; rintro e w312 ⟨rfl, hb⟩; have rN12 := Aside0.mk (rN11.out.far hb); have rF12 := Aside0.mk (rF11.out.far hb); have rP12 := Aside0.mk (rP11.out.far hb); have rQ12 := Aside0.mk (rQ11.out.far hb); have rR12 := Aside0.mk (rR11.out.far hb); have rS12 := Aside0.mk (rS11.out.far hb); have Q12 := Aside0.mk (Q11.out.far hb); clear hb) | (go_at_call 16; with_reducible refine (SRF.out ArR crR ArF crF _ rR10.out rF10.out).mono ?_; rintro e w311 ⟨rfl, hb⟩; have rN11 := Aside0.mk (rN10.out.far hb); have rF11 := Aside0.mk (rF10.out.far hb); have rP11 := Aside0.mk (rP10.out.far hb); have rQ11 := Aside0.mk (rQ10.out.far hb); have rR11 := Aside0.mk (rR10.out.far hb); have rS11 := Aside0.mk (rS10.out.far hb); have Q11 := Aside0.mk (Q10.out.far hb); clear hb) | (go_at_call 16; with_reducible refine (SRN.out ArR crR ArN crN _ rR9.out rN9.out).mono ?_; rintro e w310 ⟨rfl, hb⟩; have rN10 := Aside0.mk (rN9.out.far hb); have rF10 := Aside0.mk (rF9.out.far hb); have rP10 := Aside0.mk (rP9.out.far hb); have rQ10 := Aside0.mk (rQ9.out.far hb); have rR10 := Aside0.mk (rR9.out.far hb); have rS10 := Aside0.mk (rS9.out.far hb); have Q10 := Aside0.mk (Q9.out.far hb); clear hb) | (go_at_call 16; with_reducible refine (SRS.out ArR crR ArS crS _ rR8.out rS8.out).mono ?_; rintro e w39 ⟨rfl, hb⟩; have rN9 := Aside0.mk (rN8.out.far hb); have rF9 := Aside0.mk (rF8.out.far hb); have rP9 := Aside0.mk (rP8.out.far hb); have rQ9 := Aside0.mk (rQ8.out.far hb); have rR9 := Aside0.mk (rR8.out.far hb); have rS9 := Aside0.mk (rS8.out.far hb); have Q9 := Aside0.mk (Q8.out.far hb); clear hb) | (go_at_call 16; with_reducible refine (SQF.out ArQ crQ ArF crF _ rQ7.out rF7.out).mono ?_; rintro e w38 ⟨rfl, hb⟩; have rN8 := Aside0.mk (rN7.out.far hb); have rF8 := Aside0.mk (rF7.out.far hb); have rP8 := Aside0.mk (rP7.out.far hb); have rQ8 := Aside0.mk (rQ7.out.far hb); have rR8 := Aside0.mk (rR7.out.far hb); have rS8 := Aside0.mk (rS7.out.far hb); have Q8 := Aside0.mk (Q7.out.far hb); clear hb) | (go_at_call 16; with_reducible refine (SPN.out ArP crP ArN crN _ rP6.out rN6.out).mono ?_; rintro e w37 ⟨rfl, hb⟩; have rN7 := Aside0.mk (rN6.out.far hb); have rF7 := Aside0.mk (rF6.out.far hb); have rP7 := Aside0.mk (rP6.out.far hb); have rQ7 := Aside0.mk (rQ6.out.far hb); have rR7 := Aside0.mk (rR6.out.far hb); have rS7 := Aside0.mk (rS6.out.far hb); have Q7 := Aside0.mk (Q6.out.far hb); clear hb) | (go_at_call 24; with_reducible refine (RS.out _ Q5.out).mono ?_; rintro e w36 ⟨ArS, crS, rfl, hr, hb⟩; have rN6 := Aside0.mk (rN5.out.far hb); have rF6 := Aside0.mk (rF5.out.far hb); have rP6 := Aside0.mk (rP5.out.far hb); have rQ6 := Aside0.mk (rQ5.out.far hb); have rR6 := Aside0.mk (rR5.out.far hb); have rS6 := Aside0.mk hr; have Q6 := Aside0.mk (Q5.out.far hb); clear hr hb) | (go_at_call 15; with_reducible refine (RR.out _ Q4.out).mono ?_; rintro e w35 ⟨ArR, crR, rfl, hr, hb⟩; have rN5 := Aside0.mk (rN4.out.far hb); have rF5 := Aside0.mk (rF4.out.far hb); have rP5 := Aside0.mk (rP4.out.far hb); have rQ5 := Aside0.mk (rQ4.out.far hb); have rR5 := Aside0.mk hr; have Q5 := Aside0.mk (Q4.out.far hb); clear hr hb) | (go_at_call 15; with_reducible refine (RQ.out _ Q3.out).mono ?_; rintro e w34 ⟨ArQ, crQ, rfl, hr, hb⟩; have rN4 := Aside0.mk (rN3.out.far hb); have rF4 := Aside0.mk (rF3.out.far hb); have rP4 := Aside0.mk (rP3.out.far hb); have rQ4 := Aside0.mk hr; have Q4 := Aside0.mk (Q3.out.far hb); clear hr hb) | (go_at_call 15; with_reducible refine (RP.out _ Q2.out).mono ?_; rintro e w33 ⟨ArP, crP, rfl, hr, hb⟩; have rN3 := Aside0.mk (rN2.out.far hb); have rF3 := Aside0.mk (rF2.out.far hb); have rP3 := Aside0.mk hr; have Q3 := Aside0.mk (Q2.out.far hb); clear hr hb) | (go_at_call 24; with_reducible refine (RF.out _ Q1.out).mono ?_; rintro e w32 ⟨ArF, crF, rfl, hr, hb⟩; have rN2 := Aside0.mk (rN1.out.far hb); have rF2 := Aside0.mk hr; have Q2 := Aside0.mk (Q1.out.far hb); clear hr hb) | (go_at_call 15; with_reducible refine (RN.out _ Q0.out).mono ?_; rintro e w31 ⟨ArN, crN, rfl, hr, hb⟩; have rN1 := Aside0.mk hr; have Q1 := Aside0.mk (Q0.out.far hb); clear hr hb) | (go_at_call 23; with_reducible refine (LN.out _ Q0.out).mono ?_; rintro e wc ⟨rfl, hw⟩; replace hw := hw.symm; subst hw))
              go_roundg k2
              case measure => omega
              case rel => exact ⟨i + 1, kp, (by
                have hw : wrap64 ((i : Int) + 1) = ((i + 1 : Nat) : Int) := by have := HI.out; have := HM.out; unfold wrap64; omega
                first | rfl | (rw [← hw]; rfl) | (simp [*]; done)), (by
                have hw : wrap64 ((kp : Int) + 1) = ((kp + 1 : Nat) : Int) := by have := HI.out; have := HM.out; have := hkpi.out; unfold wrap64; omega
                first | rfl | (rw [← hw]; rfl) | (simp [*]; done)), ⟨by have := HI.out; omega⟩, HKP1, Q12⟩
        · have b1 : decide ((i : Int) < (m : Int)) = false := decide_eq_false (by omega)
          have hkz : kp ≤ z := by
            have h1 := HI.out
            obtain rfl : i = m := by omega
            have := HKP.out
            have := HCZ.out
            omega
          have z1 : decide ((kp : Int) ≤ (z : Int)) = true := decide_eq_true (by omega)
          have z2 : decide (kp ≤ z) = true := decide_eq_true hkz
          have DA : Aside0 (∀ w', Quad w w' o a b c s ⟨s.now, s.now, List.replicate m false⟩ ⟨s.firm, s.firm, List.replicate m false⟩ ⟨F, F, List.replicate m false⟩ → Calls Tryd.prog 13 #[.pointer (some ⟨a.g, 0, none⟩)] w' fun e w'' => ∃ A c, e = .returned (.slice A 0 c) ∧ Below w'.heap.size w' w'') := ⟨fun w' q => Di_none a s.now m w' q.a⟩
          have DB : Aside0 (∀ w', Quad w w' o a b c s ⟨s.now, s.now, List.replicate m false⟩ ⟨s.firm, s.firm, List.replicate m false⟩ ⟨F, F, List.replicate m false⟩ → Calls Tryd.prog 13 #[.pointer (some ⟨b.g, 0, none⟩)] w' fun e w'' => ∃ A c, e = .returned (.slice A 0 c) ∧ Below w'.heap.size w' w'') := ⟨fun w' q => Di_none b s.firm m w' q.b⟩
          have DC : Aside0 (∀ w', Quad w w' o a b c s ⟨s.now, s.now, List.replicate m false⟩ ⟨s.firm, s.firm, List.replicate m false⟩ ⟨F, F, List.replicate m false⟩ → Calls Tryd.prog 13 #[.pointer (some ⟨c.g, 0, none⟩)] w' fun e w'' => ∃ A c, e = .returned (.slice A 0 c) ∧ Below w'.heap.size w' w'') := ⟨fun w' q => Di_none c F m w' q.c⟩
          go_wp2_with (first | (go_at_call 8; with_reducible refine (Aw.calls _ (pw_cell_below Q3.out.bl HG.out)).mono ?_; rintro e w9 ⟨rfl, hb9⟩; have B9 := Aside0.mk (below_step Q3.out.bl hb9); clear hb9) | (go_at_call 13; with_reducible refine (DC.out _ Q2.out).mono ?_; rintro e w43 ⟨A7, c7, rfl, hb⟩; have Q3 := Aside0.mk (Q2.out.far hb); clear hb) | (go_at_call 13; with_reducible refine (DB.out _ Q1.out).mono ?_; rintro e w42 ⟨A6, c6, rfl, hb⟩; have Q2 := Aside0.mk (Q1.out.far hb); clear hb) | (go_at_call 13; with_reducible refine (DA.out _ Q0.out).mono ?_; rintro e w41 ⟨A5, c5, rfl, hb⟩; have Q1 := Aside0.mk (Q0.out.far hb); clear hb) | (go_at_call 23; with_reducible refine (LN.out _ Q0.out).mono ?_; rintro e wc ⟨rfl, hw⟩; replace hw := hw.symm; subst hw))
          go_ret
          exact ⟨rfl, B9.out⟩

theorem BK.calls (n : Int) (w : World) (hg : w.cell? ⟨0, 0, none⟩ = some (.iface 94 (.agg #[.pointer (some ⟨1, 28, none⟩)]))) (A1 : Option Addr) (c1 : Nat) (l1 : List S44) (hr1 : Kd.C k44 w A1 l1.length l1) (hc1 : l1.length ≤ c1) (A3 : Option Addr) (c3 : Nat) (l3 : List Bool) (hr3 : Kd.C Kd.bool w A3 l3.length l3) (hc3 : l3.length ≤ c3) : Calls Tryd.prog 7 #[.int .i64 n, .slice A1 l1.length c1, .slice A3 l3.length c3] w fun e w' => e = .returned (.bool true) ∧ Below w.heap.size w w' := by
  obtain ⟨k1, r1, h1⟩ := great_tells l1 20 (act_len hr1)
  cases r1 with
  | true => exact BKg1.calls n w hg A1 c1 l1 hr1 hc1 A3 c3 l3 hr3 hc3 k1 h1
  | false =>
    by_cases h40 : 40 < l3.length
    · exact BKg2.calls n w hg A1 c1 l1 hr1 hc1 A3 c3 l3 hr3 hc3 k1 h1 h40
    · obtain ⟨r, hr, hlow⟩ := low_ok n 10 (by decide) (by decide)
      exact BKok.calls n w hg A1 c1 l1 hr1 hc1 A3 c3 l3 hr3 hc3 k1 h1 h40 r hr hlow

end

/-! ### chatelainelaw23_BlockKeeps: function 7 -/
def chatelainelaw23_BlockKeeps.f (_ : Int) (_ : List S44) (_ : List Bool) : Option Bool := some true
theorem chatelainelaw23_BlockKeeps.calls (a0 : Int) (A1 : Option Addr) (c1 : Nat) (l1 : List S44) (A2 : Option Addr) (c2 : Nat) (l2 : List Bool) (r : Bool) (w : World) (hr1 : Kd.C k44 w A1 l1.length l1) (hc1 : l1.length ≤ c1) (hr2 : Kd.C Kd.bool w A2 l2.length l2) (hc2 : l2.length ≤ c2) (hg_ : w.cell? ⟨0, 0, none⟩ = some (.iface 94 (.agg #[.pointer (some ⟨1, 28, none⟩)]))) (h : chatelainelaw23_BlockKeeps.f a0 l1 l2 = some r) : Calls Tryd.prog 7 #[.int .i64 a0, .slice A1 l1.length c1, .slice A2 l2.length c2] w fun e w' => e = .returned (.bool r) ∧ Below w.heap.size w w' := by
  cases h
  exact BK.calls a0 w hg_ A1 c1 l1 hr1 hc1 A2 c2 l2 hr2 hc2


def chatelainelaw23_BlockKeeps.Q44 (x : S44) : Prop := ((Lit.int .i64 x.f0).wf = true) ∧ ((Lit.int .i64 x.f1).wf = true) ∧ ((Lit.int .u8 x.f2).wf = true) ∧ ((Lit.int .i64 x.f3).wf = true) ∧ (x.f4.length ≤ maxLen ∧ x.f4.length * 1 ≤ 140737488351232 ∧ ∀ y0_ ∈ x.f4, True)
theorem chatelainelaw23_BlockKeeps.opens44 : Opens Tryd.prog k44 chatelainelaw23_BlockKeeps.Q44 44 := Opens.iso (fun x : S44 => (x.f0, x.f1, x.f2, x.f3, x.f4)) (fun p => (⟨p.1, p.2.1, p.2.2.1, p.2.2.2.1, p.2.2.2.2⟩ : S44)) (fun _ => rfl) (Opens.struct Tryd.underlying44 (by kernel_rfl) (show OpensL Tryd.prog _ _ [3, 3, 5, 3, 23] from (OpensL.cons (Opens.int Tryd.underlying3) (OpensL.cons (Opens.int Tryd.underlying3) (OpensL.cons (Opens.int Tryd.underlying5) (OpensL.cons (Opens.int Tryd.underlying3) (OpensL.one (Opens.slice (d := Kd.bool) Tryd.underlying23 (by kernel_rfl) (B := 1) (by kernel_rfl) (Opens.bool Tryd.underlying4)))))))))
/-- THE ONE PURE STATEMENT of chatelainelaw23_BlockKeeps: yours. -/
def chatelainelaw23_BlockKeeps.Pure : Prop := ∀ (a0 : Int) (l1 : List (S44)) (l2 : List Bool), ((Lit.int .i64 a0).wf = true) → (l1.length ≤ maxLen ∧ l1.length * 56 ≤ 140737488351232 ∧ ∀ y0_ ∈ l1, chatelainelaw23_BlockKeeps.Q44 y0_) → (l2.length ≤ maxLen ∧ l2.length * 1 ≤ 140737488351232 ∧ ∀ y0_ ∈ l2, True) → chatelainelaw23_BlockKeeps.f a0 l1 l2 = some true
theorem chatelainelaw23_BlockKeeps.walk (P_ : chatelainelaw23_BlockKeeps.Pure) (a0 : Int) (A1 : Option Addr) (c1 : Nat) (l1 : List (S44)) (A2 : Option Addr) (c2 : Nat) (l2 : List Bool) (w : World) (hr1 : Kd.C k44 w A1 l1.length l1) (hc1 : l1.length ≤ c1) (hr2 : Kd.C Kd.bool w A2 l2.length l2) (hc2 : l2.length ≤ c2) (hg_ : w.cell? ⟨0, 0, none⟩ = some (.iface 94 (.agg #[.pointer (some ⟨1, 28, none⟩)]))) (hq0 : (Lit.int .i64 a0).wf = true) (hq1 : l1.length ≤ maxLen ∧ l1.length * 56 ≤ 140737488351232 ∧ ∀ y0_ ∈ l1, chatelainelaw23_BlockKeeps.Q44 y0_) (hq2 : l2.length ≤ maxLen ∧ l2.length * 1 ≤ 140737488351232 ∧ ∀ y0_ ∈ l2, True) :
    Calls Tryd.prog 7 #[.int .i64 a0, .slice A1 l1.length c1, .slice A2 l2.length c2] w fun e w' => e = .returned (.bool true) ∧ Below w.heap.size w w' := by
  have h := P_ a0 l1 l2 hq0 hq1 hq2
  refine (chatelainelaw23_BlockKeeps.calls a0 A1 c1 l1 A2 c2 l2 true w hr1 hc1 hr2 hc2 hg_ h).mono ?_
  rintro e w' ⟨rfl, hd⟩
  exact ⟨rfl, hd⟩

end Go.Proofs.YtagijaijjjaolaaDoor.PBL