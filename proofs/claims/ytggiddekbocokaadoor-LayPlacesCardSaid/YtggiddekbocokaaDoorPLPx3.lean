-- By a program of this session (wip/myprint.sh) out of the translation; Lean checks it.
import Derived.Test.YtggiddekbocokaaDoorPLPx0
namespace Go.Proofs.YtggiddekbocokaaDoor.PLP
open Go.RowKit Go.Proofs.YtggiddekbocokaaDoorW.PrintWords Go.Proofs.YtggiddekbocokaaDoorW.PrintLast Go.Proofs.YtggiddekbocokaaDoorW.PrintMore
attribute [local go_sem] max2_int min2_int max_two min_two max_three min_three max_four min_four   -- for this text's walks alone
set_option linter.unusedVariables false
set_option linter.unusedSimpArgs false

/-! ### slices_Concat_byte_byte: function 33 -/
set_option maxHeartbeats 8000000 in
set_option maxRecDepth 100000 in
theorem concat_Grow.calls (n : Nat) (hn : n < 140737488355328) (w : World) :
    Calls Tryd.prog 53 #[.slice none 0 0, .int .i64 (n : Int)] w fun e w' => ∃ v : Value, e = .returned v ∧ Kd.R (Kd.int .u8) 5 w' w.heap.size (fun _ => True) v [] ∧ Below w.heap.size w w' := by
  have HB := Below.refl w.heap.size w
  by_cases c : n = 0
  · subst c
    go_enter Tryd.func53, Tryd.ntmps53
    go_wp2
    go_ret
    exact ⟨_, rfl, Kd.R_nil _ _ _ _ _, HB⟩
  · have c0 : decide ((n : Int) < 0) = false := decide_eq_false (by omega)
    have c1 : decide (0 < (n : Int)) = true := decide_eq_true (by omega)
    have c2 : decide (0 < n) = true := decide_eq_true (by omega)
    have e0 : wrap64 (n : Int) = (n : Int) := by unfold wrap64; omega
    go_enter Tryd.func53, Tryd.ntmps53
    go_wp2_with (at_builtin; refine Kd.R_append_zeros (Kd.int .u8) (w0 := w) w.heap.size rfl _ _ _ _ _ (.int .u8 0) 1 rfl Tryd.underlying30 Tryd.underlying3 (by kernel_rfl) rfl (by decide) (by decide) (.slice none 0 0) [] 0 (kx := .i64) (n : Int) (fun _ => True) rfl rfl rfl (fun _ _ => trivial) (Kd.R_nil _ _ _ _ _) (by omega) HB (Nat.le_refl _) (by simp; omega) ?_; intro v1 w1 ho1 hb1 hg1 hat1; obtain ⟨A1, C1, rfl⟩ := Kd.R_slice ho1)
    go_ret
    exact ⟨_, rfl, by simpa using Kd.R_take (m := 0) ho1 (Nat.zero_le _), hb1⟩
theorem concat_row {w : World} {A : Option Addr} {n : Nat} {xs : List (List Int)} (h : Kd.C (Kd.slice 5 (Kd.int .u8)) w A n xs) (j : Nat) (h1 : j < xs.length) (hn : xs.length = n) : ∃ ad A0 c0, A = some ad ∧ w.cell? (ad.add j) = some (.slice A0 xs[j].length c0) ∧ xs[j].length ≤ c0 ∧ (Kd.int .u8).C w A0 xs[j].length xs[j] := by
  obtain ⟨ad, c, e, _, hK, hc0⟩ := Kd.C_get h ([] : List Int) (j : Int) (by omega) (by omega)
  have hg : xs.getD (j : Int).toNat [] = xs[j] := by rw [Int.toNat_natCast, List.getD_eq_getElem?_getD, List.getElem?_eq_getElem h1]; rfl
  have hc : ∀ i u, c[i]? = some u → w.cell? (ad.add (j * 1 + i)) = some u := hc0
  rw [hg] at hK
  obtain ⟨A0, c0, rfl, l0, g0⟩ := hK
  exact ⟨ad, A0, c0, e, by have hq := hc 0 _ rfl; rwa [Nat.mul_one, Nat.add_zero] at hq, l0, g0⟩
/-- How long rows are together. -/
def concat_many (l : List (List Int)) : Nat := l.flatten.length
theorem concat_len (l : List (List Int)) (j : Nat) (h : j < l.length) : concat_many (l.take (j + 1)) = concat_many (l.take j) + l[j].length ∧ concat_many (l.take (j + 1)) ≤ concat_many l := by
  have e : l.take (j + 1) = l.take j ++ [l[j]] := List.take_succ_eq_append_getElem h
  unfold concat_many
  constructor
  · rw [e, List.flatten_append, List.length_append]; simp
  · conv => rhs; rw [← List.take_append_drop (j + 1) l, List.flatten_append, List.length_append]
    omega
def slices_Concat_byte_byte.f (l0 : List (List Int)) : Option (List Int) := if l0.length < 9223372036854775807 then (if l0.flatten.length < 140737488355328 then some l0.flatten else none) else none
set_option maxHeartbeats 8000000 in
set_option maxRecDepth 100000 in
theorem slices_Concat_byte_byte.calls (A0 : Option Addr) (c0 : Nat) (l0 : List (List Int)) (r : List Int) (w : World) (hr0 : Kd.C (Kd.slice 5 (Kd.int .u8)) w A0 l0.length l0) (hc0 : l0.length ≤ c0) (h : slices_Concat_byte_byte.f l0 = some r) :
    Calls Tryd.prog 33 #[.slice A0 l0.length c0] w fun e w' => ∃ v0_ : Value, e = .returned (v0_) ∧ Kd.R (Kd.int .u8) 5 w' w.heap.size (fun _ => True) v0_ r ∧ Below w.heap.size w w' := by
  have hl : l0.length < 9223372036854775807 := by
    by_cases c : l0.length < 9223372036854775807
    · exact c
    · simp [slices_Concat_byte_byte.f, c] at h
  have hf : l0.flatten.length < 140737488355328 := by
    by_cases c : l0.flatten.length < 140737488355328
    · exact c
    · unfold slices_Concat_byte_byte.f at h
      rw [if_pos hl, if_neg c] at h
      simp at h
  obtain rfl : l0.flatten = r := by
    unfold slices_Concat_byte_byte.f at h
    rw [if_pos hl, if_pos hf] at h
    exact Option.some.inj h
  clear h
  have HR := Aside0.mk hr0
  have HL := Aside0.mk hl
  have HF : Aside0 (concat_many l0 < 140737488355328) := ⟨hf⟩
  clear hr0 hl hf
  have HB := Aside0.mk (Below.refl w.heap.size w)
  go_enter Tryd.func33, Tryd.ntmps33
  go_wp2
  go_loopg [3, 11] l0.length (fun kq v3 v11 w' => ∃ (j : Nat), v11 = .int .i64 (j : Int) ∧ v3 = .int .i64 (concat_many (l0.take j) : Int) ∧ Aside0 (j + kq = l0.length) ∧ Aside0 (Below w.heap.size w w'))
  case atStart => exact ⟨0, (by first | rfl | (simp; done) | (simp [*]; done)), (by first | rfl | (simp; done) | (simp [*]; done)), ⟨by omega⟩, HB⟩
  case round =>
    obtain ⟨j, rfl, rfl, HJ, HB⟩ := hrel
    by_cases c3 : (j : Int) < (l0.length : Int)
    · have c3b0 : decide ((j : Int) < (l0.length : Int)) = true := decide_eq_true c3
      have hjl : j < l0.length := by omega
      obtain ⟨ad, A1, c1, e, hx, hc1, _⟩ := concat_row HR.out j hjl rfl
      cases e
      replace hx := (HB.out.cell (World.block_lt_of_cell? w _ hx)).trans hx
      obtain ⟨hlen1, hlen2⟩ := concat_len l0 j hjl
      have hw : wrap64 ((concat_many (l0.take j) : Int) + (l0[j].length : Int)) = (concat_many (l0.take (j + 1)) : Int) := by have := HF.out; unfold wrap64; omega
      have hw0 : decide ((concat_many (l0.take (j + 1)) : Int) < 0) = false := decide_eq_false (by omega)
      have HE := Aside0.mk hlen1
      clear hlen1 hlen2
      have h0 : (0 : Int) ≤ (j : Int) := by omega
      clear c3
      cases gk with
      | zero => have := HJ.out; omega
      | succ k1 =>
        go_wp2
        go_roundg k1
        case measure => omega
        case rel => exact ⟨j + 1, (by
            have hw : wrap64 ((j : Int) + 1) = ((j + 1 : Nat) : Int) := by have := HL.out; unfold wrap64; omega
            first | rfl | (rw [← hw]; rfl) | (simp [*]; done)), (by first | rfl | (simp; done) | (simp [*]; done)), ⟨by have := HJ.out; omega⟩, HB⟩
    · have c3b0 : decide ((j : Int) < (l0.length : Int)) = false := decide_eq_false c3
      have hj : l0.take j = l0 := List.take_of_length_le (by omega)
      rw [hj]
      go_wp2_with (go_at_call 53; (with_reducible refine (concat_Grow.calls (concat_many l0) HF.out _).mono ?_); rintro e w8 ⟨v8, rfl, ho8, hb⟩; have HO8 := Aside0.mk (Kd.R_lower ho8 HB.out.size); have HB2 := Aside0.mk (below_step HB.out hb))
      go_loopg [6, 27] l0.length (fun kq v6 v27 w' => ∃ (j : Nat), v27 = .int .i64 (j : Int) ∧ Aside0 (Kd.R (Kd.int .u8) 5 w' w.heap.size (fun _ => True) v6 (l0.take j).flatten) ∧ Aside0 (j + kq = l0.length) ∧ Aside0 (Below w.heap.size w w'))
      case atStart => exact ⟨0, (by first | rfl | (simp; done) | (simp [*]; done)), HO8, ⟨by omega⟩, HB2⟩
      case round =>
        obtain ⟨j, rfl, HO, HJ, HB⟩ := hrel
        by_cases c3 : (j : Int) < (l0.length : Int)
        · have c3b0 : decide ((j : Int) < (l0.length : Int)) = true := decide_eq_true c3
          have hjl : j < l0.length := by omega
          obtain ⟨ad, A1, c1, e, hx, hc1, hC⟩ := concat_row HR.out j hjl rfl
          cases e
          replace hx := (HB.out.cell (World.block_lt_of_cell? w _ hx)).trans hx
          have HC := Aside0.mk (Kd.C_below hC HB.out)
          clear hC
          have HE := Aside0.mk (concat_len l0 j hjl)
          have htk : (l0.take (j + 1)).flatten = (l0.take j).flatten ++ l0[j] := by rw [List.take_succ_eq_append_getElem hjl, List.flatten_append]; simp
          have HT := Aside0.mk htk
          clear htk
          have h0 : (0 : Int) ≤ (j : Int) := by omega
          clear c3
          cases gk with
          | zero => have := HJ.out; omega
          | succ k1 =>
            obtain ⟨A6, C6, rfl⟩ := Kd.R_slice HO.out
            go_wp2_with (at_builtin; refine Kd.R_append_row (fun x => .int .u8 x) (0 : Int) (h1 := fun _ => rfl) (w0 := w) w.heap.size rfl _ _ _ _ (.int .u8 0) 1 rfl Tryd.underlying30 (by kernel_rfl) rfl (by decide) _ (l0.take j).flatten l0[j] A1 _ c1 (fun _ => True) rfl rfl (fun _ _ => trivial) HO.out HC.out HB.out HB.out.size (by have := HF.out; have := HE.out.1; have := HE.out.2; unfold concat_many at *; omega) ?_; intro v1 w1 ho1 hb1 hg1 hat1; have HO1 := Aside0.mk ho1; rw [← HT.out] at HO1; clear ho1)
            go_roundg k1
            case measure => omega
            case rel => exact ⟨j + 1, (by
                have hw : wrap64 ((j : Int) + 1) = ((j + 1 : Nat) : Int) := by have := HL.out; unfold wrap64; omega
                first | rfl | (rw [← hw]; rfl) | (simp [*]; done)), HO1, ⟨by have := HJ.out; omega⟩, ⟨hb1⟩⟩
        · have c3b0 : decide ((j : Int) < (l0.length : Int)) = false := decide_eq_false c3
          have hj : l0.take j = l0 := List.take_of_length_le (by omega)
          rw [hj] at HO
          go_wp2
          go_ret
          exact ⟨_, rfl, HO.out, HB.out⟩

end Go.Proofs.YtggiddekbocokaaDoor.PLP
