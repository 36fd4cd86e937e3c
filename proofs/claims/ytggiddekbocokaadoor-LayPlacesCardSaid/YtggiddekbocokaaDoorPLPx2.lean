-- By a program of this session (wip/myprint.sh) out of the translation; Lean checks it.
import Derived.Test.YtggiddekbocokaaDoorPLPx0
namespace Go.Proofs.YtggiddekbocokaaDoor.PLP
open Go.RowKit Go.Proofs.YtggiddekbocokaaDoorW.PrintWords Go.Proofs.YtggiddekbocokaaDoorW.PrintLast Go.Proofs.YtggiddekbocokaaDoorW.PrintMore
attribute [local go_sem] max2_int min2_int max_two min_two max_three min_three max_four min_four   -- for this text's walks alone
set_option linter.unusedVariables false
set_option linter.unusedSimpArgs false

/-! ### lay_whole: function 28 -/
@[local go_sem] theorem own_store_func {P : Program} {w : World} {a : Addr} {m : Mode} (fn : Fn) (first captured : Array Value) : (store a (.func fn first captured) m).run P w = stored P w a (.func fn first captured) m := run_store P w a _ m rfl
/-- What closes over a bound. -/
def lay_odd (below x : Int) : Bool := decide (x < 0) || decide (x ≥ below)
set_option maxHeartbeats 8000000 in
set_option maxRecDepth 100000 in
theorem lay_odd.calls (x : Int) (b1 : Addr) (below : Int) (w : World) (hv : w.cell? b1 = some (.int .i64 below)) :
    Calls Tryd.prog 42 #[.int .i64 x, .pointer (some b1)] w fun e w' => e = .returned (.bool (lay_odd below x)) ∧ Below w.heap.size w w' := by
  have HB := Below.refl w.heap.size w
  by_cases c : x < 0
  · have c0 : decide (x < 0) = true := decide_eq_true c
    have e : lay_odd below x = true := by simp [lay_odd, c0]
    go_enter Tryd.func42, Tryd.ntmps42
    go_wp2
    go_ret
    exact ⟨by first | rfl | (rw [e]; rfl), HB⟩
  · have c0 : decide (x < 0) = false := decide_eq_false c
    have e : lay_odd below x = decide (x ≥ below) := by simp [lay_odd, c0]
    go_enter Tryd.func42, Tryd.ntmps42
    go_wp2
    go_ret
    exact ⟨by first | rfl | (rw [e]; rfl), HB⟩
set_option maxHeartbeats 8000000 in
set_option maxRecDepth 100000 in
theorem lay_idx.calls (A : Option Addr) (c : Nat) (l : List Int) (b1 : Addr) (below : Int) (w : World) (hr : Kd.C (Kd.int .i64) w A l.length l) (hc : l.length ≤ c) (hl : l.length < 9223372036854775807) (hv : w.cell? b1 = some (.int .i64 below)) :
    Calls Tryd.prog 58 #[.slice A l.length c, .func (.func 42) #[] #[.pointer (some b1)]] w fun e w' => (∃ i : Int, e = .returned (.int .i64 i) ∧ (decide (i ≥ 0) = l.any (lay_odd below))) ∧ Below w.heap.size w w' := by
  have HR := Aside0.mk hr
  have HV := Aside0.mk hv
  have HL := Aside0.mk hl
  clear hr hv hl
  have HB := Aside0.mk (Below.refl w.heap.size w)
  go_enter Tryd.func58, Tryd.ntmps58
  go_wp2
  go_loopg [8] l.length (fun kq v8 w' => ∃ (j : Nat), v8 = .int .i64 (j : Int) ∧ Aside0 (j + kq = l.length) ∧ Aside0 ((l.take j).any (lay_odd below) = false) ∧ Aside0 (Below w.heap.size w w'))
  case atStart => exact ⟨0, (by first | rfl | (simp; done) | (simp [*]; done)), ⟨by omega⟩, ⟨by simp⟩, HB⟩
  case round =>
    obtain ⟨j, rfl, HJ, HA, HB⟩ := hrel
    by_cases c3 : (j : Int) < (l.length : Int)
    · have c3b0 : decide ((j : Int) < (l.length : Int)) = true := decide_eq_true c3
      have c4b0 : decide (0 ≤ (j : Int)) = true := decide_eq_true (by omega)
      obtain ⟨ad, e, hx⟩ := Kd.at_int HR.out (j : Int) (by omega) c3
      cases e
      replace hx := (HB.out.cell (World.block_lt_of_cell? w _ hx)).trans hx
      rw [Int.toNat_natCast] at hx
      have hjl : j < l.length := by omega
      have hrd : rd l (j : Int) = l[j] := by
        unfold rd
        rw [Int.toNat_natCast, List.getD_eq_getElem?_getD, List.getElem?_eq_getElem hjl]
        rfl
      have htk : (l.take (j + 1)).any (lay_odd below) = ((l.take j).any (lay_odd below) || lay_odd below l[j]) := by
        rw [List.take_succ_eq_append_getElem hjl, List.any_append]; simp
      have h0 : (0 : Int) ≤ (j : Int) := by omega
      clear c3
      cases gk with
      | zero => have := HJ.out; omega
      | succ k1 =>
        cases hodd : lay_odd below l[j] with
        | true =>
          go_wp2_with (go_at_call 42; (with_reducible refine (lay_odd.calls l[j] _ below _ ?side1).mono ?_); (case side1 => exact pw_cell_below HB.out HV.out); rintro e w8 ⟨rfl, hb⟩; have HB2 := below_step HB.out hb; rw [hodd])
          go_ret
          exact ⟨⟨(j : Int), by first | rfl | (simp [*]; done), by
            have h2 : l[j] ∈ l := List.getElem_mem hjl
            rw [List.any_eq_true.mpr ⟨_, h2, hodd⟩]; simp⟩, HB2⟩
        | false =>
          go_wp2_with (go_at_call 42; (with_reducible refine (lay_odd.calls l[j] _ below _ ?side1).mono ?_); (case side1 => exact pw_cell_below HB.out HV.out); rintro e w8 ⟨rfl, hb⟩; have HB2 := below_step HB.out hb; rw [hodd])
          go_roundg k1
          case measure => omega
          case rel => exact ⟨j + 1, (by
            have hw : wrap64 ((j : Int) + 1) = ((j + 1 : Nat) : Int) := by have := HL.out; unfold wrap64; omega
            first | rfl | (rw [← hw]; rfl) | (simp [*]; done)), ⟨by have := HJ.out; omega⟩, ⟨by rw [htk, HA.out, hodd]; rfl⟩, ⟨HB2⟩⟩
    · have c3b0 : decide ((j : Int) < (l.length : Int)) = false := decide_eq_false c3
      have hall : l.any (lay_odd below) = false := by
        have h := HA.out
        rw [List.take_of_length_le (by omega)] at h
        exact h
      go_wp2
      go_ret
      exact ⟨⟨-1, by first | rfl | (simp [*]; done), by first | (rw [hall]; decide) | decide⟩, HB.out⟩
set_option maxHeartbeats 8000000 in
set_option maxRecDepth 100000 in
theorem lay_any.calls (A : Option Addr) (c : Nat) (l : List Int) (b1 : Addr) (below : Int) (w : World) (hr : Kd.C (Kd.int .i64) w A l.length l) (hc : l.length ≤ c) (hl : l.length < 9223372036854775807) (hv : w.cell? b1 = some (.int .i64 below)) :
    Calls Tryd.prog 45 #[.slice A l.length c, .func (.func 42) #[] #[.pointer (some b1)]] w fun e w' => e = .returned (.bool (l.any (lay_odd below))) ∧ Below w.heap.size w w' := by
  go_enter Tryd.func45, Tryd.ntmps45
  go_wp2_with (go_at_call 58; (with_reducible refine (lay_idx.calls A c l b1 below _ hr hc hl hv).mono ?_); rintro e w8 ⟨⟨i, rfl, hi⟩, hb⟩)
  go_ret
  exact ⟨by first | rfl | (rw [← hi]; rfl) | (simp [*]; done), hb⟩
/-- What closes over it: is a list another than one of 256 numbers within bounds? -/
def lay_bad (below : Int) (f : List Int) : Bool := decide (f.length ≠ 256) || f.any (lay_odd below)
set_option maxHeartbeats 8000000 in
set_option maxRecDepth 100000 in
theorem lay_bad.calls (A : Option Addr) (c : Nat) (l : List Int) (b1 b2 : Addr) (below : Int) (w : World) (hr : Kd.C (Kd.int .i64) w A l.length l) (hc : l.length ≤ c) (hv : w.cell? b1 = some (.int .i64 below)) (hv2 : w.cell? b2 = some (.func (.func 42) #[] #[.pointer (some b1)])) :
    Calls Tryd.prog 44 #[.slice A l.length c, .pointer (some b2)] w fun e w' => e = .returned (.bool (lay_bad below l)) ∧ Below w.heap.size w w' := by
  have HB := Below.refl w.heap.size w
  by_cases c1 : l.length = 256
  · have c0 : ((l.length : Int) != 256) = false := by rw [c1]; rfl
    have e : lay_bad below l = l.any (lay_odd below) := by simp [lay_bad, c1]
    have hl : l.length < 9223372036854775807 := by omega
    clear c1
    go_enter Tryd.func44, Tryd.ntmps44
    go_wp2_with (go_at_call 45; (with_reducible refine (lay_any.calls A c l b1 below _ hr hc hl hv).mono ?_); rintro e w8 ⟨rfl, hb⟩)
    go_ret
    exact ⟨by first | rfl | (rw [e]; rfl), hb⟩
  · have c0 : ((l.length : Int) != 256) = true := by rw [bne_iff_ne]; omega
    have e : lay_bad below l = true := by simp [lay_bad, c1]
    clear c1
    go_enter Tryd.func44, Tryd.ntmps44
    go_wp2
    go_ret
    exact ⟨by first | rfl | (rw [e]; rfl), HB⟩
theorem lay_row {w : World} {A : Option Addr} {n : Nat} {xs : List (List Int)} (h : Kd.C (Kd.slice 3 (Kd.int .i64)) w A n xs) (j : Nat) (h1 : j < xs.length) (hn : xs.length = n) : ∃ ad A0 c0, A = some ad ∧ w.cell? (ad.add j) = some (.slice A0 xs[j].length c0) ∧ xs[j].length ≤ c0 ∧ (Kd.int .i64).C w A0 xs[j].length xs[j] := by
  obtain ⟨ad, c, e, _, hK, hc0⟩ := Kd.C_get h ([] : List Int) (j : Int) (by omega) (by omega)
  have hg : xs.getD (j : Int).toNat [] = xs[j] := by rw [Int.toNat_natCast, List.getD_eq_getElem?_getD, List.getElem?_eq_getElem h1]; rfl
  have hc : ∀ i u, c[i]? = some u → w.cell? (ad.add (j * 1 + i)) = some u := hc0
  rw [hg] at hK
  obtain ⟨A0, c0, rfl, l0, g0⟩ := hK
  exact ⟨ad, A0, c0, e, by have hq := hc 0 _ rfl; rwa [Nat.mul_one, Nat.add_zero] at hq, l0, g0⟩
set_option maxHeartbeats 8000000 in
set_option maxRecDepth 100000 in
theorem lay_idx2.calls (A : Option Addr) (c : Nat) (l : List (List Int)) (b1 b2 : Addr) (below : Int) (w : World) (hr : Kd.C (Kd.slice 3 (Kd.int .i64)) w A l.length l) (hc : l.length ≤ c) (hl : l.length < 9223372036854775807) (hv : w.cell? b1 = some (.int .i64 below)) (hv2 : w.cell? b2 = some (.func (.func 42) #[] #[.pointer (some b1)])) :
    Calls Tryd.prog 57 #[.slice A l.length c, .func (.func 44) #[] #[.pointer (some b2)]] w fun e w' => (∃ i : Int, e = .returned (.int .i64 i) ∧ (decide (i ≥ 0) = l.any (lay_bad below))) ∧ Below w.heap.size w w' := by
  have HR := Aside0.mk hr
  have HV := Aside0.mk hv
  have HV2 := Aside0.mk hv2
  have HL := Aside0.mk hl
  clear hr hv hv2 hl
  have HB := Aside0.mk (Below.refl w.heap.size w)
  go_enter Tryd.func57, Tryd.ntmps57
  go_wp2
  go_loopg [8] l.length (fun kq v8 w' => ∃ (j : Nat), v8 = .int .i64 (j : Int) ∧ Aside0 (j + kq = l.length) ∧ Aside0 ((l.take j).any (lay_bad below) = false) ∧ Aside0 (Below w.heap.size w w'))
  case atStart => exact ⟨0, (by first | rfl | (simp; done) | (simp [*]; done)), ⟨by omega⟩, ⟨by simp⟩, HB⟩
  case round =>
    obtain ⟨j, rfl, HJ, HA, HB⟩ := hrel
    by_cases c3 : (j : Int) < (l.length : Int)
    · have c3b0 : decide ((j : Int) < (l.length : Int)) = true := decide_eq_true c3
      have c4b0 : decide (0 ≤ (j : Int)) = true := decide_eq_true (by omega)
      have hjl : j < l.length := by omega
      obtain ⟨ad, A0, c0, e, hx, hc0, hC⟩ := lay_row HR.out j hjl rfl
      cases e
      replace hx := (HB.out.cell (World.block_lt_of_cell? w _ hx)).trans hx
      have HC := Aside0.mk hC
      clear hC
      have htk : (l.take (j + 1)).any (lay_bad below) = ((l.take j).any (lay_bad below) || lay_bad below l[j]) := by
        rw [List.take_succ_eq_append_getElem hjl, List.any_append]; simp
      have h0 : (0 : Int) ≤ (j : Int) := by omega
      clear c3
      cases gk with
      | zero => have := HJ.out; omega
      | succ k1 =>
        cases hodd : lay_bad below l[j] with
        | true =>
          go_wp2_with (go_at_call 44; (with_reducible refine (lay_bad.calls _ _ l[j] b1 b2 below _ ?side0 hc0 ?side1 ?side2).mono ?_); (case side0 => exact Kd.C_below HC.out HB.out); (case side1 => exact pw_cell_below HB.out HV.out); (case side2 => exact pw_cell_below HB.out HV2.out); rintro e w8 ⟨rfl, hb⟩; have HB2 := below_step HB.out hb; rw [hodd])
          go_ret
          exact ⟨⟨(j : Int), by first | rfl | (simp [*]; done), by
            have h2 : l[j] ∈ l := List.getElem_mem hjl
            rw [List.any_eq_true.mpr ⟨_, h2, hodd⟩]; simp⟩, HB2⟩
        | false =>
          go_wp2_with (go_at_call 44; (with_reducible refine (lay_bad.calls _ _ l[j] b1 b2 below _ ?side0 hc0 ?side1 ?side2).mono ?_); (case side0 => exact Kd.C_below HC.out HB.out); (case side1 => exact pw_cell_below HB.out HV.out); (case side2 => exact pw_cell_below HB.out HV2.out); rintro e w8 ⟨rfl, hb⟩; have HB2 := below_step HB.out hb; rw [hodd])
          go_roundg k1
          case measure => omega
          case rel => exact ⟨j + 1, (by
            have hw : wrap64 ((j : Int) + 1) = ((j + 1 : Nat) : Int) := by have := HL.out; unfold wrap64; omega
            first | rfl | (rw [← hw]; rfl) | (simp [*]; done)), ⟨by have := HJ.out; omega⟩, ⟨by rw [htk, HA.out, hodd]; rfl⟩, ⟨HB2⟩⟩
    · have c3b0 : decide ((j : Int) < (l.length : Int)) = false := decide_eq_false c3
      have hall : l.any (lay_bad below) = false := by
        have h := HA.out
        rw [List.take_of_length_le (by omega)] at h
        exact h
      go_wp2
      go_ret
      exact ⟨⟨-1, by first | rfl | (simp [*]; done), by first | (rw [hall]; decide) | decide⟩, HB.out⟩
set_option maxHeartbeats 8000000 in
set_option maxRecDepth 100000 in
theorem lay_any2.calls (A : Option Addr) (c : Nat) (l : List (List Int)) (b1 b2 : Addr) (below : Int) (w : World) (hr : Kd.C (Kd.slice 3 (Kd.int .i64)) w A l.length l) (hc : l.length ≤ c) (hl : l.length < 9223372036854775807) (hv : w.cell? b1 = some (.int .i64 below)) (hv2 : w.cell? b2 = some (.func (.func 42) #[] #[.pointer (some b1)])) :
    Calls Tryd.prog 43 #[.slice A l.length c, .func (.func 44) #[] #[.pointer (some b2)]] w fun e w' => e = .returned (.bool (l.any (lay_bad below))) ∧ Below w.heap.size w w' := by
  go_enter Tryd.func43, Tryd.ntmps43
  go_wp2_with (go_at_call 57; (with_reducible refine (lay_idx2.calls A c l b1 b2 below _ hr hc hl hv hv2).mono ?_); rintro e w8 ⟨⟨i, rfl, hi⟩, hb⟩)
  go_ret
  exact ⟨by first | rfl | (rw [← hi]; rfl) | (simp [*]; done), hb⟩
def lay_whole.f (l0 : List (List Int)) (a1 a2 : Int) : Option Bool := if l0.length < 9223372036854775807 then some (decide ((l0.length : Int) = a1) && !l0.any (lay_bad a2)) else none
set_option maxHeartbeats 8000000 in
set_option maxRecDepth 100000 in
theorem lay_whole.calls (A0 : Option Addr) (c0 : Nat) (l0 : List (List Int)) (a1 : Int) (a2 : Int) (r : Bool) (w : World) (hr0 : Kd.C (Kd.slice 3 (Kd.int .i64)) w A0 l0.length l0) (hc0 : l0.length ≤ c0) (h : lay_whole.f l0 a1 a2 = some r) :
    Calls Tryd.prog 28 #[.slice A0 l0.length c0, .int .i64 a1, .int .i64 a2] w fun e w' => e = .returned (.bool r) ∧ Below w.heap.size w w' := by
  have hl : l0.length < 9223372036854775807 := by
    by_cases c : l0.length < 9223372036854775807
    · exact c
    · simp [lay_whole.f, c] at h
  obtain rfl : (decide ((l0.length : Int) = a1) && !l0.any (lay_bad a2)) = r := by simpa [lay_whole.f, hl] using h
  clear h
  have hs : (w.alloc (.cells #[.int .i64 a2] 3)).heap.size = w.heap.size + 1 := World.size_alloc ..
  have hg1 : ((w.alloc (.cells #[.int .i64 a2] 3)).alloc (.cells #[(.func (.func 42) #[] #[.pointer (some ⟨w.heap.size, 0, none⟩)])] 79)).heap[w.heap.size]? = some (.cells #[.int .i64 a2] 3 (0, 0)) := blk_alloc (blk_new _ _) _
  have hg2 : ((w.alloc (.cells #[.int .i64 a2] 3)).alloc (.cells #[(.func (.func 42) #[] #[.pointer (some ⟨w.heap.size, 0, none⟩)])] 79)).heap[w.heap.size + 1]? = some (.cells #[(.func (.func 42) #[] #[.pointer (some ⟨w.heap.size, 0, none⟩)])] 79 (0, 0)) := by rw [← hs]; exact blk_new _ _
  have HBB : Below w.heap.size w ((w.alloc (.cells #[.int .i64 a2] 3)).alloc (.cells #[(.func (.func 42) #[] #[.pointer (some ⟨w.heap.size, 0, none⟩)])] 79)) := below_alloc (below_alloc (Below.refl _ _) _) _
  have hv1 : ((w.alloc (.cells #[.int .i64 a2] 3)).alloc (.cells #[(.func (.func 42) #[] #[.pointer (some ⟨w.heap.size, 0, none⟩)])] 79)).cell? ⟨w.heap.size, 0, none⟩ = some (.int .i64 a2) := (blk_cell hg1 0).trans rfl
  have hv2 : ((w.alloc (.cells #[.int .i64 a2] 3)).alloc (.cells #[(.func (.func 42) #[] #[.pointer (some ⟨w.heap.size, 0, none⟩)])] 79)).cell? ⟨w.heap.size + 1, 0, none⟩ = some (.func (.func 42) #[] #[.pointer (some ⟨w.heap.size, 0, none⟩)]) := (blk_cell hg2 0).trans rfl
  by_cases c1 : (l0.length : Int) = a1
  · have c1b : ((l0.length : Int) == a1) = true := by rw [c1]; simp
    have e : (decide ((l0.length : Int) = a1) && !l0.any (lay_bad a2)) = !l0.any (lay_bad a2) := by rw [c1]; simp
    go_enter Tryd.func28, Tryd.ntmps28
    go_wp2_with (go_at_call 43; (with_reducible refine (lay_any2.calls A0 c0 l0 _ _ a2 _ (Kd.C_below hr0 HBB) hc0 hl hv1 hv2).mono ?_); rintro e w8 ⟨rfl, hb⟩)
    go_ret
    exact ⟨by first | rfl | (rw [e]; rfl), below_step HBB hb⟩
  · have c1b : ((l0.length : Int) == a1) = false := by simp [c1]
    have e : (decide ((l0.length : Int) = a1) && !l0.any (lay_bad a2)) = false := by simp [c1]
    go_enter Tryd.func28, Tryd.ntmps28
    go_wp2
    go_ret
    exact ⟨by first | rfl | (rw [e]; rfl), HBB⟩

-- NOT PRINTED: function 53 (slices_Grow_byte_byte)

end Go.Proofs.YtggiddekbocokaaDoor.PLP
