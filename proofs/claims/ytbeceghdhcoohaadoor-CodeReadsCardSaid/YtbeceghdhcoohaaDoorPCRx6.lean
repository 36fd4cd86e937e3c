-- By a program of this session (wip/myprint.sh) out of the translation; Lean checks it.
import Derived.Test.YtbeceghdhcoohaaDoorPCRx0
import Derived.Test.YtbeceghdhcoohaaDoorPCRx1
import Derived.Test.YtbeceghdhcoohaaDoorPCRx3
import Derived.Test.YtbeceghdhcoohaaDoorPCRx4
import Derived.Test.YtbeceghdhcoohaaDoorPCRx5
namespace Go.Proofs.YtbeceghdhcoohaaDoor.PCR
open Go.RowKit Go.Proofs.YtbeceghdhcoohaaDoorW.PrintWords Go.Proofs.YtbeceghdhcoohaaDoorW.PrintLast Go.Proofs.YtbeceghdhcoohaaDoorW.PrintMore
attribute [local go_sem] max2_int min2_int max_two min_two max_three min_three max_four min_four   -- for this text's walks alone
set_option linter.unusedVariables false
set_option linter.unusedSimpArgs false

/-! ### chatelainelaw14_CodeReads: function 6 -/
/-- A reader at block g: what is left, and whether something was wrong. -/
def Rd_Is (w : World) (g : Nat) (A : Option Addr) (l : List Int) (bad : Bool) : Prop :=
  ∃ c, w.heap[g]? = some (.cells #[.slice A l.length c, .bool bad] 55 (0, 0)) ∧ l.length ≤ c ∧ Kd.C (Kd.int .u8) w A l.length l ∧ ∀ ad, A = some ad → ad.block ≠ g
/-- What a reader's call leaves as it was: all but the reader. -/
structure Rd_Keep (g : Nat) (w w' : World) : Prop where
  size : w'.heap.size = w.heap.size
  far : ∀ k, k ≠ g → w'.heap[k]? = w.heap[k]?
  below : ∀ B w0, B ≤ g → Below B w0 w → Below B w0 w'
theorem Rd_Keep.refl (g : Nat) (w : World) : Rd_Keep g w w := ⟨rfl, fun _ _ => rfl, fun _ _ _ h => h⟩
theorem Rd_Keep.trans {g : Nat} {a b c : World} (h : Rd_Keep g a b) (k : Rd_Keep g b c) : Rd_Keep g a c := ⟨k.size.trans h.size, fun j hj => (k.far j hj).trans (h.far j hj), fun B w0 hB hb => k.below B w0 hB (h.below B w0 hB hb)⟩
theorem Rd_Keep.set (g i : Nat) (w : World) (v : Value) : Rd_Keep g w (w.setCell ⟨g, i, none⟩ v) := ⟨by simp, fun k hk => Below.heap_setCell w _ v k hk, fun B w0 hB hb => hb.setCell hB _⟩
/-- A row that lies elsewhere stays. -/
theorem Rd_far {g : Nat} {w w' : World} {A : Option Addr} {l : List Int} (h : Rd_Keep g w w') (hC : Kd.C (Kd.int .u8) w A l.length l) (hA : ∀ ad, A = some ad → ad.block ≠ g) : Kd.C (Kd.int .u8) w' A l.length l := by
  obtain ⟨h1, h2, h3⟩ := Kd.reads_of_C (d := (0 : Int)) hC
  refine Kd.C_of_reads (d := (0 : Int)) ⟨h1, h2, fun hn => ?_⟩
  obtain ⟨ad, e, hc⟩ := h3 hn
  refine ⟨ad, e, fun j hj => ?_⟩
  rw [← hc j hj]
  have hb : (ad.add j).block = ad.block := by unfold Addr.add; split <;> rfl
  unfold World.cell?
  rw [hb, h.far _ (hA ad e)]
set_option maxHeartbeats 8000000 in
set_option maxRecDepth 100000 in
theorem Rd_Number_bad.calls (g : Nat) (A : Option Addr) (l : List Int) (lo hi : Int) (w : World) (hr : Rd_Is w g A l true) :
    Calls Tryd.prog 20 #[.pointer (some ⟨g, 0, none⟩), .int .i64 lo, .int .i64 hi] w fun e w' => e = .returned (.int .i64 0) ∧ Rd_Is w' g A l true ∧ Rd_Keep g w w' := by
  obtain ⟨c, hg, hc, hC, hA⟩ := hr
  have f0 : w.cell? ⟨g, 0, none⟩ = some (.slice A l.length c) := (blk_cell hg 0).trans rfl
  have z0 := blk_frozen hg 0
  have z1 := blk_frozen hg 1
  have f1 : w.cell? ⟨g, 1, none⟩ = some (.bool true) := (blk_cell hg 1).trans rfl
  go_enter Tryd.func20, Tryd.ntmps20
  go_wp2_with (go_in)
  go_ret
  exact ⟨rfl, ⟨c, blk_put hg 1 _ rfl, hc, Rd_far (Rd_Keep.set g 1 w _) hC hA, hA⟩, Rd_Keep.set g 1 w _⟩
set_option maxHeartbeats 8000000 in
set_option maxRecDepth 100000 in
theorem Rd_Number_short.calls (g : Nat) (A : Option Addr) (l : List Int) (lo hi : Int) (w : World) (hr : Rd_Is w g A l false) (hl : l.length < 8) :
    Calls Tryd.prog 20 #[.pointer (some ⟨g, 0, none⟩), .int .i64 lo, .int .i64 hi] w fun e w' => e = .returned (.int .i64 0) ∧ Rd_Is w' g A l true ∧ Rd_Keep g w w' := by
  obtain ⟨c, hg, hc, hC, hA⟩ := hr
  have f0 : w.cell? ⟨g, 0, none⟩ = some (.slice A l.length c) := (blk_cell hg 0).trans rfl
  have z0 := blk_frozen hg 0
  have z1 := blk_frozen hg 1
  have f1 : w.cell? ⟨g, 1, none⟩ = some (.bool false) := (blk_cell hg 1).trans rfl
  have c1 : decide (8 > (l.length : Int)) = true := decide_eq_true (by omega)
  have c2 : decide ((l.length : Int) < 8) = true := decide_eq_true (by omega)
  have c3 : decide (l.length < 8) = true := decide_eq_true (by omega)
  go_enter Tryd.func20, Tryd.ntmps20
  go_wp2_with (go_in)
  go_ret
  exact ⟨rfl, ⟨c, blk_put hg 1 _ rfl, hc, Rd_far (Rd_Keep.set g 1 w _) hC hA, hA⟩, Rd_Keep.set g 1 w _⟩
/-- What bytes are as one number, the highest first. -/
def Rd_val : List Int → Int
  | [] => 0
  | x :: r => x * 256 ^ r.length + Rd_val r
theorem Rd_val_snoc : ∀ (a : List Int) (x : Int), Rd_val (a ++ [x]) = Rd_val a * 256 + x
  | [], x => by simp [Rd_val]
  | y :: r, x => by
    rw [List.cons_append, Rd_val, Rd_val, Rd_val_snoc r x, List.length_append, List.length_cons, List.length_nil, Nat.zero_add, Int.pow_succ, Int.add_mul, Int.mul_assoc]
    omega
theorem Rd_val_lt : ∀ (l : List Int), (∀ x ∈ l, 0 ≤ x ∧ x < 256) → 0 ≤ Rd_val l ∧ Rd_val l < 256 ^ l.length
  | [], _ => by simp [Rd_val]
  | x :: r, h => by
    obtain ⟨h1, h2⟩ := Rd_val_lt r (fun y hy => h y (List.mem_cons_of_mem _ hy))
    obtain ⟨h3, h4⟩ := h x (List.mem_cons_self ..)
    have hp : (0 : Int) < 256 ^ r.length := Int.pow_pos (by omega)
    have h5 : 0 ≤ x * 256 ^ r.length := Int.mul_nonneg h3 (by omega)
    have h6 : (x + 1) * 256 ^ r.length ≤ 256 * 256 ^ r.length := Int.mul_le_mul_of_nonneg_right (by omega) (by omega)
    rw [Int.add_mul, Int.one_mul] at h6
    simp only [Rd_val, List.length_cons, Int.pow_succ]
    rw [Int.mul_comm (256 ^ r.length) 256]
    generalize x * 256 ^ r.length = a at *
    generalize 256 * 256 ^ r.length = b at *
    generalize (256 : Int) ^ r.length = c at *
    omega
theorem Rd_or (a x : Int) (h0 : 0 ≤ a) (h1 : a < 72057594037927936) (h2 : 0 ≤ x) (h3 : x < 256) : bits .or .u64 (IntKind.u64.wrap (a * 256)) (IntKind.u64.wrap x) = a * 256 + x := by
  have hw : ∀ n : Int, IntKind.u64.wrap n = n % 18446744073709551616 := fun n => by simp [IntKind.wrap, IntKind.bits, IntKind.signed]
  obtain ⟨m, rfl⟩ := Int.eq_ofNat_of_zero_le h0
  obtain ⟨y, rfl⟩ := Int.eq_ofNat_of_zero_le h2
  have e1 : IntKind.u64.wrap ((m : Int) * 256) = ((2 ^ 8 * m : Nat) : Int) := by rw [hw]; omega
  have e2 : IntKind.u64.wrap (y : Int) = (y : Int) := by rw [hw]; omega
  rw [e1, e2, (bits_nat .u64 64 (by decide) (fun n k0 k1 => by rw [hw]; exact Int.emod_eq_of_lt k0 k1) (2 ^ 8 * m) y (by omega) (by omega)).2, ← Nat.two_pow_add_eq_or_of_lt (by omega : y < 2 ^ 8) m]
  omega
theorem Rd_step (l : List Int) (hb : ∀ x ∈ l, 0 ≤ x ∧ x < 256) (j : Nat) (hj : j < 8) (hl : j < l.length) : bits .or .u64 (IntKind.u64.wrap (Rd_val (l.take j) * 256)) (IntKind.u64.wrap l[j]) = Rd_val (l.take (j + 1)) := by
  obtain ⟨h1, h2⟩ := Rd_val_lt (l.take j) (fun x hx => hb x (List.mem_of_mem_take hx))
  have hlen : (l.take j).length = j := by rw [List.length_take]; omega
  have h3 : (256 : Int) ^ (l.take j).length ≤ 256 ^ 7 := by
    rw [hlen]
    rcases (by omega : j = 0 ∨ j = 1 ∨ j = 2 ∨ j = 3 ∨ j = 4 ∨ j = 5 ∨ j = 6 ∨ j = 7) with rfl | rfl | rfl | rfl | rfl | rfl | rfl | rfl <;> decide
  have h4 : (256 : Int) ^ 7 = 72057594037927936 := by decide
  obtain ⟨h5, h6⟩ := hb l[j] (List.getElem_mem hl)
  rw [Rd_or _ _ h1 (by omega) h5 h6, List.take_succ_eq_append_getElem hl, Rd_val_snoc]
theorem Rd_add (ad : Addr) (n j : Nat) : (ad.add n).add j = ad.add (n + j) := by
  unfold Addr.add
  by_cases h1 : n = 0
  · subst h1; simp
  · by_cases h2 : j = 0
    · subst h2; simp [h1]
    · simp [h1, h2, Nat.add_assoc]
/-- What is left behind so many. -/
theorem Rd_drop {w : World} {ad : Addr} {l : List Int} (n : Nat) (hn : n ≤ l.length) (h : Kd.C (Kd.int .u8) w (some ad) l.length l) : Kd.C (Kd.int .u8) w (some (ad.add n)) (l.drop n).length (l.drop n) := by
  obtain ⟨h1, h2, h3⟩ := Kd.reads_of_C (d := (0 : Int)) h
  refine Kd.C_of_reads (d := (0 : Int)) ⟨rfl, by rw [List.length_drop]; omega, fun hn2 => ⟨_, rfl, fun j hj => ?_⟩⟩
  obtain ⟨ad2, e, hc⟩ := h3 (by rw [List.length_drop] at hn2; omega)
  obtain rfl := Option.some.inj e
  have hj2 : n + j < l.length := by rw [List.length_drop] at hj; omega
  rw [Rd_add, hc _ hj2]
  simp [List.getD_eq_getElem?_getD]
theorem Kd.C_any0 (w : World) (A : Option Addr) : Kd.C (Kd.int .u8) w A ([] : List Int).length [] := Kd.C_of_reads (d := (0 : Int)) ⟨rfl, by decide, fun h => absurd h (by decide)⟩
set_option maxHeartbeats 8000000 in
set_option maxRecDepth 100000 in
theorem Rd_Number_in.calls (g : Nat) (A : Option Addr) (l : List Int) (lo hi : Int) (w : World) (hr : Rd_Is w g A l false) (hl : 8 ≤ l.length) (hb : ∀ x ∈ l, 0 ≤ x ∧ x < 256) (h1 : lo ≤ wrap64 (Rd_val (l.take 8))) (h2 : wrap64 (Rd_val (l.take 8)) ≤ hi) :
    Calls Tryd.prog 20 #[.pointer (some ⟨g, 0, none⟩), .int .i64 lo, .int .i64 hi] w fun e w' => e = .returned (.int .i64 (wrap64 (Rd_val (l.take 8)))) ∧ (∃ A', Rd_Is w' g A' (l.drop 8) false ∧ (l.length = 8 ∧ A' = A ∨ ∃ ad, A = some ad ∧ A' = some ⟨ad.block, ad.off + 8, none⟩)) ∧ Rd_Keep g w w' := by
  obtain ⟨c, hg, hc, hC, hA⟩ := hr
  have f0 : w.cell? ⟨g, 0, none⟩ = some (.slice A l.length c) := (blk_cell hg 0).trans rfl
  have z0 := blk_frozen hg 0
  have z1 := blk_frozen hg 1
  have f1 : w.cell? ⟨g, 1, none⟩ = some (.bool false) := (blk_cell hg 1).trans rfl
  have c1 : decide (8 > (l.length : Int)) = false := decide_eq_false (by omega)
  have c2 : decide ((l.length : Int) < 8) = false := decide_eq_false (by omega)
  have c3 : decide (l.length < 8) = false := decide_eq_false (by omega)
  have d1 : decide (wrap64 (Rd_val (l.take 8)) < lo) = false := decide_eq_false (by omega)
  have d2 : decide (hi < wrap64 (Rd_val (l.take 8))) = false := decide_eq_false (by omega)
  have hc8 : 8 ≤ c := by omega
  obtain ⟨_, _, h3⟩ := Kd.reads_of_C (d := (0 : Int)) hC
  obtain ⟨ad, rfl, hcell⟩ := h3 (by omega)
  have hdl : (l.drop 8).length = l.length - 8 := List.length_drop
  have hcellV : ∀ (v : Value) (j : Nat) (hj : j < 8), (w.setCell ⟨g, 0, none⟩ v).cell? (ad.add j) = some (.int .u8 (l[j]'(by omega))) := fun v j hj => by
    have h4 := (Kd.reads_of_C (d := (0 : Int)) (Rd_far (Rd_Keep.set g 0 w v) hC hA)).2.2 (by omega)
    obtain ⟨ad2, e, h5⟩ := h4
    obtain rfl := Option.some.inj e
    rw [h5 j (by omega), List.getD_eq_getElem?_getD, List.getElem?_eq_getElem (by omega)]
    rfl
  go_enter Tryd.func20, Tryd.ntmps20
  go_wp2_with (go_in)
  · rename_i hc0
    have hz : l.length - 8 = 0 := by omega
    have HL8 : Aside0 (l.length = 8) := ⟨by omega⟩
    rw [hz]
    have hcell2 : ∀ j (hj : j < 8), (w.setCell ⟨g, 0, none⟩ (.slice (some ad) 0 0)).cell? (ad.add j) = some (.int .u8 (l[j]'(by omega))) := fun j hj => hcellV _ j hj
    have hgW := blk_put hg 0 (.slice (some ad) 0 0) rfl
    have y1 := blk_frozen hgW 1
    have x1 : (w.setCell ⟨g, 0, none⟩ (.slice (some ad) 0 0)).cell? ⟨g, 1, none⟩ = some (.bool false) := (blk_cell hgW 1).trans rfl
    go_loopg [8, 19] 8 (fun kq v8 v19 w' => ∃ (j : Nat), v19 = .int .i64 (j : Int) ∧ v8 = .int .u64 (Rd_val (l.take j)) ∧ Aside0 (j + kq = 8) ∧ w' = w.setCell ⟨g, 0, none⟩ (.slice (some ad) 0 0))
    case atStart => exact ⟨0, (by first | rfl | (simp; done)), (by first | rfl | (simp [Rd_val]; done)), ⟨rfl⟩, rfl⟩
    case round =>
      obtain ⟨j, rfl, rfl, HJ, rfl⟩ := hrel
      by_cases c5 : j < 8
      · have c5b0 : decide ((j : Int) < 8) = true := decide_eq_true (by omega)
        have hj0 : (0 : Int) ≤ (j : Int) := by omega
        have hj1 : (j : Int) < 8 := by omega
        have hx := hcell2 j c5
        cases gk with
        | zero => have := HJ.out; omega
        | succ k1 =>
          go_wp2
          go_roundg k1
          case measure => omega
          case rel => exact ⟨j + 1, (by
              have hw : wrap64 ((j : Int) + 1) = ((j + 1 : Nat) : Int) := by unfold wrap64; omega
              first | rfl | (rw [← hw]; rfl) | (simp [*]; done)), congrArg (Value.int .u64) (Rd_step l hb j c5 (by omega)), ⟨by have := HJ.out; omega⟩, rfl⟩
      · have c5b0 : decide ((j : Int) < 8) = false := decide_eq_false (by omega)
        obtain rfl : j = 8 := by have := HJ.out; omega
        go_wp2
        go_ret
        exact ⟨rfl, ⟨_, ⟨0, by rw [hdl, hz]; exact hgW, by omega, (by rw [List.length_eq_zero_iff.mp (show (l.drop 8).length = 0 by omega)]; exact Kd.C_any0 _ _), hA⟩, .inl ⟨HL8.out, rfl⟩⟩, Rd_Keep.set g 0 w _⟩
  · rename_i hc0
    have hcell2 : ∀ j (hj : j < 8), (w.setCell ⟨g, 0, none⟩ (.slice (some ⟨ad.block, ad.off + 8, none⟩) (l.length - 8) (c - 8))).cell? (ad.add j) = some (.int .u8 (l[j]'(by omega))) := fun j hj => hcellV _ j hj
    have hgW := blk_put hg 0 (.slice (some ⟨ad.block, ad.off + 8, none⟩) (l.length - 8) (c - 8)) rfl
    have y1 := blk_frozen hgW 1
    have x1 : (w.setCell ⟨g, 0, none⟩ (.slice (some ⟨ad.block, ad.off + 8, none⟩) (l.length - 8) (c - 8))).cell? ⟨g, 1, none⟩ = some (.bool false) := (blk_cell hgW 1).trans rfl
    go_loopg [8, 19] 8 (fun kq v8 v19 w' => ∃ (j : Nat), v19 = .int .i64 (j : Int) ∧ v8 = .int .u64 (Rd_val (l.take j)) ∧ Aside0 (j + kq = 8) ∧ w' = w.setCell ⟨g, 0, none⟩ (.slice (some ⟨ad.block, ad.off + 8, none⟩) (l.length - 8) (c - 8)))
    case atStart => exact ⟨0, (by first | rfl | (simp; done)), (by first | rfl | (simp [Rd_val]; done)), ⟨rfl⟩, rfl⟩
    case round =>
      obtain ⟨j, rfl, rfl, HJ, rfl⟩ := hrel
      by_cases c5 : j < 8
      · have c5b0 : decide ((j : Int) < 8) = true := decide_eq_true (by omega)
        have hj0 : (0 : Int) ≤ (j : Int) := by omega
        have hj1 : (j : Int) < 8 := by omega
        have hx := hcell2 j c5
        cases gk with
        | zero => have := HJ.out; omega
        | succ k1 =>
          go_wp2
          go_roundg k1
          case measure => omega
          case rel => exact ⟨j + 1, (by
              have hw : wrap64 ((j : Int) + 1) = ((j + 1 : Nat) : Int) := by unfold wrap64; omega
              first | rfl | (rw [← hw]; rfl) | (simp [*]; done)), congrArg (Value.int .u64) (Rd_step l hb j c5 (by omega)), ⟨by have := HJ.out; omega⟩, rfl⟩
      · have c5b0 : decide ((j : Int) < 8) = false := decide_eq_false (by omega)
        obtain rfl : j = 8 := by have := HJ.out; omega
        go_wp2
        go_ret
        exact ⟨rfl, ⟨_, ⟨c - 8, by rw [hdl]; exact hgW, by omega, Rd_drop 8 hl (Rd_far (Rd_Keep.set g 0 w _) hC hA), fun ad2 e => by obtain rfl := Option.some.inj e; exact hA ad rfl⟩, .inr ⟨ad, rfl, rfl⟩⟩, Rd_Keep.set g 0 w _⟩
set_option maxHeartbeats 8000000 in
set_option maxRecDepth 100000 in
theorem Rd_Number_lo.calls (g : Nat) (A : Option Addr) (l : List Int) (lo hi : Int) (w : World) (hr : Rd_Is w g A l false) (hl : 8 ≤ l.length) (hb : ∀ x ∈ l, 0 ≤ x ∧ x < 256) (h1 : wrap64 (Rd_val (l.take 8)) < lo) :
    Calls Tryd.prog 20 #[.pointer (some ⟨g, 0, none⟩), .int .i64 lo, .int .i64 hi] w fun e w' => e = .returned (.int .i64 0) ∧ (∃ A', Rd_Is w' g A' (l.drop 8) true ∧ (l.length = 8 ∧ A' = A ∨ ∃ ad, A = some ad ∧ A' = some ⟨ad.block, ad.off + 8, none⟩)) ∧ Rd_Keep g w w' := by
  obtain ⟨c, hg, hc, hC, hA⟩ := hr
  have f0 : w.cell? ⟨g, 0, none⟩ = some (.slice A l.length c) := (blk_cell hg 0).trans rfl
  have z0 := blk_frozen hg 0
  have z1 := blk_frozen hg 1
  have f1 : w.cell? ⟨g, 1, none⟩ = some (.bool false) := (blk_cell hg 1).trans rfl
  have c1 : decide (8 > (l.length : Int)) = false := decide_eq_false (by omega)
  have c2 : decide ((l.length : Int) < 8) = false := decide_eq_false (by omega)
  have c3 : decide (l.length < 8) = false := decide_eq_false (by omega)
  have d1 : decide (wrap64 (Rd_val (l.take 8)) < lo) = true := decide_eq_true h1
  have hc8 : 8 ≤ c := by omega
  obtain ⟨_, _, h3⟩ := Kd.reads_of_C (d := (0 : Int)) hC
  obtain ⟨ad, rfl, hcell⟩ := h3 (by omega)
  have hdl : (l.drop 8).length = l.length - 8 := List.length_drop
  have hcellV : ∀ (v : Value) (j : Nat) (hj : j < 8), (w.setCell ⟨g, 0, none⟩ v).cell? (ad.add j) = some (.int .u8 (l[j]'(by omega))) := fun v j hj => by
    have h4 := (Kd.reads_of_C (d := (0 : Int)) (Rd_far (Rd_Keep.set g 0 w v) hC hA)).2.2 (by omega)
    obtain ⟨ad2, e, h5⟩ := h4
    obtain rfl := Option.some.inj e
    rw [h5 j (by omega), List.getD_eq_getElem?_getD, List.getElem?_eq_getElem (by omega)]
    rfl
  go_enter Tryd.func20, Tryd.ntmps20
  go_wp2_with (go_in)
  · rename_i hc0
    have hz : l.length - 8 = 0 := by omega
    have HL8 : Aside0 (l.length = 8) := ⟨by omega⟩
    rw [hz]
    have hcell2 : ∀ j (hj : j < 8), (w.setCell ⟨g, 0, none⟩ (.slice (some ad) 0 0)).cell? (ad.add j) = some (.int .u8 (l[j]'(by omega))) := fun j hj => hcellV _ j hj
    have hgW := blk_put hg 0 (.slice (some ad) 0 0) rfl
    have y1 := blk_frozen hgW 1
    have x1 : (w.setCell ⟨g, 0, none⟩ (.slice (some ad) 0 0)).cell? ⟨g, 1, none⟩ = some (.bool false) := (blk_cell hgW 1).trans rfl
    go_loopg [8, 19] 8 (fun kq v8 v19 w' => ∃ (j : Nat), v19 = .int .i64 (j : Int) ∧ v8 = .int .u64 (Rd_val (l.take j)) ∧ Aside0 (j + kq = 8) ∧ w' = w.setCell ⟨g, 0, none⟩ (.slice (some ad) 0 0))
    case atStart => exact ⟨0, (by first | rfl | (simp; done)), (by first | rfl | (simp [Rd_val]; done)), ⟨rfl⟩, rfl⟩
    case round =>
      obtain ⟨j, rfl, rfl, HJ, rfl⟩ := hrel
      by_cases c5 : j < 8
      · have c5b0 : decide ((j : Int) < 8) = true := decide_eq_true (by omega)
        have hj0 : (0 : Int) ≤ (j : Int) := by omega
        have hj1 : (j : Int) < 8 := by omega
        have hx := hcell2 j c5
        cases gk with
        | zero => have := HJ.out; omega
        | succ k1 =>
          go_wp2
          go_roundg k1
          case measure => omega
          case rel => exact ⟨j + 1, (by
              have hw : wrap64 ((j : Int) + 1) = ((j + 1 : Nat) : Int) := by unfold wrap64; omega
              first | rfl | (rw [← hw]; rfl) | (simp [*]; done)), congrArg (Value.int .u64) (Rd_step l hb j c5 (by omega)), ⟨by have := HJ.out; omega⟩, rfl⟩
      · have c5b0 : decide ((j : Int) < 8) = false := decide_eq_false (by omega)
        obtain rfl : j = 8 := by have := HJ.out; omega
        go_wp2
        go_ret
        exact ⟨rfl, ⟨_, ⟨0, by rw [hdl, hz]; exact blk_put hgW 1 _ rfl, by omega, (by rw [List.length_eq_zero_iff.mp (show (l.drop 8).length = 0 by omega)]; exact Kd.C_any0 _ _), hA⟩, .inl ⟨HL8.out, rfl⟩⟩, (Rd_Keep.set g 0 w _).trans (Rd_Keep.set g 1 _ _)⟩
  · rename_i hc0
    have hcell2 : ∀ j (hj : j < 8), (w.setCell ⟨g, 0, none⟩ (.slice (some ⟨ad.block, ad.off + 8, none⟩) (l.length - 8) (c - 8))).cell? (ad.add j) = some (.int .u8 (l[j]'(by omega))) := fun j hj => hcellV _ j hj
    have hgW := blk_put hg 0 (.slice (some ⟨ad.block, ad.off + 8, none⟩) (l.length - 8) (c - 8)) rfl
    have y1 := blk_frozen hgW 1
    have x1 : (w.setCell ⟨g, 0, none⟩ (.slice (some ⟨ad.block, ad.off + 8, none⟩) (l.length - 8) (c - 8))).cell? ⟨g, 1, none⟩ = some (.bool false) := (blk_cell hgW 1).trans rfl
    go_loopg [8, 19] 8 (fun kq v8 v19 w' => ∃ (j : Nat), v19 = .int .i64 (j : Int) ∧ v8 = .int .u64 (Rd_val (l.take j)) ∧ Aside0 (j + kq = 8) ∧ w' = w.setCell ⟨g, 0, none⟩ (.slice (some ⟨ad.block, ad.off + 8, none⟩) (l.length - 8) (c - 8)))
    case atStart => exact ⟨0, (by first | rfl | (simp; done)), (by first | rfl | (simp [Rd_val]; done)), ⟨rfl⟩, rfl⟩
    case round =>
      obtain ⟨j, rfl, rfl, HJ, rfl⟩ := hrel
      by_cases c5 : j < 8
      · have c5b0 : decide ((j : Int) < 8) = true := decide_eq_true (by omega)
        have hj0 : (0 : Int) ≤ (j : Int) := by omega
        have hj1 : (j : Int) < 8 := by omega
        have hx := hcell2 j c5
        cases gk with
        | zero => have := HJ.out; omega
        | succ k1 =>
          go_wp2
          go_roundg k1
          case measure => omega
          case rel => exact ⟨j + 1, (by
              have hw : wrap64 ((j : Int) + 1) = ((j + 1 : Nat) : Int) := by unfold wrap64; omega
              first | rfl | (rw [← hw]; rfl) | (simp [*]; done)), congrArg (Value.int .u64) (Rd_step l hb j c5 (by omega)), ⟨by have := HJ.out; omega⟩, rfl⟩
      · have c5b0 : decide ((j : Int) < 8) = false := decide_eq_false (by omega)
        obtain rfl : j = 8 := by have := HJ.out; omega
        go_wp2
        go_ret
        exact ⟨rfl, ⟨_, ⟨c - 8, by rw [hdl]; exact blk_put hgW 1 _ rfl, by omega, Rd_drop 8 hl (Rd_far ((Rd_Keep.set g 0 w _).trans (Rd_Keep.set g 1 _ _)) hC hA), fun ad2 e => by obtain rfl := Option.some.inj e; exact hA ad rfl⟩, .inr ⟨ad, rfl, rfl⟩⟩, (Rd_Keep.set g 0 w _).trans (Rd_Keep.set g 1 _ _)⟩
set_option maxHeartbeats 8000000 in
set_option maxRecDepth 100000 in
theorem Rd_Number_hi.calls (g : Nat) (A : Option Addr) (l : List Int) (lo hi : Int) (w : World) (hr : Rd_Is w g A l false) (hl : 8 ≤ l.length) (hb : ∀ x ∈ l, 0 ≤ x ∧ x < 256) (h0 : lo ≤ wrap64 (Rd_val (l.take 8))) (h1 : hi < wrap64 (Rd_val (l.take 8))) :
    Calls Tryd.prog 20 #[.pointer (some ⟨g, 0, none⟩), .int .i64 lo, .int .i64 hi] w fun e w' => e = .returned (.int .i64 0) ∧ (∃ A', Rd_Is w' g A' (l.drop 8) true ∧ (l.length = 8 ∧ A' = A ∨ ∃ ad, A = some ad ∧ A' = some ⟨ad.block, ad.off + 8, none⟩)) ∧ Rd_Keep g w w' := by
  obtain ⟨c, hg, hc, hC, hA⟩ := hr
  have f0 : w.cell? ⟨g, 0, none⟩ = some (.slice A l.length c) := (blk_cell hg 0).trans rfl
  have z0 := blk_frozen hg 0
  have z1 := blk_frozen hg 1
  have f1 : w.cell? ⟨g, 1, none⟩ = some (.bool false) := (blk_cell hg 1).trans rfl
  have c1 : decide (8 > (l.length : Int)) = false := decide_eq_false (by omega)
  have c2 : decide ((l.length : Int) < 8) = false := decide_eq_false (by omega)
  have c3 : decide (l.length < 8) = false := decide_eq_false (by omega)
  have d1 : decide (wrap64 (Rd_val (l.take 8)) < lo) = false := decide_eq_false (by omega)
  have d2 : decide (hi < wrap64 (Rd_val (l.take 8))) = true := decide_eq_true h1
  have hc8 : 8 ≤ c := by omega
  obtain ⟨_, _, h3⟩ := Kd.reads_of_C (d := (0 : Int)) hC
  obtain ⟨ad, rfl, hcell⟩ := h3 (by omega)
  have hdl : (l.drop 8).length = l.length - 8 := List.length_drop
  have hcellV : ∀ (v : Value) (j : Nat) (hj : j < 8), (w.setCell ⟨g, 0, none⟩ v).cell? (ad.add j) = some (.int .u8 (l[j]'(by omega))) := fun v j hj => by
    have h4 := (Kd.reads_of_C (d := (0 : Int)) (Rd_far (Rd_Keep.set g 0 w v) hC hA)).2.2 (by omega)
    obtain ⟨ad2, e, h5⟩ := h4
    obtain rfl := Option.some.inj e
    rw [h5 j (by omega), List.getD_eq_getElem?_getD, List.getElem?_eq_getElem (by omega)]
    rfl
  go_enter Tryd.func20, Tryd.ntmps20
  go_wp2_with (go_in)
  · rename_i hc0
    have hz : l.length - 8 = 0 := by omega
    have HL8 : Aside0 (l.length = 8) := ⟨by omega⟩
    rw [hz]
    have hcell2 : ∀ j (hj : j < 8), (w.setCell ⟨g, 0, none⟩ (.slice (some ad) 0 0)).cell? (ad.add j) = some (.int .u8 (l[j]'(by omega))) := fun j hj => hcellV _ j hj
    have hgW := blk_put hg 0 (.slice (some ad) 0 0) rfl
    have y1 := blk_frozen hgW 1
    have x1 : (w.setCell ⟨g, 0, none⟩ (.slice (some ad) 0 0)).cell? ⟨g, 1, none⟩ = some (.bool false) := (blk_cell hgW 1).trans rfl
    go_loopg [8, 19] 8 (fun kq v8 v19 w' => ∃ (j : Nat), v19 = .int .i64 (j : Int) ∧ v8 = .int .u64 (Rd_val (l.take j)) ∧ Aside0 (j + kq = 8) ∧ w' = w.setCell ⟨g, 0, none⟩ (.slice (some ad) 0 0))
    case atStart => exact ⟨0, (by first | rfl | (simp; done)), (by first | rfl | (simp [Rd_val]; done)), ⟨rfl⟩, rfl⟩
    case round =>
      obtain ⟨j, rfl, rfl, HJ, rfl⟩ := hrel
      by_cases c5 : j < 8
      · have c5b0 : decide ((j : Int) < 8) = true := decide_eq_true (by omega)
        have hj0 : (0 : Int) ≤ (j : Int) := by omega
        have hj1 : (j : Int) < 8 := by omega
        have hx := hcell2 j c5
        cases gk with
        | zero => have := HJ.out; omega
        | succ k1 =>
          go_wp2
          go_roundg k1
          case measure => omega
          case rel => exact ⟨j + 1, (by
              have hw : wrap64 ((j : Int) + 1) = ((j + 1 : Nat) : Int) := by unfold wrap64; omega
              first | rfl | (rw [← hw]; rfl) | (simp [*]; done)), congrArg (Value.int .u64) (Rd_step l hb j c5 (by omega)), ⟨by have := HJ.out; omega⟩, rfl⟩
      · have c5b0 : decide ((j : Int) < 8) = false := decide_eq_false (by omega)
        obtain rfl : j = 8 := by have := HJ.out; omega
        go_wp2
        go_ret
        exact ⟨rfl, ⟨_, ⟨0, by rw [hdl, hz]; exact blk_put hgW 1 _ rfl, by omega, (by rw [List.length_eq_zero_iff.mp (show (l.drop 8).length = 0 by omega)]; exact Kd.C_any0 _ _), hA⟩, .inl ⟨HL8.out, rfl⟩⟩, (Rd_Keep.set g 0 w _).trans (Rd_Keep.set g 1 _ _)⟩
  · rename_i hc0
    have hcell2 : ∀ j (hj : j < 8), (w.setCell ⟨g, 0, none⟩ (.slice (some ⟨ad.block, ad.off + 8, none⟩) (l.length - 8) (c - 8))).cell? (ad.add j) = some (.int .u8 (l[j]'(by omega))) := fun j hj => hcellV _ j hj
    have hgW := blk_put hg 0 (.slice (some ⟨ad.block, ad.off + 8, none⟩) (l.length - 8) (c - 8)) rfl
    have y1 := blk_frozen hgW 1
    have x1 : (w.setCell ⟨g, 0, none⟩ (.slice (some ⟨ad.block, ad.off + 8, none⟩) (l.length - 8) (c - 8))).cell? ⟨g, 1, none⟩ = some (.bool false) := (blk_cell hgW 1).trans rfl
    go_loopg [8, 19] 8 (fun kq v8 v19 w' => ∃ (j : Nat), v19 = .int .i64 (j : Int) ∧ v8 = .int .u64 (Rd_val (l.take j)) ∧ Aside0 (j + kq = 8) ∧ w' = w.setCell ⟨g, 0, none⟩ (.slice (some ⟨ad.block, ad.off + 8, none⟩) (l.length - 8) (c - 8)))
    case atStart => exact ⟨0, (by first | rfl | (simp; done)), (by first | rfl | (simp [Rd_val]; done)), ⟨rfl⟩, rfl⟩
    case round =>
      obtain ⟨j, rfl, rfl, HJ, rfl⟩ := hrel
      by_cases c5 : j < 8
      · have c5b0 : decide ((j : Int) < 8) = true := decide_eq_true (by omega)
        have hj0 : (0 : Int) ≤ (j : Int) := by omega
        have hj1 : (j : Int) < 8 := by omega
        have hx := hcell2 j c5
        cases gk with
        | zero => have := HJ.out; omega
        | succ k1 =>
          go_wp2
          go_roundg k1
          case measure => omega
          case rel => exact ⟨j + 1, (by
              have hw : wrap64 ((j : Int) + 1) = ((j + 1 : Nat) : Int) := by unfold wrap64; omega
              first | rfl | (rw [← hw]; rfl) | (simp [*]; done)), congrArg (Value.int .u64) (Rd_step l hb j c5 (by omega)), ⟨by have := HJ.out; omega⟩, rfl⟩
      · have c5b0 : decide ((j : Int) < 8) = false := decide_eq_false (by omega)
        obtain rfl : j = 8 := by have := HJ.out; omega
        go_wp2
        go_ret
        exact ⟨rfl, ⟨_, ⟨c - 8, by rw [hdl]; exact blk_put hgW 1 _ rfl, by omega, Rd_drop 8 hl (Rd_far ((Rd_Keep.set g 0 w _).trans (Rd_Keep.set g 1 _ _)) hC hA), fun ad2 e => by obtain rfl := Option.some.inj e; exact hA ad rfl⟩, .inr ⟨ad, rfl, rfl⟩⟩, (Rd_Keep.set g 0 w _).trans (Rd_Keep.set g 1 _ _)⟩
/-- What a number that is asked for is, what is left, and whether something is wrong. -/
def Rd_num (l : List Int) (bad : Bool) (lo hi : Int) : Int × List Int × Bool :=
  if bad = true then (0, l, true) else if l.length < 8 then (0, l, true) else
  if wrap64 (Rd_val (l.take 8)) < lo then (0, l.drop 8, true) else if hi < wrap64 (Rd_val (l.take 8)) then (0, l.drop 8, true) else (wrap64 (Rd_val (l.take 8)), l.drop 8, false)
/-- Where what is left begins. -/
def Rd_Moved (n : Nat) (A A' : Option Addr) (l l' : List Int) : Prop := n ≤ l.length ∧ l' = l.drop n ∧ (l' = [] ∧ A' = A ∨ ∃ ad, A = some ad ∧ A' = some (ad.add n))
theorem Rd_Number.calls (g : Nat) (A : Option Addr) (l : List Int) (bad : Bool) (lo hi : Int) (w : World) (hr : Rd_Is w g A l bad) (hb : ∀ x ∈ l, 0 ≤ x ∧ x < 256) :
    Calls Tryd.prog 20 #[.pointer (some ⟨g, 0, none⟩), .int .i64 lo, .int .i64 hi] w fun e w' => e = .returned (.int .i64 (Rd_num l bad lo hi).1) ∧ (∃ A', Rd_Is w' g A' (Rd_num l bad lo hi).2.1 (Rd_num l bad lo hi).2.2 ∧ ((Rd_num l bad lo hi).2.1 = l ∧ A' = A ∨ Rd_Moved 8 A A' l (Rd_num l bad lo hi).2.1)) ∧ Rd_Keep g w w' := by
  cases bad with
  | true =>
    have e : Rd_num l true lo hi = (0, l, true) := rfl
    rw [e]
    exact (Rd_Number_bad.calls g A l lo hi w hr).mono fun e' w' h => ⟨h.1, ⟨A, h.2.1, .inl ⟨rfl, rfl⟩⟩, h.2.2⟩
  | false =>
    have mv : 8 ≤ l.length → ∀ A', (l.length = 8 ∧ A' = A ∨ ∃ ad, A = some ad ∧ A' = some ⟨ad.block, ad.off + 8, none⟩) → Rd_Moved 8 A A' l (l.drop 8) := fun h8 A' h => ⟨h8, rfl, h.imp (fun h => ⟨List.drop_of_length_le (by omega), h.2⟩) (fun ⟨ad, h1, h2⟩ => ⟨ad, h1, h2⟩)⟩
    by_cases c1 : l.length < 8
    · have e : Rd_num l false lo hi = (0, l, true) := by unfold Rd_num; rw [if_neg (by decide), if_pos c1]
      rw [e]
      exact (Rd_Number_short.calls g A l lo hi w hr c1).mono fun e' w' h => ⟨h.1, ⟨A, h.2.1, .inl ⟨rfl, rfl⟩⟩, h.2.2⟩
    · by_cases c2 : wrap64 (Rd_val (l.take 8)) < lo
      · have e : Rd_num l false lo hi = (0, l.drop 8, true) := by unfold Rd_num; rw [if_neg (by decide), if_neg c1, if_pos c2]
        rw [e]
        exact (Rd_Number_lo.calls g A l lo hi w hr (by omega) hb c2).mono fun e' w' h => ⟨h.1, ⟨h.2.1.choose, h.2.1.choose_spec.1, .inr (mv (by omega) _ h.2.1.choose_spec.2)⟩, h.2.2⟩
      · by_cases c3 : hi < wrap64 (Rd_val (l.take 8))
        · have e : Rd_num l false lo hi = (0, l.drop 8, true) := by unfold Rd_num; rw [if_neg (by decide), if_neg c1, if_neg c2, if_pos c3]
          rw [e]
          exact (Rd_Number_hi.calls g A l lo hi w hr (by omega) hb (by omega) c3).mono fun e' w' h => ⟨h.1, ⟨h.2.1.choose, h.2.1.choose_spec.1, .inr (mv (by omega) _ h.2.1.choose_spec.2)⟩, h.2.2⟩
        · have e : Rd_num l false lo hi = (wrap64 (Rd_val (l.take 8)), l.drop 8, false) := by unfold Rd_num; rw [if_neg (by decide), if_neg c1, if_neg c2, if_neg c3]
          rw [e]
          exact (Rd_Number_in.calls g A l lo hi w hr (by omega) hb (by omega) (by omega)).mono fun e' w' h => ⟨h.1, ⟨h.2.1.choose, h.2.1.choose_spec.1, .inr (mv (by omega) _ h.2.1.choose_spec.2)⟩, h.2.2⟩
/-- What the next so many bytes are, what is left, and whether something is wrong. -/
def Rd_tk (l : List Int) (bad : Bool) (n : Nat) : List Int × List Int × Bool := if bad = true then ([], l, true) else if l.length < n then ([], l, true) else (l.take n, l.drop n, false)
/-- What a call tells that takes bytes. -/
def Rd_Took (g : Nat) (A : Option Addr) (n : Nat) (r : List Int × List Int × Bool) (l : List Int) (w : World) (e : Ending) (w' : World) : Prop :=
  ∃ B m, e = .returned (.slice B r.1.length m) ∧ r.1.length = m ∧ Kd.C (Kd.int .u8) w' B r.1.length r.1 ∧ (∀ ad, B = some ad → ad.block ≠ g) ∧ (B = none ∨ B = A) ∧ ∃ A', Rd_Is w' g A' r.2.1 r.2.2 ∧ (r.2.1 = l ∧ A' = A ∨ Rd_Moved n A A' l r.2.1) ∧ Rd_Keep g w w'
/-- So many of them from the beginning. -/
theorem Rd_pre {w : World} {A : Option Addr} {l : List Int} (n : Nat) (hn : n ≤ l.length) (h : Kd.C (Kd.int .u8) w A l.length l) : Kd.C (Kd.int .u8) w A (l.take n).length (l.take n) := by
  obtain ⟨h1, h2, h3⟩ := Kd.reads_of_C (d := (0 : Int)) h
  have hlen : (l.take n).length = n := by rw [List.length_take]; omega
  refine Kd.C_of_reads (d := (0 : Int)) ⟨rfl, by omega, fun hn2 => ?_⟩
  obtain ⟨ad, e, hc⟩ := h3 (by omega)
  refine ⟨ad, e, fun j hj => ?_⟩
  rw [hc j (by omega), List.getD_eq_getElem?_getD, List.getD_eq_getElem?_getD, List.getElem?_take, if_pos (by omega)]
set_option maxHeartbeats 8000000 in
set_option maxRecDepth 100000 in
theorem Rd_take_bad.calls (g : Nat) (A : Option Addr) (l : List Int) (n : Nat) (w : World) (hr : Rd_Is w g A l true) :
    Calls Tryd.prog 33 #[.pointer (some ⟨g, 0, none⟩), .int .i64 (n : Int)] w fun e w' => Rd_Took g A n (Rd_tk l true n) l w e w' := by
  have e : Rd_tk l true n = ([], l, true) := rfl
  rw [e]
  obtain ⟨c, hg, hc, hC, hA⟩ := hr
  have f0 : w.cell? ⟨g, 0, none⟩ = some (.slice A l.length c) := (blk_cell hg 0).trans rfl
  have z0 := blk_frozen hg 0
  have z1 := blk_frozen hg 1
  have f1 : w.cell? ⟨g, 1, none⟩ = some (.bool true) := (blk_cell hg 1).trans rfl
  go_enter Tryd.func33, Tryd.ntmps33
  go_wp2
  go_ret
  exact ⟨none, 0, rfl, rfl, Kd.C_any0 _ _, fun _ h => (by cases h), Or.inl rfl, A, ⟨c, blk_put hg 1 _ rfl, hc, Rd_far (Rd_Keep.set g 1 w _) hC hA, hA⟩, Or.inl ⟨rfl, rfl⟩, Rd_Keep.set g 1 w _⟩
set_option maxHeartbeats 8000000 in
set_option maxRecDepth 100000 in
theorem Rd_take_short.calls (g : Nat) (A : Option Addr) (l : List Int) (n : Nat) (w : World) (hr : Rd_Is w g A l false) (hl : l.length < n) :
    Calls Tryd.prog 33 #[.pointer (some ⟨g, 0, none⟩), .int .i64 (n : Int)] w fun e w' => Rd_Took g A n (Rd_tk l false n) l w e w' := by
  have e : Rd_tk l false n = ([], l, true) := by unfold Rd_tk; rw [if_neg (by decide), if_pos hl]
  rw [e]
  clear e
  obtain ⟨c, hg, hc, hC, hA⟩ := hr
  have f0 : w.cell? ⟨g, 0, none⟩ = some (.slice A l.length c) := (blk_cell hg 0).trans rfl
  have z0 := blk_frozen hg 0
  have z1 := blk_frozen hg 1
  have f1 : w.cell? ⟨g, 1, none⟩ = some (.bool false) := (blk_cell hg 1).trans rfl
  have c1 : decide ((n : Int) > (l.length : Int)) = true := decide_eq_true (by omega)
  have c2 : decide ((l.length : Int) < (n : Int)) = true := decide_eq_true (by omega)
  have c3 : decide (l.length < n) = true := decide_eq_true (by omega)
  go_enter Tryd.func33, Tryd.ntmps33
  go_wp2
  go_ret
  exact ⟨none, 0, rfl, rfl, Kd.C_any0 _ _, fun _ h => (by cases h), Or.inl rfl, A, ⟨c, blk_put hg 1 _ rfl, hc, Rd_far (Rd_Keep.set g 1 w _) hC hA, hA⟩, Or.inl ⟨rfl, rfl⟩, Rd_Keep.set g 1 w _⟩
set_option maxHeartbeats 8000000 in
set_option maxRecDepth 100000 in
theorem Rd_take_in.calls (g : Nat) (A : Option Addr) (l : List Int) (n : Nat) (w : World) (hr : Rd_Is w g A l false) (hl : n ≤ l.length) :
    Calls Tryd.prog 33 #[.pointer (some ⟨g, 0, none⟩), .int .i64 (n : Int)] w fun e w' => Rd_Took g A n (Rd_tk l false n) l w e w' := by
  have e : Rd_tk l false n = (l.take n, l.drop n, false) := by unfold Rd_tk; rw [if_neg (by decide), if_neg (by omega)]
  rw [e]
  clear e
  have hlt : (l.take n).length = n := by rw [List.length_take]; omega
  have hld : (l.drop n).length = l.length - n := List.length_drop
  have HT := Aside0.mk hlt
  have HD := Aside0.mk hld
  clear hlt hld
  obtain ⟨c, hg, hc, hC, hA⟩ := hr
  have f0 : w.cell? ⟨g, 0, none⟩ = some (.slice A l.length c) := (blk_cell hg 0).trans rfl
  have z0 := blk_frozen hg 0
  have z1 := blk_frozen hg 1
  have f1 : w.cell? ⟨g, 1, none⟩ = some (.bool false) := (blk_cell hg 1).trans rfl
  have c1 : decide ((n : Int) > (l.length : Int)) = false := decide_eq_false (by omega)
  have c2 : decide ((l.length : Int) < (n : Int)) = false := decide_eq_false (by omega)
  have c3 : decide (l.length < n) = false := decide_eq_false (by omega)
  have c4 : n ≤ c := by omega
  go_enter Tryd.func33, Tryd.ntmps33
  go_wp2
  · go_ret
    have hdn : l.drop n = [] := List.drop_of_length_le (by omega)
    refine ⟨A, n, by rw [HT.out]; first | rfl | (simp [*]; done), HT.out, Rd_pre n hl (Rd_far (Rd_Keep.set g 0 w _) hC hA), hA, Or.inr rfl, A, ?_, Or.inr ⟨hl, rfl, Or.inl ⟨hdn, rfl⟩⟩, Rd_Keep.set g 0 w _⟩
    exact ⟨0, by rw [HD.out]; exact blk_put hg 0 _ (by first | rfl | (simp [*]; done)), by rw [HD.out]; omega, (by show Kd.C (Kd.int .u8) _ A (l.drop n).length (l.drop n); rw [hdn]; exact Kd.C_any0 _ _), hA⟩
  · go_ret
    cases A with
    | none =>
      have hln : l = [] := by
        by_cases h0 : 0 < l.length
        · obtain ⟨ad, e, _⟩ := (Kd.reads_of_C (d := (0 : Int)) hC).2.2 h0
          cases e
        · exact List.length_eq_zero_iff.mp (by omega)
      have hdn : l.drop n = [] := by rw [hln, List.drop_nil]
      refine ⟨none, n, by rw [HT.out]; first | rfl | (simp [*]; done), HT.out, Rd_pre n hl (Rd_far (Rd_Keep.set g 0 w _) hC hA), hA, Or.inr rfl, none, ?_, Or.inr ⟨hl, rfl, Or.inl ⟨hdn, rfl⟩⟩, Rd_Keep.set g 0 w _⟩
      exact ⟨c - n, by rw [HD.out]; exact blk_put hg 0 _ (by first | rfl | (simp [*]; done)), by rw [HD.out]; omega, (by show Kd.C (Kd.int .u8) _ none (l.drop n).length (l.drop n); rw [hdn]; exact Kd.C_any0 _ _), hA⟩
    | some ad =>
      refine ⟨some ad, n, by rw [HT.out]; first | rfl | (simp [*]; done), HT.out, Rd_pre n hl (Rd_far (Rd_Keep.set g 0 w _) hC hA), hA, Or.inr rfl, some (ad.add n), ?_, Or.inr ⟨hl, rfl, Or.inr ⟨ad, rfl, rfl⟩⟩, Rd_Keep.set g 0 w _⟩
      exact ⟨c - n, by rw [HD.out]; exact blk_put hg 0 _ (by first | rfl | (simp [*]; done)), by rw [HD.out]; omega, Rd_drop n hl (Rd_far (Rd_Keep.set g 0 w _) hC hA), fun ad2 e => by
        obtain rfl := Option.some.inj e
        have hb : (ad.add n).block = ad.block := by unfold Addr.add; split <;> rfl
        rw [hb]
        exact hA ad rfl⟩
theorem Rd_take.calls (g : Nat) (A : Option Addr) (l : List Int) (bad : Bool) (n : Nat) (w : World) (hr : Rd_Is w g A l bad) :
    Calls Tryd.prog 33 #[.pointer (some ⟨g, 0, none⟩), .int .i64 (n : Int)] w fun e w' => Rd_Took g A n (Rd_tk l bad n) l w e w' := by
  cases bad with
  | true => exact Rd_take_bad.calls g A l n w hr
  | false =>
    by_cases c : l.length < n
    · exact Rd_take_short.calls g A l n w hr c
    · exact Rd_take_in.calls g A l n w hr (by omega)
theorem Rd_num_range (l : List Int) (bad : Bool) (hi : Int) (h : ∀ x ∈ l, 0 ≤ x ∧ x < 256) : 0 ≤ (Rd_num l bad 0 hi).1 ∧ ∀ x ∈ (Rd_num l bad 0 hi).2.1, 0 ≤ x ∧ x < 256 := by
  unfold Rd_num
  split
  · exact ⟨Int.le_refl 0, h⟩
  · split
    · exact ⟨Int.le_refl 0, h⟩
    · split
      · exact ⟨Int.le_refl 0, fun x hx => h x (List.mem_of_mem_drop hx)⟩
      · split
        · exact ⟨Int.le_refl 0, fun x hx => h x (List.mem_of_mem_drop hx)⟩
        · exact ⟨by simp only; omega, fun x hx => h x (List.mem_of_mem_drop hx)⟩
/-- What bytes that are asked for are. -/
def Rd_byt (l : List Int) (bad : Bool) (most : Int) : List Int × List Int × Bool := Rd_tk (Rd_num l bad 0 most).2.1 (Rd_num l bad 0 most).2.2 (Rd_num l bad 0 most).1.toNat
/-- An address in the same block, or none. -/
def Rd_In (A A' : Option Addr) : Prop := ∀ ad, A' = some ad → ∃ ad0, A = some ad0 ∧ ad.block = ad0.block
theorem Rd_In.refl (A : Option Addr) : Rd_In A A := fun ad h => ⟨ad, h, rfl⟩
theorem Rd_In_add (ad : Addr) (n : Nat) : Rd_In (some ad) (some (ad.add n)) := fun ad2 e => by
  obtain rfl := Option.some.inj e
  exact ⟨ad, rfl, by unfold Addr.add; split <;> rfl⟩
theorem Rd_In.trans {A B C : Option Addr} (h : Rd_In A B) (k : Rd_In B C) : Rd_In A C := fun ad e => by
  obtain ⟨a1, e1, e2⟩ := k ad e
  obtain ⟨a0, e3, e4⟩ := h a1 e1
  exact ⟨a0, e3, e2.trans e4⟩
theorem Rd_In.moved {n : Nat} {A A' : Option Addr} {l l' : List Int} (h : l' = l ∧ A' = A ∨ Rd_Moved n A A' l l') : Rd_In A A' := by
  rcases h with ⟨_, rfl⟩ | ⟨_, _, ⟨_, rfl⟩ | ⟨ad, rfl, rfl⟩⟩
  · exact Rd_In.refl _
  · exact Rd_In.refl _
  · intro ad2 e
    obtain rfl := Option.some.inj e
    exact ⟨ad, rfl, by unfold Addr.add; split <;> rfl⟩
/-- What is left lies in block q, which has s cells. -/
def Rp_At (q s : Nat) (A : Option Addr) (l : List Int) : Prop := l = [] ∨ ∃ o, A = some ⟨q, o, none⟩ ∧ o + l.length ≤ s
theorem Rp_add (q o n : Nat) : (⟨q, o, none⟩ : Addr).add n = ⟨q, o + n, none⟩ := by
  unfold Addr.add
  split
  · rename_i h0; subst h0; rfl
  · rfl
theorem Rp_moved {n q s : Nat} {A A' : Option Addr} {l l' : List Int} (hp : Rp_At q s A l) (h : l' = l ∧ A' = A ∨ Rd_Moved n A A' l l') : Rp_At q s A' l' := by
  rcases h with ⟨rfl, rfl⟩ | ⟨hn, rfl, ⟨h0, rfl⟩ | ⟨ad, rfl, rfl⟩⟩
  · exact hp
  · exact .inl h0
  · rcases hp with rfl | ⟨o, e, ho⟩
    · exact .inl List.drop_nil
    · obtain rfl := Option.some.inj e
      exact .inr ⟨o + n, by rw [Rp_add], by rw [List.length_drop]; omega⟩
/-- Where the bytes lie that were handed out, and what is left. -/
def Rd_Out (A : Option Addr) (l : List Int) (B : Option Addr) (out : List Int) (A' : Option Addr) (l' : List Int) : Prop :=
  ∀ q s, Rp_At q s A l → Rp_At q s A' l' ∧ (out = [] ∨ ∃ o, B = some ⟨q, o, none⟩ ∧ o + out.length ≤ s ∧ (l' = [] ∨ A' = some ⟨q, o + out.length, none⟩))
theorem Rd_out {A A1 A2 B : Option Addr} {l l1 : List Int} {b1 : Bool} {n m : Nat} (h1 : l1 = l ∧ A1 = A ∨ Rd_Moved m A A1 l l1) (hB : B = none → (Rd_tk l1 b1 n).1 = []) (hBA : B = none ∨ B = A1) (h2 : (Rd_tk l1 b1 n).2.1 = l1 ∧ A2 = A1 ∨ Rd_Moved n A1 A2 l1 (Rd_tk l1 b1 n).2.1) : Rd_Out A l B (Rd_tk l1 b1 n).1 A2 (Rd_tk l1 b1 n).2.1 := by
  intro q s hp
  have hp1 := Rp_moved hp h1
  refine ⟨Rp_moved hp1 h2, ?_⟩
  by_cases h0 : (Rd_tk l1 b1 n).1 = []
  · exact .inl h0
  · refine .inr ?_
    have hBA1 : B = A1 := by
      rcases hBA with h | h
      · exact absurd (hB h) h0
      · exact h
    subst hBA1
    clear hBA hB h1 hp
    unfold Rd_tk at h0 h2 ⊢
    by_cases c1 : b1 = true
    · rw [if_pos c1] at h0; exact absurd rfl h0
    · rw [if_neg c1] at h0 h2 ⊢
      by_cases c2 : l1.length < n
      · rw [if_pos c2] at h0; exact absurd rfl h0
      · rw [if_neg c2] at h0 h2 ⊢
        simp only at h0 h2 ⊢
        rcases hp1 with rfl | ⟨o, rfl, ho⟩
        · exact absurd List.take_nil h0
        · have hlt : (l1.take n).length = n := by rw [List.length_take]; omega
          refine ⟨o, rfl, by rw [hlt]; omega, ?_⟩
          rcases h2 with ⟨h3, _⟩ | ⟨_, _, ⟨h3, _⟩ | ⟨ad, e, rfl⟩⟩
          · have h4 := congrArg List.length h3
            rw [List.length_drop] at h4
            by_cases hn0 : n = 0
            · subst hn0; exact absurd rfl h0
            · have h5 : l1 = [] := List.length_eq_zero_iff.mp (by omega)
              subst h5; exact absurd List.take_nil h0
          · exact .inl h3
          · obtain rfl := Option.some.inj e
            exact .inr (by rw [hlt, Rp_add])
/-- What a call for bytes tells. -/
def Rd_Byted (g : Nat) (A : Option Addr) (l : List Int) (r : List Int × List Int × Bool) (w : World) (e : Ending) (w' : World) : Prop :=
  ∃ B m, e = .returned (.slice B r.1.length m) ∧ r.1.length = m ∧ Kd.C (Kd.int .u8) w' B r.1.length r.1 ∧ (∀ ad, B = some ad → ad.block ≠ g) ∧ Rd_In A B ∧ (∃ A', Rd_Is w' g A' r.2.1 r.2.2 ∧ Rd_Out A l B r.1 A' r.2.1) ∧ Rd_Keep g w w'
set_option maxHeartbeats 8000000 in
set_option maxRecDepth 100000 in
theorem Rd_Bytes.calls (g : Nat) (A : Option Addr) (l : List Int) (bad : Bool) (most : Int) (w : World) (hr : Rd_Is w g A l bad) (hb : ∀ x ∈ l, 0 ≤ x ∧ x < 256) :
    Calls Tryd.prog 22 #[.pointer (some ⟨g, 0, none⟩), .int .i64 most] w fun e w' => Rd_Byted g A l (Rd_byt l bad most) w e w' := by
  obtain ⟨hn0, hn1⟩ := Rd_num_range l bad most hb
  have hnum := Rd_Number.calls g A l bad 0 most w hr hb
  unfold Rd_byt
  generalize Rd_num l bad 0 most = R at *
  obtain ⟨x, l1, b1⟩ := R
  obtain ⟨n, rfl⟩ := Int.eq_ofNat_of_zero_le hn0
  have HNUM := Aside0.mk hnum
  clear hnum hn0 hn1
  simp only [Int.toNat_natCast]
  go_enter Tryd.func22, Tryd.ntmps22
  go_wp2_with (first | (go_at_call 20; (refine HNUM.out.mono ?_); rintro e w1 ⟨rfl, ⟨A1, hr1, hm1⟩, hk1⟩) | (go_at_call 33; (with_reducible refine (Rd_take.calls g A1 l1 b1 n _ hr1).mono ?_); rintro e w2 ⟨B, m, rfl, hBm, hBC, hBg, hBA, A2, hr2, hm2, hk2⟩))
  go_ret
  exact ⟨B, m, by first | rfl | (simp [*]; done), hBm, hBC, hBg, (Rd_In.moved hm1).trans (by rcases hBA with rfl | rfl; (intro _ h; cases h); exact Rd_In.refl _), ⟨A2, hr2, Rd_out hm1 (fun h => by
    subst h
    by_cases h0 : 0 < (Rd_tk l1 b1 n).1.length
    · obtain ⟨ad, e, _⟩ := (Kd.reads_of_C (d := (0 : Int)) hBC).2.2 h0
      cases e
    · exact List.length_eq_zero_iff.mp (by omega)) hBA hm2⟩, hk1.trans hk2⟩
set_option maxHeartbeats 8000000 in
set_option maxRecDepth 100000 in
theorem Rd_Text.calls (g : Nat) (A : Option Addr) (l : List Int) (bad : Bool) (most : Int) (w : World) (hr : Rd_Is w g A l bad) (hb : ∀ x ∈ l, 0 ≤ x ∧ x < 256) :
    Calls Tryd.prog 24 #[.pointer (some ⟨g, 0, none⟩), .int .i64 most] w fun e w' => e = .returned (.string (strOfNums (Rd_byt l bad most).1)) ∧ (∃ A', Rd_Is w' g A' (Rd_byt l bad most).2.1 (Rd_byt l bad most).2.2 ∧ ∀ q s, Rp_At q s A l → Rp_At q s A' (Rd_byt l bad most).2.1) ∧ Rd_Keep g w w' := by
  go_enter Tryd.func24, Tryd.ntmps24
  go_wp2_with (first | (go_at_call 22; (with_reducible refine (Rd_Bytes.calls g A l bad most _ hr hb).mono ?_); rintro e w1 ⟨B, m, rfl, hBm, hBC, hBg, _, hr1, hk1⟩; have hcv := Kd.C_string (P := Tryd.prog) (A := B) (c := m) Tryd.underlying22 Tryd.underlying5 Tryd.underlying9 hBC; rw [hBm] at hcv))
  go_ret
  obtain ⟨A2, hr2, ho2⟩ := hr1
  exact ⟨by first | rfl | (simp [*]; done), ⟨A2, hr2, fun q s h => (ho2 q s h).1⟩, hk1⟩
set_option maxHeartbeats 8000000 in
set_option maxRecDepth 100000 in
theorem Rd_Left.calls (g : Nat) (A : Option Addr) (l : List Int) (bad : Bool) (w : World) (hr : Rd_Is w g A l bad) :
    Calls Tryd.prog 26 #[.pointer (some ⟨g, 0, none⟩)] w fun e w' => e = .returned (.int .i64 (if bad = true then 0 else (l.length : Int))) ∧ w' = w := by
  obtain ⟨c, hg, hc, hC, hA⟩ := hr
  have f0 : w.cell? ⟨g, 0, none⟩ = some (.slice A l.length c) := (blk_cell hg 0).trans rfl
  have f1 : w.cell? ⟨g, 1, none⟩ = some (.bool bad) := (blk_cell hg 1).trans rfl
  have z0 := blk_frozen hg 0
  have z1 := blk_frozen hg 1
  cases bad with
  | true =>
    go_enter Tryd.func26, Tryd.ntmps26
    go_wp2
    go_ret
    exact ⟨rfl, rfl⟩
  | false =>
    go_enter Tryd.func26, Tryd.ntmps26
    go_wp2
    go_ret
    exact ⟨rfl, rfl⟩
set_option maxHeartbeats 8000000 in
set_option maxRecDepth 100000 in
theorem Rd_LeftN.calls (w : World) : Calls Tryd.prog 26 #[.pointer none] w fun e w' => e = .returned (.int .i64 0) ∧ w' = w := by
  go_enter Tryd.func26, Tryd.ntmps26
  go_wp2
  go_ret
  exact ⟨rfl, rfl⟩
/-- The fault that is told. -/
def Rd_fault (w : World) (c : Int) : Value × World := (.iface 57 (.pointer (some ⟨w.heap.size, 0, none⟩)), w.alloc (.cells #[.int .i64 c, .string ⟨#[99, 111, 100, 101]⟩] 62 (0, 0)))
set_option maxHeartbeats 8000000 in
set_option maxRecDepth 100000 in
theorem Rd_EndN.calls (w : World) : Calls Tryd.prog 29 #[.pointer none] w fun e w' => e = .returned (Rd_fault w 1).1 ∧ w' = (Rd_fault w 1).2 := by
  go_enter Tryd.func29, Tryd.ntmps29
  go_wp2_with (go_in)
  go_ret
  exact ⟨rfl, rfl⟩
set_option maxHeartbeats 8000000 in
set_option maxRecDepth 100000 in
theorem Rd_EndOk.calls (g : Nat) (A : Option Addr) (w : World) (hr : Rd_Is w g A [] false) :
    Calls Tryd.prog 29 #[.pointer (some ⟨g, 0, none⟩)] w fun e w' => e = .returned .nilIface ∧ w' = w := by
  obtain ⟨c, hg, hc, hC, hA⟩ := hr
  have f0 : w.cell? ⟨g, 0, none⟩ = some (.slice A 0 c) := (blk_cell hg 0).trans rfl
  have f1 : w.cell? ⟨g, 1, none⟩ = some (.bool false) := (blk_cell hg 1).trans rfl
  go_enter Tryd.func29, Tryd.ntmps29
  go_wp2_with (go_in)
  go_ret
  exact ⟨rfl, rfl⟩
set_option maxHeartbeats 8000000 in
set_option maxRecDepth 100000 in
theorem Rd_EndBad.calls (g : Nat) (A : Option Addr) (l : List Int) (bad : Bool) (w : World) (hr : Rd_Is w g A l bad) (hb : bad = true ∨ 0 < l.length) :
    Calls Tryd.prog 29 #[.pointer (some ⟨g, 0, none⟩)] w fun e w' => e = .returned (Rd_fault w 4).1 ∧ w' = (Rd_fault w 4).2 := by
  obtain ⟨c, hg, hc, hC, hA⟩ := hr
  have f0 : w.cell? ⟨g, 0, none⟩ = some (.slice A l.length c) := (blk_cell hg 0).trans rfl
  have f1 : w.cell? ⟨g, 1, none⟩ = some (.bool bad) := (blk_cell hg 1).trans rfl
  have z0 := blk_frozen hg 0
  have z1 := blk_frozen hg 1
  cases bad with
  | true =>
    go_enter Tryd.func29, Tryd.ntmps29
    go_wp2_with (go_in)
    go_ret
    exact ⟨rfl, rfl⟩
  | false =>
    have hl : 0 < l.length := by simpa using hb
    have c1 : decide ((l.length : Int) > 0) = true := decide_eq_true (by omega)
    have c2 : decide (0 < (l.length : Int)) = true := decide_eq_true (by omega)
    have c3 : decide (0 < l.length) = true := decide_eq_true (by omega)
    go_enter Tryd.func29, Tryd.ntmps29
    go_wp2_with (go_in)
    go_ret
    exact ⟨rfl, rfl⟩
set_option maxHeartbeats 8000000 in
set_option maxRecDepth 100000 in
theorem Rd_New.calls (A0 : Option Addr) (c0 : Nat) (l0 : List Int) (w : World) (hr0 : Kd.C (Kd.int .u8) w A0 l0.length l0) (hc0 : l0.length ≤ c0) (hf : slices_Clone_byte_byte.f l0 = some l0) :
    Calls Tryd.prog 19 #[.slice A0 l0.length c0] w fun e w' => ∃ g A, e = .returned (.pointer (some ⟨g, 0, none⟩)) ∧ Rd_Is w' g A l0 false ∧ (l0 = [] ∨ ∃ q cs, A = some ⟨q, 0, none⟩ ∧ w'.heap[q]? = some (.cells cs 5 (0, 0)) ∧ l0.length ≤ cs.size) ∧ w.heap.size ≤ g ∧ (∀ ad, A = some ad → w.heap.size ≤ ad.block) ∧ g < w'.heap.size ∧ (∀ ad, A = some ad → ad.block < w'.heap.size) ∧ Below w.heap.size w w' := by
  have HR0 := Aside0.mk hr0
  have HC0 := Aside0.mk hc0
  clear hr0 hc0
  go_enter Tryd.func19, Tryd.ntmps19
  go_wp2_with (go_at_call 32; (with_reducible refine (slices_Clone_byte_byte.calls _ _ l0 l0 _ HR0.out HC0.out hf).mono ?_); rintro e w1 ⟨v, rfl, ho, hb⟩; obtain ⟨A1, c1, rfl⟩ := Kd.R_slice ho)
  go_ret
  have hbs : ∀ ad, A1 = some ad → w.heap.size ≤ ad.block ∧ ad.block < w1.heap.size := fun ad e => by
    subst e
    exact ⟨Kd.R_base ho _ rfl, Kd.R_lt ho _ rfl⟩
  have hsz : (w1.alloc (.cells #[.slice A1 l0.length c1, .bool false] 55 (0, 0))).heap.size = w1.heap.size + 1 := World.size_alloc ..
  refine ⟨_, A1, rfl, ⟨c1, blk_new _ _, (Kd.R_reads' ho).2.1, Kd.C_alloc (Kd.R_reads' ho).2.2 _, fun ad e => by have := (hbs ad e).2; omega⟩, ?_, hb.size, fun ad e => (hbs ad e).1, by omega, fun ad e => by have := (hbs ad e).2; omega, hb.alloc hb.size _⟩
  obtain ⟨inner, hlen, hrow⟩ := Kd.R_own ho
  rcases hrow with ⟨_, h0⟩ | ⟨q, cap, cur, ev, _, hq, h1, _, h3, _⟩
  · exact .inl (List.length_eq_zero_iff.mp h0)
  · injection ev with e1 e2 e3
    have hB : Below w1.heap.size w1 (w1.alloc (.cells #[.slice A1 l0.length c1, .bool false] 55 (0, 0))) := (Below.refl _ _).grown (World.grownBy_alloc w1 _ none) (Nat.le_refl _) (by intro k h; cases h)
    exact .inr ⟨q, cur, e1, (hB.block q (blk_lt hq)).trans hq, by rw [h3]; show l0.length ≤ cap * 1; omega⟩
/-! the reference's reader -/
def Rr_Is (w : World) (g : Nat) (A : Option Addr) (l : List Int) (bad : Bool) : Prop :=
  ∃ c, w.heap[g]? = some (.cells #[.slice A l.length c, .bool bad] 39 (0, 0)) ∧ l.length ≤ c ∧ Kd.C (Kd.int .u8) w A l.length l ∧ ∀ ad, A = some ad → ad.block ≠ g
set_option maxHeartbeats 8000000 in
set_option maxRecDepth 100000 in
theorem Rr_Number_bad.calls (g : Nat) (A : Option Addr) (l : List Int) (lo hi : Int) (w : World) (hr : Rr_Is w g A l true) :
    Calls Tryd.prog 21 #[.pointer (some ⟨g, 0, none⟩), .int .i64 lo, .int .i64 hi] w fun e w' => e = .returned (.int .i64 0) ∧ Rr_Is w' g A l true ∧ Rd_Keep g w w' := by
  obtain ⟨c, hg, hc, hC, hA⟩ := hr
  have f0 : w.cell? ⟨g, 0, none⟩ = some (.slice A l.length c) := (blk_cell hg 0).trans rfl
  have z0 := blk_frozen hg 0
  have z1 := blk_frozen hg 1
  have f1 : w.cell? ⟨g, 1, none⟩ = some (.bool true) := (blk_cell hg 1).trans rfl
  go_enter Tryd.func21, Tryd.ntmps21
  go_wp2
  go_ret
  exact ⟨rfl, ⟨c, blk_put hg 1 _ rfl, hc, Rd_far (Rd_Keep.set g 1 w _) hC hA, hA⟩, Rd_Keep.set g 1 w _⟩
set_option maxHeartbeats 8000000 in
set_option maxRecDepth 100000 in
theorem Rr_Number_short.calls (g : Nat) (A : Option Addr) (l : List Int) (lo hi : Int) (w : World) (hr : Rr_Is w g A l false) (hl : l.length < 8) :
    Calls Tryd.prog 21 #[.pointer (some ⟨g, 0, none⟩), .int .i64 lo, .int .i64 hi] w fun e w' => e = .returned (.int .i64 0) ∧ Rr_Is w' g A l true ∧ Rd_Keep g w w' := by
  obtain ⟨c, hg, hc, hC, hA⟩ := hr
  have f0 : w.cell? ⟨g, 0, none⟩ = some (.slice A l.length c) := (blk_cell hg 0).trans rfl
  have z0 := blk_frozen hg 0
  have z1 := blk_frozen hg 1
  have f1 : w.cell? ⟨g, 1, none⟩ = some (.bool false) := (blk_cell hg 1).trans rfl
  have c1 : decide (8 > (l.length : Int)) = true := decide_eq_true (by omega)
  have c2 : decide ((l.length : Int) < 8) = true := decide_eq_true (by omega)
  have c3 : decide (l.length < 8) = true := decide_eq_true (by omega)
  go_enter Tryd.func21, Tryd.ntmps21
  go_wp2
  go_ret
  exact ⟨rfl, ⟨c, blk_put hg 1 _ rfl, hc, Rd_far (Rd_Keep.set g 1 w _) hC hA, hA⟩, Rd_Keep.set g 1 w _⟩
set_option maxHeartbeats 8000000 in
set_option maxRecDepth 100000 in
theorem Rr_Number_in.calls (g : Nat) (A : Option Addr) (l : List Int) (lo hi : Int) (w : World) (hr : Rr_Is w g A l false) (hl : 8 ≤ l.length) (hb : ∀ x ∈ l, 0 ≤ x ∧ x < 256) (h1 : lo ≤ wrap64 (Rd_val (l.take 8))) (h2 : wrap64 (Rd_val (l.take 8)) ≤ hi) :
    Calls Tryd.prog 21 #[.pointer (some ⟨g, 0, none⟩), .int .i64 lo, .int .i64 hi] w fun e w' => e = .returned (.int .i64 (wrap64 (Rd_val (l.take 8)))) ∧ (∃ A', Rr_Is w' g A' (l.drop 8) false ∧ Rd_In A A') ∧ Rd_Keep g w w' := by
  obtain ⟨c, hg, hc, hC, hA⟩ := hr
  have f0 : w.cell? ⟨g, 0, none⟩ = some (.slice A l.length c) := (blk_cell hg 0).trans rfl
  have z0 := blk_frozen hg 0
  have z1 := blk_frozen hg 1
  have f1 : w.cell? ⟨g, 1, none⟩ = some (.bool false) := (blk_cell hg 1).trans rfl
  have c1 : decide (8 > (l.length : Int)) = false := decide_eq_false (by omega)
  have c2 : decide ((l.length : Int) < 8) = false := decide_eq_false (by omega)
  have c3 : decide (l.length < 8) = false := decide_eq_false (by omega)
  have d1 : decide (wrap64 (Rd_val (l.take 8)) < lo) = false := decide_eq_false (by omega)
  have d2 : decide (hi < wrap64 (Rd_val (l.take 8))) = false := decide_eq_false (by omega)
  have hc8 : 8 ≤ c := by omega
  obtain ⟨_, _, h3⟩ := Kd.reads_of_C (d := (0 : Int)) hC
  obtain ⟨ad, rfl, hcell⟩ := h3 (by omega)
  have hdl : (l.drop 8).length = l.length - 8 := List.length_drop
  have HDL := Aside0.mk hdl
  clear hdl
  have hcell2 : ∀ j (hj : j < 8), w.cell? (ad.add j) = some (.int .u8 (l[j]'(by omega))) := fun j hj => by
    rw [hcell j (by omega), List.getD_eq_getElem?_getD, List.getElem?_eq_getElem (by omega)]
    rfl
  go_enter Tryd.func21, Tryd.ntmps21
  go_wp2
  go_loopg [7, 8] 8 (fun kq v7 v8 w' => ∃ (j : Nat), v8 = .int .i64 (j : Int) ∧ v7 = .int .u64 (Rd_val (l.take j)) ∧ Aside0 (j + kq = 8) ∧ w' = w)
  case atStart => exact ⟨0, (by first | rfl | (simp; done)), (by first | rfl | (simp [Rd_val]; done)), ⟨rfl⟩, rfl⟩
  case round =>
    obtain ⟨j, rfl, rfl, HJ, rfl⟩ := hrel
    by_cases c5 : j < 8
    · have c5b0 : decide ((j : Int) < 8) = true := decide_eq_true (by omega)
      have c5b1 : decide ((j : Int) < (l.length : Int)) = true := decide_eq_true (by omega)
      have hj0 : (0 : Int) ≤ (j : Int) := by omega
      have hj1 : (j : Int) < (l.length : Int) := by omega
      have hx := hcell2 j c5
      cases gk with
      | zero => have := HJ.out; omega
      | succ k1 =>
        go_wp2
        go_roundg k1
        case measure => omega
        case rel => exact ⟨j + 1, (by
            have hw : wrap64 ((j : Int) + 1) = ((j + 1 : Nat) : Int) := by unfold wrap64; omega
            first | rfl | (rw [← hw]; rfl) | (simp [*]; done)), congrArg (Value.int .u64) (Rd_step l hb j c5 (by omega)), ⟨by have := HJ.out; omega⟩, rfl⟩
    · have c5b0 : decide ((j : Int) < 8) = false := decide_eq_false (by omega)
      obtain rfl : j = 8 := by have := HJ.out; omega
      go_wp2
      · go_ret
        have hdn : l.drop 8 = [] := List.length_eq_zero_iff.mp (by rw [HDL.out]; omega)
        refine ⟨rfl, ⟨some ad, ⟨0, ?_, by rw [HDL.out]; omega, (by rw [hdn]; exact Kd.C_any0 _ _), hA⟩, Rd_In.refl _⟩, Rd_Keep.set g 0 _ _⟩
        rw [HDL.out]
        exact blk_put hg 0 _ (by first | rfl | (simp [*]; done))
      · go_ret
        refine ⟨rfl, ⟨some (ad.add 8), ⟨c - 8, ?_, by rw [HDL.out]; omega, Rd_drop 8 hl (Rd_far (Rd_Keep.set g 0 _ _) hC hA), fun ad2 e => by obtain rfl := Option.some.inj e; exact hA ad rfl⟩, Rd_In_add _ _⟩, Rd_Keep.set g 0 _ _⟩
        rw [HDL.out]
        exact blk_put hg 0 _ (by first | rfl | (simp [*]; done))
set_option maxHeartbeats 8000000 in
set_option maxRecDepth 100000 in
theorem Rr_Number_lo.calls (g : Nat) (A : Option Addr) (l : List Int) (lo hi : Int) (w : World) (hr : Rr_Is w g A l false) (hl : 8 ≤ l.length) (hb : ∀ x ∈ l, 0 ≤ x ∧ x < 256) (h1 : wrap64 (Rd_val (l.take 8)) < lo) :
    Calls Tryd.prog 21 #[.pointer (some ⟨g, 0, none⟩), .int .i64 lo, .int .i64 hi] w fun e w' => e = .returned (.int .i64 0) ∧ Rr_Is w' g A l true ∧ Rd_Keep g w w' := by
  obtain ⟨c, hg, hc, hC, hA⟩ := hr
  have f0 : w.cell? ⟨g, 0, none⟩ = some (.slice A l.length c) := (blk_cell hg 0).trans rfl
  have z0 := blk_frozen hg 0
  have z1 := blk_frozen hg 1
  have f1 : w.cell? ⟨g, 1, none⟩ = some (.bool false) := (blk_cell hg 1).trans rfl
  have c1 : decide (8 > (l.length : Int)) = false := decide_eq_false (by omega)
  have c2 : decide ((l.length : Int) < 8) = false := decide_eq_false (by omega)
  have c3 : decide (l.length < 8) = false := decide_eq_false (by omega)
  have d1 : decide (wrap64 (Rd_val (l.take 8)) < lo) = true := decide_eq_true h1
  have hc8 : 8 ≤ c := by omega
  obtain ⟨_, _, h3⟩ := Kd.reads_of_C (d := (0 : Int)) hC
  obtain ⟨ad, rfl, hcell⟩ := h3 (by omega)
  have hdl : (l.drop 8).length = l.length - 8 := List.length_drop
  have HDL := Aside0.mk hdl
  clear hdl
  have hcell2 : ∀ j (hj : j < 8), w.cell? (ad.add j) = some (.int .u8 (l[j]'(by omega))) := fun j hj => by
    rw [hcell j (by omega), List.getD_eq_getElem?_getD, List.getElem?_eq_getElem (by omega)]
    rfl
  go_enter Tryd.func21, Tryd.ntmps21
  go_wp2
  go_loopg [7, 8] 8 (fun kq v7 v8 w' => ∃ (j : Nat), v8 = .int .i64 (j : Int) ∧ v7 = .int .u64 (Rd_val (l.take j)) ∧ Aside0 (j + kq = 8) ∧ w' = w)
  case atStart => exact ⟨0, (by first | rfl | (simp; done)), (by first | rfl | (simp [Rd_val]; done)), ⟨rfl⟩, rfl⟩
  case round =>
    obtain ⟨j, rfl, rfl, HJ, rfl⟩ := hrel
    by_cases c5 : j < 8
    · have c5b0 : decide ((j : Int) < 8) = true := decide_eq_true (by omega)
      have c5b1 : decide ((j : Int) < (l.length : Int)) = true := decide_eq_true (by omega)
      have hj0 : (0 : Int) ≤ (j : Int) := by omega
      have hj1 : (j : Int) < (l.length : Int) := by omega
      have hx := hcell2 j c5
      cases gk with
      | zero => have := HJ.out; omega
      | succ k1 =>
        go_wp2
        go_roundg k1
        case measure => omega
        case rel => exact ⟨j + 1, (by
            have hw : wrap64 ((j : Int) + 1) = ((j + 1 : Nat) : Int) := by unfold wrap64; omega
            first | rfl | (rw [← hw]; rfl) | (simp [*]; done)), congrArg (Value.int .u64) (Rd_step l hb j c5 (by omega)), ⟨by have := HJ.out; omega⟩, rfl⟩
    · have c5b0 : decide ((j : Int) < 8) = false := decide_eq_false (by omega)
      obtain rfl : j = 8 := by have := HJ.out; omega
      go_wp2
      go_ret
      exact ⟨rfl, ⟨c, blk_put hg 1 _ rfl, hc, Rd_far (Rd_Keep.set g 1 _ _) hC hA, hA⟩, Rd_Keep.set g 1 _ _⟩
set_option maxHeartbeats 8000000 in
set_option maxRecDepth 100000 in
theorem Rr_Number_hi.calls (g : Nat) (A : Option Addr) (l : List Int) (lo hi : Int) (w : World) (hr : Rr_Is w g A l false) (hl : 8 ≤ l.length) (hb : ∀ x ∈ l, 0 ≤ x ∧ x < 256) (h0 : lo ≤ wrap64 (Rd_val (l.take 8))) (h1 : hi < wrap64 (Rd_val (l.take 8))) :
    Calls Tryd.prog 21 #[.pointer (some ⟨g, 0, none⟩), .int .i64 lo, .int .i64 hi] w fun e w' => e = .returned (.int .i64 0) ∧ Rr_Is w' g A l true ∧ Rd_Keep g w w' := by
  obtain ⟨c, hg, hc, hC, hA⟩ := hr
  have f0 : w.cell? ⟨g, 0, none⟩ = some (.slice A l.length c) := (blk_cell hg 0).trans rfl
  have z0 := blk_frozen hg 0
  have z1 := blk_frozen hg 1
  have f1 : w.cell? ⟨g, 1, none⟩ = some (.bool false) := (blk_cell hg 1).trans rfl
  have c1 : decide (8 > (l.length : Int)) = false := decide_eq_false (by omega)
  have c2 : decide ((l.length : Int) < 8) = false := decide_eq_false (by omega)
  have c3 : decide (l.length < 8) = false := decide_eq_false (by omega)
  have d1 : decide (wrap64 (Rd_val (l.take 8)) < lo) = false := decide_eq_false (by omega)
  have d2 : decide (hi < wrap64 (Rd_val (l.take 8))) = true := decide_eq_true h1
  have hc8 : 8 ≤ c := by omega
  obtain ⟨_, _, h3⟩ := Kd.reads_of_C (d := (0 : Int)) hC
  obtain ⟨ad, rfl, hcell⟩ := h3 (by omega)
  have hdl : (l.drop 8).length = l.length - 8 := List.length_drop
  have HDL := Aside0.mk hdl
  clear hdl
  have hcell2 : ∀ j (hj : j < 8), w.cell? (ad.add j) = some (.int .u8 (l[j]'(by omega))) := fun j hj => by
    rw [hcell j (by omega), List.getD_eq_getElem?_getD, List.getElem?_eq_getElem (by omega)]
    rfl
  go_enter Tryd.func21, Tryd.ntmps21
  go_wp2
  go_loopg [7, 8] 8 (fun kq v7 v8 w' => ∃ (j : Nat), v8 = .int .i64 (j : Int) ∧ v7 = .int .u64 (Rd_val (l.take j)) ∧ Aside0 (j + kq = 8) ∧ w' = w)
  case atStart => exact ⟨0, (by first | rfl | (simp; done)), (by first | rfl | (simp [Rd_val]; done)), ⟨rfl⟩, rfl⟩
  case round =>
    obtain ⟨j, rfl, rfl, HJ, rfl⟩ := hrel
    by_cases c5 : j < 8
    · have c5b0 : decide ((j : Int) < 8) = true := decide_eq_true (by omega)
      have c5b1 : decide ((j : Int) < (l.length : Int)) = true := decide_eq_true (by omega)
      have hj0 : (0 : Int) ≤ (j : Int) := by omega
      have hj1 : (j : Int) < (l.length : Int) := by omega
      have hx := hcell2 j c5
      cases gk with
      | zero => have := HJ.out; omega
      | succ k1 =>
        go_wp2
        go_roundg k1
        case measure => omega
        case rel => exact ⟨j + 1, (by
            have hw : wrap64 ((j : Int) + 1) = ((j + 1 : Nat) : Int) := by unfold wrap64; omega
            first | rfl | (rw [← hw]; rfl) | (simp [*]; done)), congrArg (Value.int .u64) (Rd_step l hb j c5 (by omega)), ⟨by have := HJ.out; omega⟩, rfl⟩
    · have c5b0 : decide ((j : Int) < 8) = false := decide_eq_false (by omega)
      obtain rfl : j = 8 := by have := HJ.out; omega
      go_wp2
      go_ret
      exact ⟨rfl, ⟨c, blk_put hg 1 _ rfl, hc, Rd_far (Rd_Keep.set g 1 _ _) hC hA, hA⟩, Rd_Keep.set g 1 _ _⟩
/-- The reference's number: what is wrong takes nothing. -/
def Rr_num (l : List Int) (bad : Bool) (lo hi : Int) : Int × List Int × Bool :=
  if bad = true then (0, l, true) else if l.length < 8 then (0, l, true) else
  if wrap64 (Rd_val (l.take 8)) < lo then (0, l, true) else if hi < wrap64 (Rd_val (l.take 8)) then (0, l, true) else (wrap64 (Rd_val (l.take 8)), l.drop 8, false)
theorem Rr_Number.calls (g : Nat) (A : Option Addr) (l : List Int) (bad : Bool) (lo hi : Int) (w : World) (hr : Rr_Is w g A l bad) (hb : ∀ x ∈ l, 0 ≤ x ∧ x < 256) :
    Calls Tryd.prog 21 #[.pointer (some ⟨g, 0, none⟩), .int .i64 lo, .int .i64 hi] w fun e w' => e = .returned (.int .i64 (Rr_num l bad lo hi).1) ∧ (∃ A', Rr_Is w' g A' (Rr_num l bad lo hi).2.1 (Rr_num l bad lo hi).2.2 ∧ Rd_In A A') ∧ Rd_Keep g w w' := by
  cases bad with
  | true => exact (Rr_Number_bad.calls g A l lo hi w hr).mono fun e' w' h => ⟨h.1, ⟨A, h.2.1, Rd_In.refl _⟩, h.2.2⟩
  | false =>
    by_cases c1 : l.length < 8
    · have e : Rr_num l false lo hi = (0, l, true) := by unfold Rr_num; rw [if_neg (by decide), if_pos c1]
      rw [e]
      exact (Rr_Number_short.calls g A l lo hi w hr c1).mono fun e' w' h => ⟨h.1, ⟨A, h.2.1, Rd_In.refl _⟩, h.2.2⟩
    · by_cases c2 : wrap64 (Rd_val (l.take 8)) < lo
      · have e : Rr_num l false lo hi = (0, l, true) := by unfold Rr_num; rw [if_neg (by decide), if_neg c1, if_pos c2]
        rw [e]
        exact (Rr_Number_lo.calls g A l lo hi w hr (by omega) hb c2).mono fun e' w' h => ⟨h.1, ⟨A, h.2.1, Rd_In.refl _⟩, h.2.2⟩
      · by_cases c3 : hi < wrap64 (Rd_val (l.take 8))
        · have e : Rr_num l false lo hi = (0, l, true) := by unfold Rr_num; rw [if_neg (by decide), if_neg c1, if_neg c2, if_pos c3]
          rw [e]
          exact (Rr_Number_hi.calls g A l lo hi w hr (by omega) hb (by omega) c3).mono fun e' w' h => ⟨h.1, ⟨A, h.2.1, Rd_In.refl _⟩, h.2.2⟩
        · have e : Rr_num l false lo hi = (wrap64 (Rd_val (l.take 8)), l.drop 8, false) := by unfold Rr_num; rw [if_neg (by decide), if_neg c1, if_neg c2, if_neg c3]
          rw [e]
          exact (Rr_Number_in.calls g A l lo hi w hr (by omega) hb (by omega) (by omega)).mono fun e' w' h => ⟨h.1, h.2.1, h.2.2⟩
set_option maxHeartbeats 8000000 in
set_option maxRecDepth 100000 in
theorem Rr_Left.calls (g : Nat) (A : Option Addr) (l : List Int) (bad : Bool) (w : World) (hr : Rr_Is w g A l bad) :
    Calls Tryd.prog 27 #[.pointer (some ⟨g, 0, none⟩)] w fun e w' => e = .returned (.int .i64 (if bad = true then 0 else (l.length : Int))) ∧ w' = w := by
  obtain ⟨c, hg, hc, hC, hA⟩ := hr
  have f0 : w.cell? ⟨g, 0, none⟩ = some (.slice A l.length c) := (blk_cell hg 0).trans rfl
  have f1 : w.cell? ⟨g, 1, none⟩ = some (.bool bad) := (blk_cell hg 1).trans rfl
  cases bad with
  | true =>
    go_enter Tryd.func27, Tryd.ntmps27
    go_wp2
    go_ret
    exact ⟨rfl, rfl⟩
  | false =>
    go_enter Tryd.func27, Tryd.ntmps27
    go_wp2
    go_ret
    exact ⟨rfl, rfl⟩
set_option maxHeartbeats 8000000 in
set_option maxRecDepth 100000 in
theorem Rr_End.calls (g : Nat) (A : Option Addr) (l : List Int) (bad : Bool) (w : World) (hr : Rr_Is w g A l bad) :
    Calls Tryd.prog 30 #[.pointer (some ⟨g, 0, none⟩)] w fun e w' => e = .returned (.int .i64 (if bad = true ∨ 0 < l.length then 4 else 0)) ∧ w' = w := by
  obtain ⟨c, hg, hc, hC, hA⟩ := hr
  have f0 : w.cell? ⟨g, 0, none⟩ = some (.slice A l.length c) := (blk_cell hg 0).trans rfl
  have f1 : w.cell? ⟨g, 1, none⟩ = some (.bool bad) := (blk_cell hg 1).trans rfl
  cases bad with
  | true =>
    rw [if_pos (Or.inl rfl)]
    go_enter Tryd.func30, Tryd.ntmps30
    go_wp2
    go_ret
    exact ⟨rfl, rfl⟩
  | false =>
    by_cases h : 0 < l.length
    · rw [if_pos (Or.inr h)]
      have c1 : decide ((l.length : Int) > 0) = true := decide_eq_true (by omega)
      have c2 : decide (0 < (l.length : Int)) = true := decide_eq_true (by omega)
      have c3 : decide (0 < l.length) = true := decide_eq_true h
      clear h
      go_enter Tryd.func30, Tryd.ntmps30
      go_wp2
      go_ret
      exact ⟨rfl, rfl⟩
    · rw [if_neg (by simp [h])]
      have c1 : decide ((l.length : Int) > 0) = false := decide_eq_false (by omega)
      have c2 : decide (0 < (l.length : Int)) = false := decide_eq_false (by omega)
      have c3 : decide (0 < l.length) = false := decide_eq_false h
      clear h
      go_enter Tryd.func30, Tryd.ntmps30
      go_wp2
      go_ret
      exact ⟨rfl, rfl⟩
/-- What a call of the reference's reader leaves as it was. -/
structure Rr_Keep (g : Nat) (w w' : World) : Prop where
  size : w.heap.size ≤ w'.heap.size
  far : ∀ k, k ≠ g → k < w.heap.size → w'.heap[k]? = w.heap[k]?
  below : ∀ B w0, B ≤ g → B ≤ w.heap.size → Below B w0 w → Below B w0 w'
theorem Rd_Keep.to {g : Nat} {w w' : World} (h : Rd_Keep g w w') : Rr_Keep g w w' := ⟨Nat.le_of_eq h.size.symm, fun k hk _ => h.far k hk, fun B w0 hB _ hb => h.below B w0 hB hb⟩
theorem Rr_Keep.trans {g : Nat} {a b c : World} (h : Rr_Keep g a b) (k : Rr_Keep g b c) : Rr_Keep g a c := ⟨Nat.le_trans h.size k.size, fun j hj hl => (k.far j hj (Nat.lt_of_lt_of_le hl h.size)).trans (h.far j hj hl), fun B w0 hB hs hb => k.below B w0 hB (Nat.le_trans hs h.size) (h.below B w0 hB hs hb)⟩
theorem Rr_Keep.of_below {g : Nat} {w w' : World} (h : Below w.heap.size w w') : Rr_Keep g w w' := ⟨h.size, fun k _ hl => h.block k hl, fun B w0 _ hs hb => hb.trans (h.mono hs)⟩
theorem Rr_below {B : Nat} {w w' : World} (hb : Below B w w') {g : Nat} {A : Option Addr} {l : List Int} {bad : Bool} (hg : g < B) (hA : ∀ ad, A = some ad → ad.block < B) (hr : Rr_Is w g A l bad) : Rr_Is w' g A l bad := by
  obtain ⟨c, hg2, hc, hC, hA2⟩ := hr
  refine ⟨c, (hb.block g hg).trans hg2, hc, ?_, hA2⟩
  obtain ⟨h1, h2, h3⟩ := Kd.reads_of_C (d := (0 : Int)) hC
  refine Kd.C_of_reads (d := (0 : Int)) ⟨h1, h2, fun hn => ?_⟩
  obtain ⟨ad, e, hc⟩ := h3 hn
  refine ⟨ad, e, fun j hj => ?_⟩
  rw [← hc j hj]
  have hbl : (ad.add j).block = ad.block := by unfold Addr.add; split <;> rfl
  unfold World.cell?
  rw [hbl, hb.block _ (hA ad e)]
/-- What the reference's bytes are. -/
def Rr_byt (l : List Int) (bad : Bool) (most : Int) : List Int × List Int × Bool :=
  if most < 0 then ([], (Rr_num l bad 0 0).2.1, true) else
  if (Rr_num l bad 0 most).2.2 = true ∨ (Rr_num l bad 0 most).2.1.length < (Rr_num l bad 0 most).1.toNat then ([], (Rr_num l bad 0 most).2.1, true) else
  ((Rr_num l bad 0 most).2.1.take (Rr_num l bad 0 most).1.toNat, (Rr_num l bad 0 most).2.1.drop (Rr_num l bad 0 most).1.toNat, false)
def Rr_Byted (g : Nat) (A : Option Addr) (r : List Int × List Int × Bool) (w : World) (e : Ending) (w' : World) : Prop :=
  ∃ v, e = .returned v ∧ Kd.R (Kd.int .u8) 5 w' w.heap.size (fun _ => True) v r.1 ∧ (∃ A', Rr_Is w' g A' r.2.1 r.2.2 ∧ Rd_In A A') ∧ Rr_Keep g w w'
theorem Rr_num_range (l : List Int) (bad : Bool) (hi : Int) : 0 ≤ (Rr_num l bad 0 hi).1 := by
  unfold Rr_num
  split
  · exact Int.le_refl 0
  · split
    · exact Int.le_refl 0
    · split
      · exact Int.le_refl 0
      · split
        · exact Int.le_refl 0
        · simp only; omega
set_option maxHeartbeats 8000000 in
set_option maxRecDepth 100000 in
theorem Rr_Bytes_neg.calls (g : Nat) (A : Option Addr) (l : List Int) (bad : Bool) (most : Int) (w : World) (hr : Rr_Is w g A l bad) (hb : ∀ x ∈ l, 0 ≤ x ∧ x < 256) (hm : most < 0) :
    Calls Tryd.prog 23 #[.pointer (some ⟨g, 0, none⟩), .int .i64 most] w fun e w' => Rr_Byted g A (Rr_byt l bad most) w e w' := by
  have hnum := Rr_Number.calls g A l bad 0 0 w hr hb
  have e0 : Rr_byt l bad most = ([], (Rr_num l bad 0 0).2.1, true) := by unfold Rr_byt; rw [if_pos hm]
  rw [e0]
  clear e0
  have hn0 := Rr_num_range l bad 0
  generalize Rr_num l bad 0 0 = R at *
  obtain ⟨x, l1, b1⟩ := R
  obtain ⟨n, rfl⟩ := Int.eq_ofNat_of_zero_le hn0
  have HNUM := Aside0.mk hnum
  clear hnum hn0
  have m1 : (if most < 0 then (0 : Int) else most) = 0 := if_pos hm
  have m2 : decide (most < 0) = true := decide_eq_true hm
  have m3 : (if (0 : Int) ≤ most then most else 0) = 0 := if_neg (by omega)
  have m4 : max most 0 = 0 := by omega
  cases b1 with
  | true =>
    go_enter Tryd.func23, Tryd.ntmps23
    go_wp2_with (go_at_call 21; (refine HNUM.out.mono ?_); rintro e w1 ⟨rfl, ⟨A1, hr1, hi1⟩, hk1⟩; obtain ⟨cc, hg1, hcc, hC1, hA1⟩ := hr1; have f0 : w1.cell? ⟨g, 0, none⟩ = some (.slice A1 l1.length cc) := (blk_cell hg1 0).trans rfl; have f1 : w1.cell? ⟨g, 1, none⟩ = some (.bool true) := (blk_cell hg1 1).trans rfl; have z0 := blk_frozen hg1 0; have z1 := blk_frozen hg1 1)
    go_ret
    exact ⟨_, rfl, Kd.R_nil _ _ _ _ _, ⟨A1, ⟨cc, blk_put hg1 1 _ rfl, hcc, Rd_far (Rd_Keep.set g 1 w1 _) hC1 hA1, hA1⟩, hi1⟩, (hk1.trans (Rd_Keep.set g 1 w1 _)).to⟩
  | false =>
    go_enter Tryd.func23, Tryd.ntmps23
    go_wp2_with (go_at_call 21; (refine HNUM.out.mono ?_); rintro e w1 ⟨rfl, ⟨A1, hr1, hi1⟩, hk1⟩; obtain ⟨cc, hg1, hcc, hC1, hA1⟩ := hr1; have f0 : w1.cell? ⟨g, 0, none⟩ = some (.slice A1 l1.length cc) := (blk_cell hg1 0).trans rfl; have f1 : w1.cell? ⟨g, 1, none⟩ = some (.bool false) := (blk_cell hg1 1).trans rfl; have z0 := blk_frozen hg1 0; have z1 := blk_frozen hg1 1)
    go_ret
    exact ⟨_, rfl, Kd.R_nil _ _ _ _ _, ⟨A1, ⟨cc, blk_put hg1 1 _ rfl, hcc, Rd_far (Rd_Keep.set g 1 w1 _) hC1 hA1, hA1⟩, hi1⟩, (hk1.trans (Rd_Keep.set g 1 w1 _)).to⟩
set_option maxHeartbeats 8000000 in
set_option maxRecDepth 100000 in
theorem Rr_Bytes_pos.calls (g : Nat) (A : Option Addr) (l : List Int) (bad : Bool) (most : Int) (w : World) (hr : Rr_Is w g A l bad) (hb : ∀ x ∈ l, 0 ≤ x ∧ x < 256) (hl : l.length < 1000000) (hm : ¬ most < 0) :
    Calls Tryd.prog 23 #[.pointer (some ⟨g, 0, none⟩), .int .i64 most] w fun e w' => Rr_Byted g A (Rr_byt l bad most) w e w' := by
  have hnum := Rr_Number.calls g A l bad 0 most w hr hb
  have e0 : Rr_byt l bad most = (if (Rr_num l bad 0 most).2.2 = true ∨ (Rr_num l bad 0 most).2.1.length < (Rr_num l bad 0 most).1.toNat then ([], (Rr_num l bad 0 most).2.1, true) else ((Rr_num l bad 0 most).2.1.take (Rr_num l bad 0 most).1.toNat, (Rr_num l bad 0 most).2.1.drop (Rr_num l bad 0 most).1.toNat, false)) := by
    unfold Rr_byt
    rw [if_neg hm]
  have hl1 : (Rr_num l bad 0 most).2.1.length ≤ l.length := by
    unfold Rr_num
    split
    · exact Nat.le_refl _
    · split
      · exact Nat.le_refl _
      · split
        · exact Nat.le_refl _
        · split
          · exact Nat.le_refl _
          · simp only [List.length_drop]; omega
  rw [e0]
  clear e0
  have hn0 := Rr_num_range l bad most
  generalize Rr_num l bad 0 most = R at *
  obtain ⟨x, l1, b1⟩ := R
  obtain ⟨n, rfl⟩ := Int.eq_ofNat_of_zero_le hn0
  simp only at hl1
  have HNUM := Aside0.mk hnum
  have HL1 : Aside0 (l1.length < 1000000) := ⟨by omega⟩
  clear hnum hn0 hl1 hl
  have m1 : (if most < 0 then (0 : Int) else most) = most := if_neg hm
  have m2 : decide (most < 0) = false := decide_eq_false hm
  have m3 : (if (0 : Int) ≤ most then most else 0) = most := if_pos (by omega)
  have m4 : max most 0 = most := by omega
  simp only [Int.toNat_natCast]
  cases b1 with
  | true =>
    rw [if_pos (Or.inl rfl)]
    go_enter Tryd.func23, Tryd.ntmps23
    go_wp2_with (go_at_call 21; (refine HNUM.out.mono ?_); rintro e w1 ⟨rfl, ⟨A1, hr1, hi1⟩, hk1⟩; obtain ⟨cc, hg1, hcc, hC1, hA1⟩ := hr1; have f0 : w1.cell? ⟨g, 0, none⟩ = some (.slice A1 l1.length cc) := (blk_cell hg1 0).trans rfl; have f1 : w1.cell? ⟨g, 1, none⟩ = some (.bool true) := (blk_cell hg1 1).trans rfl; have z0 := blk_frozen hg1 0; have z1 := blk_frozen hg1 1)
    go_ret
    exact ⟨_, rfl, Kd.R_nil _ _ _ _ _, ⟨A1, ⟨cc, blk_put hg1 1 _ rfl, hcc, Rd_far (Rd_Keep.set g 1 w1 _) hC1 hA1, hA1⟩, hi1⟩, (hk1.trans (Rd_Keep.set g 1 w1 _)).to⟩
  | false =>
    by_cases hlt : l1.length < n
    · rw [if_pos (Or.inr hlt)]
      have c1 : decide ((n : Int) > (l1.length : Int)) = true := decide_eq_true (by omega)
      have c2 : decide ((l1.length : Int) < (n : Int)) = true := decide_eq_true (by omega)
      have c3 : decide (l1.length < n) = true := decide_eq_true hlt
      clear hlt
      go_enter Tryd.func23, Tryd.ntmps23
      go_wp2_with (go_at_call 21; (refine HNUM.out.mono ?_); rintro e w1 ⟨rfl, ⟨A1, hr1, hi1⟩, hk1⟩; obtain ⟨cc, hg1, hcc, hC1, hA1⟩ := hr1; have f0 : w1.cell? ⟨g, 0, none⟩ = some (.slice A1 l1.length cc) := (blk_cell hg1 0).trans rfl; have f1 : w1.cell? ⟨g, 1, none⟩ = some (.bool false) := (blk_cell hg1 1).trans rfl; have z0 := blk_frozen hg1 0; have z1 := blk_frozen hg1 1)
      go_ret
      exact ⟨_, rfl, Kd.R_nil _ _ _ _ _, ⟨A1, ⟨cc, blk_put hg1 1 _ rfl, hcc, Rd_far (Rd_Keep.set g 1 w1 _) hC1 hA1, hA1⟩, hi1⟩, (hk1.trans (Rd_Keep.set g 1 w1 _)).to⟩
    · rw [if_neg (by simp; omega)]
      have c1 : decide ((n : Int) > (l1.length : Int)) = false := decide_eq_false (by omega)
      have c2 : decide ((l1.length : Int) < (n : Int)) = false := decide_eq_false (by omega)
      have c3 : decide (l1.length < n) = false := decide_eq_false hlt
      have hnl : n ≤ l1.length := by omega
      have HLN : Aside0 (n < 1000000) := ⟨by have := HL1.out; omega⟩
      have HLT : Aside0 ((l1.take n).length = n) := ⟨by rw [List.length_take]; omega⟩
      have HLD : Aside0 ((l1.drop n).length = l1.length - n) := ⟨List.length_drop⟩
      clear hlt
      go_enter Tryd.func23, Tryd.ntmps23
      go_wp2_with (first | (at_builtin; refine Kd.R_append_row (fun x => .int .u8 x) (0 : Int) (h1 := fun _ => rfl) (w0 := w1) w1.heap.size rfl _ _ _ _ (.int .u8 0) 1 rfl Tryd.underlying22 (by kernel_rfl) rfl (by decide) (.slice none 0 0) [] (l1.take n) A1 n cc (fun _ => True) rfl rfl (fun _ _ => trivial) (Kd.R_nil _ _ _ _ _) HP.out (Below.refl _ _) (Nat.le_refl _) (by have := HLN.out; simp; omega) ?_; intro v2 w2 ho2 hb2 hgr2 hat2; have hg2 := (hb2.block g HG1.out).trans hg1; have f0b : w2.cell? ⟨g, 0, none⟩ = some (.slice A1 l1.length cc) := (blk_cell hg2 0).trans rfl; have z0b := blk_frozen hg2 0; have HO2 := Aside0.mk ho2; clear ho2) | ((go_at_call 21; (refine HNUM.out.mono ?_); rintro e w1 ⟨rfl, ⟨A1, hr1, hi1⟩, hk1⟩; obtain ⟨cc, hg1, hcc, hC1, hA1⟩ := hr1; have f0 : w1.cell? ⟨g, 0, none⟩ = some (.slice A1 l1.length cc) := (blk_cell hg1 0).trans rfl; have f1 : w1.cell? ⟨g, 1, none⟩ = some (.bool false) := (blk_cell hg1 1).trans rfl; have z0 := blk_frozen hg1 0; have z1 := blk_frozen hg1 1); have hcn : n ≤ cc := Nat.le_trans hnl hcc; have HP : Aside0 (Kd.C (Kd.int .u8) w1 A1 n (l1.take n)) := ⟨by have := Rd_pre n hnl hC1; rw [HLT.out] at this; exact this⟩; have HG1 : Aside0 (g < w1.heap.size) := ⟨blk_lt hg1⟩))
      · go_ret
        have hdn : l1.drop n = [] := List.drop_of_length_le (by omega)
        have hR0 : Kd.R (Kd.int .u8) 5 w2 w1.heap.size (fun _ => True) v2 (l1.take n) := by have h := HO2.out; rw [List.nil_append] at h; exact h
        have hR : ∀ V : Value, Kd.R (Kd.int .u8) 5 (w2.setCell ⟨g, 0, none⟩ V) w.heap.size (fun _ => True) v2 (l1.take n) := fun V => Kd.R_mono (Kd.R_lower (Kd.R_step (Kd.R_tight rfl hR0) (fun k hk _ => Below.heap_setCell w2 _ V k (by have := Kd.R_base hR0 k hk.symm; have := HG1.out; show k ≠ g; omega))) (Nat.le_of_eq hk1.size.symm)) (fun _ _ => trivial)
        have hkeep : ∀ V : Value, Rr_Keep g w (w2.setCell ⟨g, 0, none⟩ V) := fun V => hk1.to.trans ((Rr_Keep.of_below hb2).trans (Rd_Keep.set g 0 w2 V).to)
        refine ⟨v2, rfl, hR _, ⟨A1, ⟨0, by rw [HLD.out]; exact blk_put hg2 0 _ (by first | rfl | (simp [*]; done)), by rw [HLD.out]; omega, (by show Kd.C (Kd.int .u8) _ A1 (l1.drop n).length (l1.drop n); rw [hdn]; exact Kd.C_any0 _ _), hA1⟩, hi1⟩, hkeep _⟩
      · go_ret
        have hR0 : Kd.R (Kd.int .u8) 5 w2 w1.heap.size (fun _ => True) v2 (l1.take n) := by have h := HO2.out; rw [List.nil_append] at h; exact h
        have hR : ∀ V : Value, Kd.R (Kd.int .u8) 5 (w2.setCell ⟨g, 0, none⟩ V) w.heap.size (fun _ => True) v2 (l1.take n) := fun V => Kd.R_mono (Kd.R_lower (Kd.R_step (Kd.R_tight rfl hR0) (fun k hk _ => Below.heap_setCell w2 _ V k (by have := Kd.R_base hR0 k hk.symm; have := HG1.out; show k ≠ g; omega))) (Nat.le_of_eq hk1.size.symm)) (fun _ _ => trivial)
        have hkeep : ∀ V : Value, Rr_Keep g w (w2.setCell ⟨g, 0, none⟩ V) := fun V => hk1.to.trans ((Rr_Keep.of_below hb2).trans (Rd_Keep.set g 0 w2 V).to)
        cases A1 with
        | none =>
          have hln : l1 = [] := by
            by_cases h0 : 0 < l1.length
            · obtain ⟨ad, e, _⟩ := (Kd.reads_of_C (d := (0 : Int)) hC1).2.2 h0
              cases e
            · exact List.length_eq_zero_iff.mp (by omega)
          have hdn : l1.drop n = [] := by rw [hln, List.drop_nil]
          refine ⟨v2, rfl, hR _, ⟨none, ⟨cc - n, by rw [HLD.out]; exact blk_put hg2 0 _ (by first | rfl | (simp [*]; done)), by rw [HLD.out]; omega, (by show Kd.C (Kd.int .u8) _ none (l1.drop n).length (l1.drop n); rw [hdn]; exact Kd.C_any0 _ _), hA1⟩, hi1⟩, hkeep _⟩
        | some ad =>
          refine ⟨v2, rfl, hR _, ⟨some (ad.add n), ⟨cc - n, by rw [HLD.out]; exact blk_put hg2 0 _ (by first | rfl | (simp [*]; done)), by rw [HLD.out]; omega, Rd_drop n hnl (Rd_far (Rd_Keep.set g 0 w2 _) (Kd.C_below hC1 hb2) hA1), fun ad2 e => by
            obtain rfl := Option.some.inj e
            have hb : (ad.add n).block = ad.block := by unfold Addr.add; split <;> rfl
            rw [hb]
            exact hA1 ad rfl⟩, hi1.trans (Rd_In_add _ _)⟩, hkeep _⟩
theorem Rr_Bytes.calls (g : Nat) (A : Option Addr) (l : List Int) (bad : Bool) (most : Int) (w : World) (hr : Rr_Is w g A l bad) (hb : ∀ x ∈ l, 0 ≤ x ∧ x < 256) (hl : l.length < 1000000) :
    Calls Tryd.prog 23 #[.pointer (some ⟨g, 0, none⟩), .int .i64 most] w fun e w' => Rr_Byted g A (Rr_byt l bad most) w e w' := by
  by_cases hm : most < 0
  · exact Rr_Bytes_neg.calls g A l bad most w hr hb hm
  · exact Rr_Bytes_pos.calls g A l bad most w hr hb hl hm
set_option maxHeartbeats 8000000 in
set_option maxRecDepth 100000 in
theorem Rr_Text.calls (g : Nat) (A : Option Addr) (l : List Int) (bad : Bool) (most : Int) (w : World) (hr : Rr_Is w g A l bad) (hb : ∀ x ∈ l, 0 ≤ x ∧ x < 256) (hl : l.length < 1000000) :
    Calls Tryd.prog 25 #[.pointer (some ⟨g, 0, none⟩), .int .i64 most] w fun e w' => e = .returned (.string (strOfNums (Rr_byt l bad most).1)) ∧ (∃ A', Rr_Is w' g A' (Rr_byt l bad most).2.1 (Rr_byt l bad most).2.2 ∧ Rd_In A A') ∧ Rr_Keep g w w' := by
  go_enter Tryd.func25, Tryd.ntmps25
  go_wp2_with (first | (go_at_call 23; (with_reducible refine (Rr_Bytes.calls g A l bad most _ hr hb hl).mono ?_); rintro e w1 ⟨v1, rfl, ho1, hr1, hk1⟩; obtain ⟨B1, m1, rfl⟩ := Kd.R_slice ho1; have hcv := Kd.C_string (P := Tryd.prog) (A := B1) (c := m1) Tryd.underlying22 Tryd.underlying5 Tryd.underlying9 (Kd.R_reads' ho1).2.2))
  go_ret
  exact ⟨by first | rfl | (simp [*]; done), hr1, hk1⟩
/-! bytes that were handed out are written over, in their block -/
/-- What is left as it was where a stretch of a block is written over. -/
structure Ov_Keep (b o n : Nat) (w w' : World) : Prop where
  size : w.heap.size ≤ w'.heap.size
  far : ∀ k, k ≠ b → k < w.heap.size → w'.heap[k]? = w.heap[k]?
  below : ∀ B w0, B ≤ b → B ≤ w.heap.size → Below B w0 w → Below B w0 w'
  here : ∀ cs, w.heap[b]? = some (.cells cs 5 (0, 0)) → ∃ cs', w'.heap[b]? = some (.cells cs' 5 (0, 0)) ∧ cs'.size = cs.size ∧ ∀ i, (i < o ∨ o + n ≤ i) → cs'[i]? = cs[i]?
theorem Ov_Keep.refl (b o n : Nat) (w : World) : Ov_Keep b o n w w := ⟨Nat.le_refl _, fun _ _ _ => rfl, fun _ _ _ _ h => h, fun cs h => ⟨cs, h, rfl, fun _ _ => rfl⟩⟩
theorem Ov_Keep.trans {b o n : Nat} {a c d : World} (h : Ov_Keep b o n a c) (k : Ov_Keep b o n c d) : Ov_Keep b o n a d := ⟨Nat.le_trans h.size k.size, fun j hj hl => (k.far j hj (Nat.lt_of_lt_of_le hl h.size)).trans (h.far j hj hl), fun B w0 hB hs hb => k.below B w0 hB (Nat.le_trans hs h.size) (h.below B w0 hB hs hb), fun cs hc => by
  obtain ⟨c1, e1, s1, r1⟩ := h.here cs hc
  obtain ⟨c2, e2, s2, r2⟩ := k.here c1 e1
  exact ⟨c2, e2, s2.trans s1, fun i hi => (r2 i hi).trans (r1 i hi)⟩⟩
theorem Ov_Keep.set (b o n j : Nat) (w : World) (v : Value) (hj : j < n) : Ov_Keep b o n w (w.setCell ⟨b, o + j, none⟩ v) := ⟨by simp, fun k hk _ => Below.heap_setCell w _ v k hk, fun B w0 hB _ hb => hb.setCell hB _, fun cs hc => ⟨cs.setIfInBounds (o + j) v, blk_set hc _ _, by simp, fun i hi => by rw [Array.getElem?_setIfInBounds, if_neg (by omega)]⟩⟩
theorem Ov_Keep.of_below {b o n : Nat} {w w' : World} (hb : b < w.heap.size) (h : Below w.heap.size w w') : Ov_Keep b o n w w' := ⟨h.size, fun k _ hl => h.block k hl, fun B w0 _ hs hb => hb.trans (h.mono hs), fun cs hc => ⟨cs, (h.block b hb).trans hc, rfl, fun _ _ => rfl⟩⟩
set_option maxHeartbeats 8000000 in
set_option maxRecDepth 100000 in
theorem Ov.calls (b o n : Nat) (cs : Array Value) (w : World) (hb : w.heap[b]? = some (.cells cs 5 (0, 0))) (hn : o + n ≤ cs.size) (hl : n < 1000000) :
    Calls Tryd.prog 17 #[.slice (some ⟨b, o, none⟩) n n] w fun e w' => e = .returned (.tuple #[]) ∧ Ov_Keep b o n w w' := by
  have HN := Aside0.mk hn
  have HL := Aside0.mk hl
  have HK := Aside0.mk (Ov_Keep.refl b o n w)
  have hblt := blk_lt hb
  clear hn hl
  go_enter Tryd.func17, Tryd.ntmps17
  go_wp2
  go_loopg [2] n (fun kq v2 w' => ∃ (j : Nat), v2 = .int .i64 (j : Int) ∧ Aside0 (j + kq = n) ∧ Aside0 (Ov_Keep b o n w w'))
  case atStart => exact ⟨0, (by first | rfl | (simp; done)), ⟨by omega⟩, HK⟩
  case round =>
    obtain ⟨j, rfl, HJ, HK⟩ := hrel
    obtain ⟨cs2, e2, s2, _⟩ := HK.out.here cs hb
    by_cases c5 : j < n
    · have c5b0 : decide ((j : Int) < (n : Int)) = true := decide_eq_true (by omega)
      have hj0 : (0 : Int) ≤ (j : Int) := by omega
      have ead : (⟨b, o, none⟩ : Addr).add j = ⟨b, o + j, none⟩ := by
        unfold Addr.add
        split
        · rename_i h0; subst h0; rfl
        · rfl
      have hlt : o + j < cs2.size := by have := HN.out; omega
      have q0 : wr.cell? ⟨b, o + j, none⟩ = some (cs2[o + j]) := (blk_cell e2 _).trans (Array.getElem?_eq_getElem hlt)
      have q1 := blk_frozen e2 (o + j)
      clear e2 s2
      cases gk with
      | zero => have := HJ.out; omega
      | succ k1 =>
        go_wp2
        go_roundg k1
        case measure => omega
        case rel => exact ⟨j + 1, (by
            have hw : wrap64 ((j : Int) + 1) = ((j + 1 : Nat) : Int) := by have := HL.out; unfold wrap64; omega
            first | rfl | (rw [← hw]; rfl) | (simp [*]; done)), ⟨by have := HJ.out; omega⟩, ⟨HK.out.trans (Ov_Keep.set b o n j _ _ c5)⟩⟩
    · have c5b0 : decide ((j : Int) < (n : Int)) = false := decide_eq_false (by omega)
      have hsz : o + n ≤ cs2.size := by have := HN.out; omega
      have OLl : Aside0 (((cs2.toList.drop o).take n).length = n) := ⟨by rw [List.length_take, List.length_drop, Array.length_toList]; omega⟩
      have hblt2 : b < wr.heap.size := blk_lt e2
      have OLc : Aside0 (∀ (ob : Obj) (j : Nat) (u : Value), ((cs2.toList.drop o).take n)[j]? = some u → (wr.alloc ob).cell? ((⟨b, o, none⟩ : Addr).add j) = some u) := ⟨fun ob j u hu => by
        have hB : Below wr.heap.size wr (wr.alloc ob) := (Below.refl _ _).grown (World.grownBy_alloc wr ob none) (Nat.le_refl _) (by intro k h; cases h)
        have hbk : ((⟨b, o, none⟩ : Addr).add j).block = b := by unfold Addr.add; split <;> rfl
        have ead : (⟨b, o, none⟩ : Addr).add j = ⟨b, o + j, none⟩ := by
          unfold Addr.add
          split
          · rename_i h0; subst h0; rfl
          · rfl
        rw [hB.cell (by rw [hbk]; exact hblt2), ead, blk_cell e2]
        rw [List.getElem?_take] at hu
        split at hu
        · rw [List.getElem?_drop] at hu
          simpa using hu
        · cases hu⟩
      clear e2 s2
      go_wp2_with (at_builtin; refine Aside0.out ?_)
      refine ⟨?_⟩
      refine wpList_append_grows _ rfl _ _ _ rfl 5 Tryd.t5 (.int .u8 0) 1 1 Tryd.underlying22 (by kernel_rfl) (by kernel_rfl) (by kernel_rfl) (by kernel_rfl) rfl (by decide) (some ⟨b, o, none⟩) n n ((cs2.toList.drop o).take n) rfl (by intro h; cases h) (by rw [OLl.out]; omega) (by intro b2 h2 j2 u2 hu2; cases h2; exact OLc.out _ j2 u2 hu2) ⟨wr.heap.size, 0, none⟩ 1 1 [.int .u8 238] rfl rfl (by
        intro j2 u2 hu2
        rw [List.getElem?_singleton] at hu2
        split at hu2
        · rename_i h0; subst h0; cases hu2; exact (blk_cell (blk_new wr (.cells #[.int .u8 238] 5 (0, 0))) 0).trans rfl
        · cases hu2) (by intro u hu; rw [List.mem_singleton.mp hu]; rfl) (by omega) (by have := HL.out; unfold maxLen; omega) (by have := HL.out; omega) ?_
      intro v2 w2 ho2 hgr2
      have hBa : Below wr.heap.size wr (wr.alloc (.cells #[.int .u8 238] 5 (0, 0))) := (Below.refl _ _).grown (World.grownBy_alloc wr _ none) (Nat.le_refl _) (by intro k h; cases h)
      have hB2 := hBa.grown hgr2 (by simp) (by intro k h; cases h)
      have HE : Aside0 (Ov_Keep b o n w w2) := ⟨HK.out.trans (Ov_Keep.of_below hblt2 hB2)⟩
      clear hBa hB2 ho2 hgr2
      go_wp2
      first | go_end0 | ((try simp only [Exit.inBlock, Exit.then]); refine bodyPost_ret (results_none rfl _ _ _) rfl ?_)
      exact ⟨rfl, HE.out⟩
set_option maxHeartbeats 8000000 in
set_option maxRecDepth 100000 in
theorem Ov0.calls (B : Option Addr) (w : World) :
    Calls Tryd.prog 17 #[.slice B 0 0] w fun e w' => e = .returned (.tuple #[]) ∧ Below w.heap.size w w' := by
  have c5b0 : decide ((0 : Int) < ((0 : Nat) : Int)) = false := decide_eq_false (by omega)
  go_enter Tryd.func17, Tryd.ntmps17
  go_wp2
  go_loopg [2] 0 (fun kq v2 w' => v2 = .int .i64 0 ∧ w' = w)
  case atStart => exact ⟨rfl, rfl⟩
  case round =>
    obtain ⟨rfl, rfl⟩ := hrel
    go_wp2_with (at_builtin; refine wpList_append_grows _ rfl _ _ _ rfl 5 Tryd.t5 (.int .u8 0) 1 1 Tryd.underlying22 (by kernel_rfl) (by kernel_rfl) (by kernel_rfl) (by kernel_rfl) rfl (by decide) B 0 0 [] rfl (fun _ => ⟨rfl, rfl⟩) rfl (by intro b2 h2 j2 u2 hu2; simp at hu2) ⟨wr.heap.size, 0, none⟩ 1 1 [.int .u8 238] rfl rfl (by
        intro j2 u2 hu2
        rw [List.getElem?_singleton] at hu2
        split at hu2
        · rename_i h0; subst h0; cases hu2; exact (blk_cell (blk_new wr (.cells #[.int .u8 238] 5 (0, 0))) 0).trans rfl
        · cases hu2) (by intro u hu; rw [List.mem_singleton.mp hu]; rfl) (by omega) (by decide) (by decide) ?_; intro v2 w2 ho2 hgr2)
    have hBa : Below wr.heap.size wr (wr.alloc (.cells #[.int .u8 238] 5 (0, 0))) := (Below.refl _ _).grown (World.grownBy_alloc wr _ none) (Nat.le_refl _) (by intro k h; cases h)
    have hB2 := hBa.grown hgr2 (by simp) (by intro k h; cases h)
    have HE := Aside0.mk hB2
    clear hBa hB2 ho2 hgr2
    go_wp2
    first | go_end0 | ((try simp only [Exit.inBlock, Exit.then]); refine bodyPost_ret (results_none rfl _ _ _) rfl ?_)
    exact ⟨rfl, HE.out⟩

/-- A reader of a block whose cells ahead of what is left are written over. -/
theorem Rd_ov {w w' : World} {b o n g : Nat} {A : Option Addr} {l : List Int} {bad : Bool} {cs : Array Value} (hk : Ov_Keep b o n w w') (hb : w.heap[b]? = some (.cells cs 5 (0, 0))) (hg : g ≠ b) (hA : l = [] ∨ A = some ⟨b, o + n, none⟩) (hr : Rd_Is w g A l bad) : Rd_Is w' g A l bad := by
  obtain ⟨c, hg2, hc, hC, hA2⟩ := hr
  refine ⟨c, (hk.far g hg (blk_lt hg2)).trans hg2, hc, ?_, hA2⟩
  rcases hA with rfl | rfl
  · exact Kd.C_any0 _ _
  · obtain ⟨h1, h2, h3⟩ := Kd.reads_of_C (d := (0 : Int)) hC
    refine Kd.C_of_reads (d := (0 : Int)) ⟨h1, h2, fun hn => ?_⟩
    obtain ⟨ad, e, hcl⟩ := h3 hn
    obtain rfl := Option.some.inj e
    refine ⟨_, rfl, fun j hj => ?_⟩
    rw [← hcl j hj]
    obtain ⟨cs2, e2, _, e4⟩ := hk.here cs hb
    rw [Rp_add, blk_cell e2, blk_cell hb, e4 _ (.inr (by omega))]
/-- The reference's reader, whose block is another one. -/
theorem Rr_ov {w w' : World} {b o n g : Nat} {A : Option Addr} {l : List Int} {bad : Bool} (hk : Ov_Keep b o n w w') (hg : g ≠ b) (hA : ∀ ad, A = some ad → ad.block ≠ b ∧ ad.block < w.heap.size) (hr : Rr_Is w g A l bad) : Rr_Is w' g A l bad := by
  obtain ⟨c, hg2, hc, hC, hA2⟩ := hr
  refine ⟨c, (hk.far g hg (blk_lt hg2)).trans hg2, hc, ?_, hA2⟩
  obtain ⟨h1, h2, h3⟩ := Kd.reads_of_C (d := (0 : Int)) hC
  refine Kd.C_of_reads (d := (0 : Int)) ⟨h1, h2, fun hn => ?_⟩
  obtain ⟨ad, e, hcl⟩ := h3 hn
  refine ⟨ad, e, fun j hj => ?_⟩
  rw [← hcl j hj]
  have hbl : (ad.add j).block = ad.block := by unfold Addr.add; split <;> rfl
  unfold World.cell?
  rw [hbl, hk.far _ (hA ad e).1 (hA ad e).2]
/-- The two readers: both found something wrong or both have the same left. -/
def RR (l : List Int) (bad : Bool) (l2 : List Int) (bad2 : Bool) : Prop := bad2 = bad ∧ (bad = false → l2 = l)
theorem RR_bad (l l2 : List Int) : RR l true l2 true := ⟨rfl, fun h => nomatch h⟩
theorem RR_same (l : List Int) (b : Bool) : RR l b l b := ⟨rfl, fun _ => rfl⟩
theorem RR_num {l l2 : List Int} {bad bad2 : Bool} (h : RR l bad l2 bad2) (lo hi : Int) : (Rr_num l2 bad2 lo hi).1 = (Rd_num l bad lo hi).1 ∧ RR (Rd_num l bad lo hi).2.1 (Rd_num l bad lo hi).2.2 (Rr_num l2 bad2 lo hi).2.1 (Rr_num l2 bad2 lo hi).2.2 := by
  obtain ⟨rfl, h⟩ := h
  cases bad2 with
  | true => exact ⟨rfl, RR_bad _ _⟩
  | false =>
    obtain rfl := h rfl
    have hf : ¬ (false = true) := by decide
    unfold Rr_num Rd_num
    by_cases c1 : l2.length < 8
    · simp only [if_neg hf, if_pos c1]; exact ⟨trivial, RR_bad _ _⟩
    · by_cases c2 : wrap64 (Rd_val (l2.take 8)) < lo
      · simp only [if_neg hf, if_neg c1, if_pos c2]; exact ⟨trivial, RR_bad _ _⟩
      · by_cases c3 : hi < wrap64 (Rd_val (l2.take 8))
        · simp only [if_neg hf, if_neg c1, if_neg c2, if_pos c3]; exact ⟨trivial, RR_bad _ _⟩
        · simp only [if_neg hf, if_neg c1, if_neg c2, if_neg c3]; exact ⟨trivial, RR_same _ _⟩
theorem RR_byt {l l2 : List Int} {bad bad2 : Bool} (h : RR l bad l2 bad2) (most : Int) : (Rr_byt l2 bad2 most).1 = (Rd_byt l bad most).1 ∧ RR (Rd_byt l bad most).2.1 (Rd_byt l bad most).2.2 (Rr_byt l2 bad2 most).2.1 (Rr_byt l2 bad2 most).2.2 := by
  have hf : ¬ (false = true) := by decide
  have ht : (true = true) := rfl
  unfold Rr_byt Rd_byt
  by_cases hm : most < 0
  · have hb : (Rd_num l bad 0 most).2.2 = true := by
      unfold Rd_num
      split
      · rfl
      · split
        · rfl
        · split
          · rfl
          · split
            · rfl
            · omega
    rw [hb]
    simp only [if_pos hm, Rd_tk, ↓reduceIte]
    exact ⟨trivial, RR_bad _ _⟩
  · obtain ⟨h1, h2, h3⟩ := RR_num h 0 most
    simp only [if_neg hm, h1, h2]
    clear h1 h2
    generalize (Rr_num l2 bad2 0 most).2.1 = m2 at *
    generalize Rd_num l bad 0 most = R at *
    obtain ⟨x, m, b1⟩ := R
    simp only at h3 ⊢
    cases b1 with
    | true => simp only [Rd_tk, true_or, ↓reduceIte]; exact ⟨trivial, RR_bad _ _⟩
    | false =>
      obtain rfl := h3 rfl
      by_cases hl : m2.length < x.toNat
      · have hl2 : false = true ∨ m2.length < x.toNat := Or.inr hl
        simp only [Rd_tk, if_neg hf, if_pos hl, if_pos hl2]; exact ⟨trivial, RR_bad _ _⟩
      · have hl2 : ¬ (false = true ∨ m2.length < x.toNat) := fun h => h.elim hf hl
        simp only [Rd_tk, if_neg hf, if_neg hl, if_neg hl2]; exact ⟨trivial, RR_same _ _⟩
theorem RR_left {l l2 : List Int} {bad bad2 : Bool} (h : RR l bad l2 bad2) : (if bad2 = true then (0 : Int) else (l2.length : Int)) = (if bad = true then 0 else (l.length : Int)) ∧ (bad2 = true ∨ 0 < l2.length ↔ bad = true ∨ 0 < l.length) := by
  obtain ⟨rfl, h⟩ := h
  cases bad2 with
  | true => exact ⟨rfl, by simp⟩
  | false => obtain rfl := h rfl; exact ⟨rfl, Iff.rfl⟩
/-- Both readers, apart from each other and from what was there. -/
structure Cx (B0 : Nat) (w0 : World) (g g2 q s : Nat) (l : List Int) (bad : Bool) (l2 : List Int) (bad2 : Bool) (w : World) : Prop where
  below : Below B0 w0 w
  g0 : B0 ≤ g
  g1 : B0 ≤ g2
  gne : g2 ≠ g
  glt : g < w.heap.size
  g2lt : g2 < w.heap.size
  qg : q ≠ g
  qg2 : q ≠ g2
  q0 : B0 ≤ q
  here : l = [] ∨ ∃ cs, w.heap[q]? = some (.cells cs 5 (0, 0)) ∧ s ≤ cs.size
  pr : ∃ A, Rd_Is w g A l bad ∧ Rp_At q s A l
  rf : ∃ A2, Rr_Is w g2 A2 l2 bad2 ∧ ∀ ad, A2 = some ad → ad.block < w.heap.size ∧ ad.block ≠ q ∧ ad.block ≠ g
  b1 : ∀ x ∈ l, 0 ≤ x ∧ x < 256
  b2 : ∀ x ∈ l2, 0 ≤ x ∧ x < 256
  len : l2.length < 1000000
  len1 : l.length < 2000
theorem Rd_keepA {g g2 : Nat} {w w' : World} {A : Option Addr} {l : List Int} {bad : Bool} (hf : w'.heap[g]? = w.heap[g]?) (hA : l = [] ∨ ∃ ad, A = some ad ∧ w'.heap[ad.block]? = w.heap[ad.block]?) (hr : Rd_Is w g A l bad) : Rd_Is w' g A l bad := by
  obtain ⟨c, hg2, hc, hC, hA2⟩ := hr
  refine ⟨c, hf.trans hg2, hc, ?_, hA2⟩
  rcases hA with rfl | ⟨ad, rfl, hb⟩
  · exact Kd.C_any0 _ _
  · obtain ⟨h1, h2, h3⟩ := Kd.reads_of_C (d := (0 : Int)) hC
    refine Kd.C_of_reads (d := (0 : Int)) ⟨h1, h2, fun hn => ?_⟩
    obtain ⟨ad2, e, hcl⟩ := h3 hn
    obtain rfl := Option.some.inj e
    refine ⟨_, rfl, fun j hj => ?_⟩
    rw [← hcl j hj]
    have hbl : (ad.add j).block = ad.block := by unfold Addr.add; split <;> rfl
    unfold World.cell?
    rw [hbl, hb]
theorem Rr_keepA {g : Nat} {w w' : World} {A : Option Addr} {l : List Int} {bad : Bool} (hf : w'.heap[g]? = w.heap[g]?) (hA : ∀ ad, A = some ad → w'.heap[ad.block]? = w.heap[ad.block]?) (hr : Rr_Is w g A l bad) : Rr_Is w' g A l bad := by
  obtain ⟨c, hg2, hc, hC, hA2⟩ := hr
  refine ⟨c, hf.trans hg2, hc, ?_, hA2⟩
  obtain ⟨h1, h2, h3⟩ := Kd.reads_of_C (d := (0 : Int)) hC
  refine Kd.C_of_reads (d := (0 : Int)) ⟨h1, h2, fun hn => ?_⟩
  obtain ⟨ad, e, hcl⟩ := h3 hn
  refine ⟨ad, e, fun j hj => ?_⟩
  rw [← hcl j hj]
  have hbl : (ad.add j).block = ad.block := by unfold Addr.add; split <;> rfl
  unfold World.cell?
  rw [hbl, hA ad e]
section
variable {B0 : Nat} {w0 : World} {g g2 q s : Nat} {l : List Int} {bad : Bool} {l2 : List Int} {bad2 : Bool} {w w' : World}
theorem Cx.far (h : Cx B0 w0 g g2 q s l bad l2 bad2 w) (hb : Below w.heap.size w w') : Cx B0 w0 g g2 q s l bad l2 bad2 w' := by
  obtain ⟨A, hr, hp⟩ := h.pr
  obtain ⟨A2, hr2, ha2⟩ := h.rf
  refine ⟨h.below.trans (hb.mono (Nat.le_trans ?_ (Nat.le_of_lt h.glt))), h.g0, h.g1, h.gne, Nat.lt_of_lt_of_le h.glt hb.size, Nat.lt_of_lt_of_le h.g2lt hb.size, h.qg, h.qg2, h.q0, ?_, ⟨A, ?_, hp⟩, ⟨A2, ?_, fun ad e => ?_⟩, h.b1, h.b2, h.len, h.len1⟩
  · exact h.g0
  · exact h.here.imp id fun ⟨cs, e, h1⟩ => ⟨cs, (hb.block q (blk_lt e)).trans e, h1⟩
  · refine Rd_keepA (g2 := g2) (hb.block g h.glt) ?_ hr
    rcases hp with rfl | ⟨o, rfl, _⟩
    · exact .inl rfl
    · rcases h.here with rfl | ⟨cs, e, _⟩
      · exact .inl rfl
      · exact .inr ⟨_, rfl, hb.block q (blk_lt e)⟩
  · exact Rr_keepA (hb.block g2 h.g2lt) (fun ad e => hb.block _ (ha2 ad e).1) hr2
  · exact ⟨Nat.lt_of_lt_of_le (ha2 ad e).1 hb.size, (ha2 ad e).2⟩
theorem Cx.pstep {l' : List Int} {bad' : Bool} {A A' : Option Addr} (h : Cx B0 w0 g g2 q s l bad l2 bad2 w) (hk : Rd_Keep g w w') (hr : Rd_Is w' g A' l' bad') (hp : Rp_At q s A' l') (hl : ∀ x ∈ l', x ∈ l) (hn : l'.length ≤ l.length) : Cx B0 w0 g g2 q s l' bad' l2 bad2 w' := by
  obtain ⟨A2, hr2, ha2⟩ := h.rf
  refine ⟨hk.below _ _ h.g0 h.below, h.g0, h.g1, h.gne, by rw [hk.size]; exact h.glt, by rw [hk.size]; exact h.g2lt, h.qg, h.qg2, h.q0, ?_, ⟨A', hr, hp⟩, ⟨A2, ?_, fun ad e => ?_⟩, fun x hx => h.b1 x (hl x hx), h.b2, h.len, Nat.lt_of_le_of_lt hn h.len1⟩
  · rcases h.here with rfl | ⟨cs, e, h1⟩
    · refine .inl (List.eq_nil_iff_forall_not_mem.mpr fun x hx => ?_)
      have := hl x hx
      cases this
    · exact .inr ⟨cs, (hk.far q h.qg).trans e, h1⟩
  · exact Rr_keepA (hk.far g2 h.gne) (fun ad e => hk.far _ (ha2 ad e).2.2) hr2
  · rw [hk.size]; exact ha2 ad e
theorem Cx.rstep {l2' : List Int} {bad2' : Bool} {A2 A2' : Option Addr} (h : Cx B0 w0 g g2 q s l bad l2 bad2 w) (hA : ∀ ad, A2 = some ad → ad.block < w.heap.size ∧ ad.block ≠ q ∧ ad.block ≠ g) (hk : Rr_Keep g2 w w') (hr : Rr_Is w' g2 A2' l2' bad2') (hi : Rd_In A2 A2') (hl : ∀ x ∈ l2', x ∈ l2) (hn : l2'.length ≤ l2.length) : Cx B0 w0 g g2 q s l bad l2' bad2' w' := by
  obtain ⟨A, hr1, hp⟩ := h.pr
  refine ⟨hk.below _ _ h.g1 (Nat.le_trans h.g0 (Nat.le_of_lt h.glt)) h.below, h.g0, h.g1, h.gne, Nat.lt_of_lt_of_le h.glt hk.size, Nat.lt_of_lt_of_le h.g2lt hk.size, h.qg, h.qg2, h.q0, ?_, ⟨A, ?_, hp⟩, ⟨A2', hr, fun ad e => ?_⟩, h.b1, fun x hx => h.b2 x (hl x hx), Nat.lt_of_le_of_lt hn h.len, h.len1⟩
  · exact h.here.imp id fun ⟨cs, e, h1⟩ => ⟨cs, (hk.far q h.qg2 (blk_lt e)).trans e, h1⟩
  · refine Rd_keepA (g2 := g2) (hk.far g (Ne.symm h.gne) h.glt) ?_ hr1
    rcases hp with rfl | ⟨o, rfl, _⟩
    · exact .inl rfl
    · rcases h.here with rfl | ⟨cs, e, _⟩
      · exact .inl rfl
      · exact .inr ⟨_, rfl, hk.far q h.qg2 (blk_lt e)⟩
  · obtain ⟨a0, e0, e1⟩ := hi ad e
    have := hA a0 e0
    rw [e1]
    exact ⟨Nat.lt_of_lt_of_le this.1 hk.size, this.2⟩
end
/-- Where bytes lie that were handed out. -/
def Co (g q s : Nat) (l' : List Int) (B : Option Addr) (out : List Int) (w : World) : Prop :=
  Kd.C (Kd.int .u8) w B out.length out ∧ (out = [] ∨ ∃ o cs, B = some ⟨q, o, none⟩ ∧ o + out.length ≤ s ∧ w.heap[q]? = some (.cells cs 5 (0, 0)) ∧ s ≤ cs.size ∧ (l' = [] ∨ ∀ A' c bad, w.heap[g]? = some (.cells #[.slice A' l'.length c, .bool bad] 55 (0, 0)) → A' = some ⟨q, o + out.length, none⟩))
theorem Co.keep {g q s : Nat} {l' : List Int} {B : Option Addr} {out : List Int} {w w' : World} (h : Co g q s l' B out w) (hg : w'.heap[g]? = w.heap[g]?) (hq : out = [] ∨ w'.heap[q]? = w.heap[q]?) : Co g q s l' B out w' := by
  obtain ⟨hC, ho⟩ := h
  rcases ho with rfl | ⟨o, cs, rfl, h1, h2, h3, h4⟩
  · exact ⟨Kd.C_any0 _ _, .inl rfl⟩
  · by_cases h0 : out = []
    · subst h0; exact ⟨Kd.C_any0 _ _, .inl rfl⟩
    · have hq := hq.resolve_left h0
      refine ⟨?_, .inr ⟨o, cs, rfl, h1, hq.trans h2, h3, h4.imp id fun h5 A' c bad e => h5 A' c bad (hg ▸ e)⟩⟩
      obtain ⟨a1, a2, a3⟩ := Kd.reads_of_C (d := (0 : Int)) hC
      refine Kd.C_of_reads (d := (0 : Int)) ⟨a1, a2, fun hn => ?_⟩
      obtain ⟨ad2, e, hcl⟩ := a3 hn
      obtain rfl := Option.some.inj e
      refine ⟨_, rfl, fun j hj => ?_⟩
      rw [← hcl j hj]
      have hbl : ((⟨q, o, none⟩ : Addr).add j).block = q := by unfold Addr.add; split <;> rfl
      unfold World.cell?
      rw [hbl, hq]
theorem Rd_num_sub (l : List Int) (bad : Bool) (lo hi : Int) : ∀ x ∈ (Rd_num l bad lo hi).2.1, x ∈ l := by
  intro x; unfold Rd_num; split
  · exact id
  · split
    · exact id
    · split
      · exact fun h => List.mem_of_mem_drop h
      · split
        · exact fun h => List.mem_of_mem_drop h
        · exact fun h => List.mem_of_mem_drop h
theorem Rd_byt_sub (l : List Int) (bad : Bool) (most : Int) : ∀ x ∈ (Rd_byt l bad most).2.1, x ∈ l := by
  intro x hx
  refine Rd_num_sub l bad 0 most x ?_
  unfold Rd_byt Rd_tk at hx
  split at hx
  · exact hx
  · split at hx
    · exact hx
    · exact List.mem_of_mem_drop hx
theorem Rd_num_len (l : List Int) (bad : Bool) (lo hi : Int) : (Rd_num l bad lo hi).2.1.length ≤ l.length := by
  unfold Rd_num; split
  · exact Nat.le_refl _
  · split
    · exact Nat.le_refl _
    · split
      · simp only [List.length_drop]; omega
      · split
        · simp only [List.length_drop]; omega
        · simp only [List.length_drop]; omega
theorem Rd_byt_len (l : List Int) (bad : Bool) (most : Int) : (Rd_byt l bad most).1.length ≤ l.length ∧ (Rd_byt l bad most).2.1.length ≤ l.length := by
  have h := Rd_num_len l bad 0 most
  unfold Rd_byt Rd_tk; split
  · exact ⟨Nat.zero_le _, h⟩
  · split
    · exact ⟨Nat.zero_le _, h⟩
    · simp only [List.length_drop, List.length_take]; omega
theorem Rr_num_sub (l : List Int) (bad : Bool) (lo hi : Int) : (∀ x ∈ (Rr_num l bad lo hi).2.1, x ∈ l) ∧ (Rr_num l bad lo hi).2.1.length ≤ l.length := by
  unfold Rr_num; split
  · exact ⟨fun _ => id, Nat.le_refl _⟩
  · split
    · exact ⟨fun _ => id, Nat.le_refl _⟩
    · split
      · exact ⟨fun _ => id, Nat.le_refl _⟩
      · split
        · exact ⟨fun _ => id, Nat.le_refl _⟩
        · exact ⟨fun x h => List.mem_of_mem_drop h, by rw [List.length_drop]; omega⟩
theorem Rr_byt_sub (l : List Int) (bad : Bool) (most : Int) : (∀ x ∈ (Rr_byt l bad most).2.1, x ∈ l) ∧ (Rr_byt l bad most).2.1.length ≤ l.length := by
  have h1 := Rr_num_sub l bad 0 0
  have h2 := Rr_num_sub l bad 0 most
  unfold Rr_byt; split
  · exact h1
  · split
    · exact h2
    · exact ⟨fun x h => h2.1 x (List.mem_of_mem_drop h), by rw [List.length_drop]; omega⟩
section
variable {B0 : Nat} {w0 : World} {g g2 q s : Nat} {l : List Int} {bad : Bool} {l2 : List Int} {bad2 : Bool} {w : World}
theorem Cx.number (h : Cx B0 w0 g g2 q s l bad l2 bad2 w) (lo hi : Int) : Calls Tryd.prog 20 #[.pointer (some ⟨g, 0, none⟩), .int .i64 lo, .int .i64 hi] w fun e w' => e = .returned (.int .i64 (Rd_num l bad lo hi).1) ∧ Cx B0 w0 g g2 q s (Rd_num l bad lo hi).2.1 (Rd_num l bad lo hi).2.2 l2 bad2 w' ∧ Rd_Keep g w w' := by
  obtain ⟨A, hr, hp⟩ := h.pr
  exact (Rd_Number.calls g A l bad lo hi w hr h.b1).mono fun e w' ⟨q1, ⟨A', q2, q3⟩, q4⟩ => ⟨q1, h.pstep (A := A) q4 q2 (Rp_moved hp q3) (Rd_num_sub l bad lo hi) (Rd_num_len l bad lo hi), q4⟩
theorem Cx.rnumber (h : Cx B0 w0 g g2 q s l bad l2 bad2 w) (lo hi : Int) : Calls Tryd.prog 21 #[.pointer (some ⟨g2, 0, none⟩), .int .i64 lo, .int .i64 hi] w fun e w' => e = .returned (.int .i64 (Rr_num l2 bad2 lo hi).1) ∧ Cx B0 w0 g g2 q s l bad (Rr_num l2 bad2 lo hi).2.1 (Rr_num l2 bad2 lo hi).2.2 w' ∧ Rd_Keep g2 w w' := by
  obtain ⟨A, hr, hp⟩ := h.rf
  exact (Rr_Number.calls g2 A l2 bad2 lo hi w hr h.b2).mono fun e w' ⟨q1, ⟨A', q2, q3⟩, q4⟩ => ⟨q1, h.rstep hp q4.to q2 q3 (Rr_num_sub l2 bad2 lo hi).1 (Rr_num_sub l2 bad2 lo hi).2, q4⟩
theorem Cx.bytes (h : Cx B0 w0 g g2 q s l bad l2 bad2 w) (most : Int) : Calls Tryd.prog 22 #[.pointer (some ⟨g, 0, none⟩), .int .i64 most] w fun e w' => ∃ B m, e = .returned (.slice B (Rd_byt l bad most).1.length m) ∧ (Rd_byt l bad most).1.length = m ∧ Co g q s (Rd_byt l bad most).2.1 B (Rd_byt l bad most).1 w' ∧ Cx B0 w0 g g2 q s (Rd_byt l bad most).2.1 (Rd_byt l bad most).2.2 l2 bad2 w' ∧ Rd_Keep g w w' := by
  obtain ⟨A, hr, hp⟩ := h.pr
  refine (Rd_Bytes.calls g A l bad most w hr h.b1).mono fun e w' ⟨B, m, q1, q2, q3, _, _, ⟨A', q5, q6⟩, q7⟩ => ?_
  have hx := h.pstep (A := A) q7 q5 (q6 q s hp).1 (Rd_byt_sub l bad most) (Rd_byt_len l bad most).2
  refine ⟨B, m, q1, q2, ⟨q3, ?_⟩, hx, q7⟩
  by_cases h0 : (Rd_byt l bad most).1 = []
  · exact .inl h0
  obtain ⟨o, e1, e2, e3⟩ := (q6 q s hp).2.resolve_left h0
  have hq : ∃ cs, w'.heap[q]? = some (.cells cs 5 (0, 0)) ∧ s ≤ cs.size := by
    rcases h.here with rfl | ⟨cs, e4, e5⟩
    · exfalso
      apply h0
      unfold Rd_byt Rd_tk Rd_num
      simp
    · exact ⟨cs, (q7.far q h.qg).trans e4, e5⟩
  obtain ⟨cs, e4, e5⟩ := hq
  refine .inr ⟨o, cs, e1, e2, e4, e5, e3.imp id fun e3 A'' c b e6 => ?_⟩
  obtain ⟨c', e7, _⟩ := q5
  rw [e7] at e6
  simp only [Option.some.injEq, Obj.cells.injEq, Array.mk.injEq, List.cons.injEq, Value.slice.injEq] at e6
  rw [← e6.1.1.1]; exact e3
theorem Cx.rbytes (h : Cx B0 w0 g g2 q s l bad l2 bad2 w) (most : Int) : Calls Tryd.prog 23 #[.pointer (some ⟨g2, 0, none⟩), .int .i64 most] w fun e w' => ∃ v, e = .returned v ∧ Kd.R (Kd.int .u8) 5 w' w.heap.size (fun _ => True) v (Rr_byt l2 bad2 most).1 ∧ Cx B0 w0 g g2 q s l bad (Rr_byt l2 bad2 most).2.1 (Rr_byt l2 bad2 most).2.2 w' ∧ Rr_Keep g2 w w' := by
  obtain ⟨A, hr, hp⟩ := h.rf
  exact (Rr_Bytes.calls g2 A l2 bad2 most w hr h.b2 h.len).mono fun e w' ⟨v, q1, q2, ⟨A', q3, q4⟩, q5⟩ => ⟨v, q1, q2, h.rstep hp q5 q3 q4 (Rr_byt_sub l2 bad2 most).1 (Rr_byt_sub l2 bad2 most).2, q5⟩
theorem Cx.text (h : Cx B0 w0 g g2 q s l bad l2 bad2 w) (most : Int) : Calls Tryd.prog 24 #[.pointer (some ⟨g, 0, none⟩), .int .i64 most] w fun e w' => e = .returned (.string (strOfNums (Rd_byt l bad most).1)) ∧ Cx B0 w0 g g2 q s (Rd_byt l bad most).2.1 (Rd_byt l bad most).2.2 l2 bad2 w' ∧ Rd_Keep g w w' := by
  obtain ⟨A, hr, hp⟩ := h.pr
  exact (Rd_Text.calls g A l bad most w hr h.b1).mono fun e w' ⟨q1, ⟨A', q2, q3⟩, q4⟩ => ⟨q1, h.pstep (A := A) q4 q2 (q3 q s hp) (Rd_byt_sub l bad most) (Rd_byt_len l bad most).2, q4⟩
theorem Cx.rtext (h : Cx B0 w0 g g2 q s l bad l2 bad2 w) (most : Int) : Calls Tryd.prog 25 #[.pointer (some ⟨g2, 0, none⟩), .int .i64 most] w fun e w' => e = .returned (.string (strOfNums (Rr_byt l2 bad2 most).1)) ∧ Cx B0 w0 g g2 q s l bad (Rr_byt l2 bad2 most).2.1 (Rr_byt l2 bad2 most).2.2 w' ∧ Rr_Keep g2 w w' := by
  obtain ⟨A, hr, hp⟩ := h.rf
  exact (Rr_Text.calls g2 A l2 bad2 most w hr h.b2 h.len).mono fun e w' ⟨q1, ⟨A', q3, q4⟩, q5⟩ => ⟨q1, h.rstep hp q5 q3 q4 (Rr_byt_sub l2 bad2 most).1 (Rr_byt_sub l2 bad2 most).2, q5⟩
theorem Cx.left (h : Cx B0 w0 g g2 q s l bad l2 bad2 w) : Calls Tryd.prog 26 #[.pointer (some ⟨g, 0, none⟩)] w fun e w' => e = .returned (.int .i64 (if bad = true then 0 else (l.length : Int))) ∧ w' = w := by
  obtain ⟨A, hr, hp⟩ := h.pr
  exact Rd_Left.calls g A l bad w hr
theorem Cx.rleft (h : Cx B0 w0 g g2 q s l bad l2 bad2 w) : Calls Tryd.prog 27 #[.pointer (some ⟨g2, 0, none⟩)] w fun e w' => e = .returned (.int .i64 (if bad2 = true then 0 else (l2.length : Int))) ∧ w' = w := by
  obtain ⟨A, hr, hp⟩ := h.rf
  exact Rr_Left.calls g2 A l2 bad2 w hr
/-- Bytes that were handed out are written over. -/
theorem Cx.over {B : Option Addr} {out : List Int} (h : Cx B0 w0 g g2 q s l bad l2 bad2 w) (ho : Co g q s l B out w) (hl : out.length < 1000000) : Calls Tryd.prog 17 #[.slice B out.length out.length] w fun e w' => e = .returned (.tuple #[]) ∧ Cx B0 w0 g g2 q s l bad l2 bad2 w' ∧ (∀ k, k ≠ q → k < w.heap.size → w'.heap[k]? = w.heap[k]?) := by
  by_cases h0 : out = []
  · subst h0
    exact (Ov0.calls B w).mono fun e w' ⟨q1, q2⟩ => ⟨q1, h.far q2, fun k _ hk => q2.block k hk⟩
  obtain ⟨o, cs, rfl, h1, h2, h3, h4⟩ := ho.2.resolve_left h0
  refine (Ov.calls q o out.length cs w h2 (by omega) hl).mono fun e w' ⟨q1, q2⟩ => ⟨q1, ?_, fun k hk hs => q2.far k hk hs⟩
  obtain ⟨A, hr, hp⟩ := h.pr
  obtain ⟨A2, hr2, ha2⟩ := h.rf
  refine ⟨q2.below _ _ h.q0 (Nat.le_trans h.g0 (Nat.le_of_lt h.glt)) h.below, h.g0, h.g1, h.gne, Nat.lt_of_lt_of_le h.glt q2.size, Nat.lt_of_lt_of_le h.g2lt q2.size, h.qg, h.qg2, h.q0, ?_, ⟨A, Rd_ov q2 h2 (Ne.symm h.qg) ?_ hr, hp⟩, ⟨A2, Rr_ov q2 (Ne.symm h.qg2) (fun ad e => ⟨(ha2 ad e).2.1, (ha2 ad e).1⟩) hr2, fun ad e => ⟨Nat.lt_of_lt_of_le (ha2 ad e).1 q2.size, (ha2 ad e).2⟩⟩, h.b1, h.b2, h.len, h.len1⟩
  · exact .inr (by obtain ⟨cs', e, hs, _⟩ := q2.here cs h2; exact ⟨cs', e, by omega⟩)
  · refine h4.imp id fun h5 => ?_
    obtain ⟨c, e, _⟩ := hr
    exact h5 A c bad e
/-- What is told at the end, and its number. -/
theorem Cx.fin (h : Cx B0 w0 g g2 q s l bad l2 bad2 w) : Calls Tryd.prog 29 #[.pointer (some ⟨g, 0, none⟩)] w fun e w' => ∃ v, e = .returned v ∧ Below w.heap.size w w' ∧ Aside0 (w.cell? ⟨0, 0, none⟩ = some (.iface 81 (.agg #[.pointer (some ⟨1, 48, none⟩)])) → Calls Tryd.prog 28 #[v] w' fun e w'' => e = .returned (.int .i64 (if bad = true ∨ 0 < l.length then 4 else 0)) ∧ Below w'.heap.size w' w'') := by
  obtain ⟨A, hr, hp⟩ := h.pr
  by_cases hb : bad = true ∨ 0 < l.length
  · rw [if_pos hb]
    refine (Rd_EndBad.calls g A l bad w hr hb).mono fun e w' ⟨q1, q2⟩ => ⟨_, q1, ?_, ⟨fun hg => ?_⟩⟩
    · rw [q2]; exact (Below.refl _ _).alloc (Nat.le_refl _) _
    · subst q2
      exact Errs.num_P _ 4 _ (by decide) (((Below.refl _ _).alloc (Nat.le_refl _) _ : Below w.heap.size w (Rd_fault w 4).2).cell (by show (0 : Nat) < w.heap.size; exact Nat.lt_of_le_of_lt (Nat.zero_le _) h.glt) |>.trans hg) ((blk_cell (blk_new _ _) 0).trans rfl)
  · rw [if_neg hb]
    obtain ⟨rfl, h0⟩ : bad = false ∧ l = [] := by
      refine ⟨by cases bad <;> simp_all, List.length_eq_zero_iff.mp (by omega)⟩
    subst h0
    exact (Rd_EndOk.calls g A w hr).mono fun e w' ⟨q1, q2⟩ => ⟨_, q1, by rw [q2]; exact Below.refl _ _, ⟨fun hg => Errs.num_nil _⟩⟩
theorem Cx.rfin (h : Cx B0 w0 g g2 q s l bad l2 bad2 w) : Calls Tryd.prog 30 #[.pointer (some ⟨g2, 0, none⟩)] w fun e w' => e = .returned (.int .i64 (if bad2 = true ∨ 0 < l2.length then 4 else 0)) ∧ w' = w := by
  obtain ⟨A, hr, hp⟩ := h.rf
  exact Rr_End.calls g2 A l2 bad2 w hr
end
theorem Cx_start {w1 w2 w3 : World} {g : Nat} {A A2 : Option Addr} {m2 : Nat} {l0 : List Int} (hrd : Rd_Is w2 g A l0 false) (hq : l0 = [] ∨ ∃ q cs, A = some ⟨q, 0, none⟩ ∧ w2.heap[q]? = some (.cells cs 5 (0, 0)) ∧ l0.length ≤ cs.size) (hn : w1.heap.size ≤ g ∧ (∀ ad, A = some ad → w1.heap.size ≤ ad.block) ∧ g < w2.heap.size ∧ ∀ ad, A = some ad → ad.block < w2.heap.size) (hb2 : Below w1.heap.size w1 w2) (ho3 : Kd.R (Kd.int .u8) 5 w3 w2.heap.size (fun _ => True) (.slice A2 l0.length m2) l0) (hb3 : Below w2.heap.size w2 w3) (hby : ∀ x ∈ l0, 0 ≤ x ∧ x < 256) (hlen : l0.length < 2000) : ∃ q s, Cx w1.heap.size w1 g w3.heap.size q s l0 false l0 false (w3.alloc (.cells #[.slice A2 l0.length m2, .bool false] 39 (0, 0))) := by
  obtain ⟨n1, n2, n3, n4⟩ := hn
  have s12 := hb2.size
  have s23 := hb3.size
  have hsz : (w3.alloc (.cells #[.slice A2 l0.length m2, .bool false] 39 (0, 0))).heap.size = w3.heap.size + 1 := World.size_alloc ..
  have hB : Below w3.heap.size w3 (w3.alloc (.cells #[.slice A2 l0.length m2, .bool false] 39 (0, 0))) := (Below.refl _ _).alloc (Nat.le_refl _) _
  have hB2 := hb3.trans (hB.mono s23)
  have hbs : ∀ ad, A2 = some ad → w2.heap.size ≤ ad.block ∧ ad.block < w3.heap.size := fun ad e => by
    subst e
    exact ⟨Kd.R_base ho3 _ rfl, Kd.R_lt ho3 _ rfl⟩
  have hrd' := Rd_keepA (g2 := g) (hB2.block g n3) (by
    rcases hq with rfl | ⟨q, cs, rfl, e, hs⟩
    · exact .inl rfl
    · exact .inr ⟨_, rfl, hB2.block q (n4 _ rfl)⟩) hrd
  have hrf : Rr_Is (w3.alloc (.cells #[.slice A2 l0.length m2, .bool false] 39 (0, 0))) w3.heap.size A2 l0 false := ⟨m2, blk_new _ _, (Kd.R_reads' ho3).2.1, Kd.C_alloc (Kd.R_reads' ho3).2.2 _, fun ad e => by have := (hbs ad e).2; omega⟩
  rcases hq with rfl | ⟨q, cs, rfl, e, hs⟩
  · exact ⟨w3.heap.size + 1, 0, (hb2.trans (hB2.mono s12)), n1, by omega, by omega, by omega, by omega, by omega, by omega, by omega, .inl rfl, ⟨A, hrd', .inl rfl⟩, ⟨A2, hrf, fun ad e => by have := hbs ad e; omega⟩, hby, hby, by omega, hlen⟩
  · have h5 : w1.heap.size ≤ q := n2 _ rfl
    have h6 : q < w2.heap.size := n4 _ rfl
    have hqg : q ≠ g := by
      obtain ⟨_, _, _, _, h4⟩ := hrd
      exact h4 _ rfl
    exact ⟨q, cs.size, (hb2.trans (hB2.mono s12)), n1, by omega, by omega, by omega, by omega, hqg, by omega, by omega, .inr ⟨cs, (hB2.block q (by omega)).trans e, Nat.le_refl _⟩, ⟨_, hrd', .inr ⟨0, rfl, by omega⟩⟩, ⟨A2, hrf, fun ad e => by have := hbs ad e; omega⟩, hby, hby, by omega, hlen⟩
theorem same_self_l : ∀ (k i : Nat) (l : List Int), l.length < 1000000 → i ≤ l.length → l.length < i + k → chatelainelaw0_SameBytes.l0 k l l (i : Int) = some true
  | 0, i, l, _, h1, h2 => by omega
  | k + 1, i, l, h0, h1, h2 => by
    rw [chatelainelaw0_SameBytes.l0]
    by_cases c : (i : Int) < (l.length : Int)
    · have hw : wrap64 ((i : Int) + 1) = ((i + 1 : Nat) : Int) := by unfold wrap64; omega
      rw [if_pos c, if_pos (by omega), if_pos c, if_pos rfl, hw]
      exact same_self_l k (i + 1) l h0 (by omega) (by omega)
    · rw [if_neg c]
theorem same_self (k : Nat) (l : List Int) (h0 : l.length < 1000000) (h : l.length < k) : chatelainelaw0_SameBytes.f k l l = some true := by
  unfold chatelainelaw0_SameBytes.f
  rw [if_pos rfl]
  exact same_self_l k 0 l h0 (Nat.zero_le _) (by omega)
def chatelainelaw14_CodeReads.f (k : Nat) (l0 : List Int) (l1 : List S41) : Option Bool :=
  if l0.length > 600 ∨ l1.length > 30 then chatelainelaw14_awake.f else
  (slices_Clone_byte_byte.f l0).bind fun b => (chatelainelaw0_LendBytes.f l0).bind fun b2 => (chatelainelaw0_KeptBytes.f k l0 l0).bind fun t =>
  if decide (b = l0) && decide (b2 = l0) && t && decide (∀ x ∈ l0, 0 ≤ x ∧ x < 256) && decide (2000 ≤ k) then some true else none
set_option maxHeartbeats 8000000 in
set_option maxRecDepth 100000 in
theorem chatelainelaw14_CodeReads.calls (k : Nat) (A0 : Option Addr) (c0 : Nat) (l0 : List Int) (A1 : Option Addr) (c1 : Nat) (l1 : List S41) (r : Bool) (w : World) (hr0 : Kd.C (Kd.int .u8) w A0 l0.length l0) (hc0 : l0.length ≤ c0) (hr1 : Kd.C k41 w A1 l1.length l1) (hc1 : l1.length ≤ c1) (hg_ : w.cell? ⟨0, 0, none⟩ = some (.iface 81 (.agg #[.pointer (some ⟨1, 48, none⟩)]))) (h : chatelainelaw14_CodeReads.f k l0 l1 = some r) :
    Calls Tryd.prog 6 #[.slice A0 l0.length c0, .slice A1 l1.length c1] w fun e w' => e = .returned (.bool r) ∧ Below w.heap.size w w' := by
  unfold chatelainelaw14_CodeReads.f at h
  have aw : chatelainelaw14_awake.f = some true := rfl
  by_cases g1 : l0.length > 600
  · rw [if_pos (Or.inl g1), aw] at h
    obtain rfl := Option.some.inj h
    have c2 : decide ((l0.length : Int) > 600) = true := decide_eq_true (by omega)
    have c3 : decide (600 < (l0.length : Int)) = true := decide_eq_true (by omega)
    have c4 : decide (600 < l0.length) = true := decide_eq_true (by omega)
    clear h g1
    go_enter Tryd.func6, Tryd.ntmps6
    go_wp2_with (go_at_call 8; refine (chatelainelaw14_awake.calls true _ hg_ aw).mono ?_; rintro e w1 ⟨rfl, hb⟩)
    go_ret
    exact ⟨rfl, hb⟩
  have c2 : decide ((l0.length : Int) > 600) = false := decide_eq_false (by omega)
  have c3 : decide (600 < (l0.length : Int)) = false := decide_eq_false (by omega)
  have c4 : decide (600 < l0.length) = false := decide_eq_false (by omega)
  by_cases g2 : l1.length > 30
  · rw [if_pos (Or.inr g2), aw] at h
    obtain rfl := Option.some.inj h
    have c5 : decide ((l1.length : Int) > 30) = true := decide_eq_true (by omega)
    have c6 : decide (30 < (l1.length : Int)) = true := decide_eq_true (by omega)
    have c7 : decide (30 < l1.length) = true := decide_eq_true (by omega)
    clear h g1 g2
    go_enter Tryd.func6, Tryd.ntmps6
    go_wp2_with (go_at_call 8; refine (chatelainelaw14_awake.calls true _ hg_ aw).mono ?_; rintro e w1 ⟨rfl, hb⟩)
    go_ret
    exact ⟨rfl, hb⟩
  have c5 : decide ((l1.length : Int) > 30) = false := decide_eq_false (by omega)
  have c6 : decide (30 < (l1.length : Int)) = false := decide_eq_false (by omega)
  have c7 : decide (30 < l1.length) = false := decide_eq_false (by omega)
  rw [if_neg (by omega)] at h
  obtain ⟨b, h1, h⟩ := Option.bind_eq_some_iff.mp h
  obtain ⟨b2, h2, h⟩ := Option.bind_eq_some_iff.mp h
  obtain ⟨t, h3, h⟩ := Option.bind_eq_some_iff.mp h
  have hh : (decide (b = l0) && decide (b2 = l0) && t && decide (∀ x ∈ l0, 0 ≤ x ∧ x < 256) && decide (2000 ≤ k)) = true := by
    by_cases hx : (decide (b = l0) && decide (b2 = l0) && t && decide (∀ x ∈ l0, 0 ≤ x ∧ x < 256) && decide (2000 ≤ k)) = true
    · exact hx
    · rw [if_neg hx] at h
      cases h
  rw [if_pos hh] at h
  obtain rfl := Option.some.inj h
  clear h
  simp only [Bool.and_eq_true, decide_eq_true_eq] at hh
  obtain ⟨⟨⟨⟨e1, e2⟩, e3⟩, e4⟩, e5⟩ := hh
  have e1' := e1.symm
  have e2' := e2.symm
  clear e1 e2
  subst e1' e2' e3
  have HL0 : Aside0 (l0.length ≤ 600) := ⟨by omega⟩
  have HL1 : Aside0 (l1.length ≤ 30) := ⟨by omega⟩
  have HR0 := Aside0.mk hr0
  have HC0 := Aside0.mk hc0
  have HR1 := Aside0.mk hr1
  have HC1 := Aside0.mk hc1
  have H1 := Aside0.mk h1
  have H2 := Aside0.mk h2
  have H3 := Aside0.mk h3
  have E4 := Aside0.mk e4
  have E5 := Aside0.mk e5
  have HG := Aside0.mk hg_
  have AW := Aside0.mk aw
  clear hr0 hc0 hr1 hc1 h1 h2 h3 e4 e5 hg_ aw g1 g2
  go_enter Tryd.func6, Tryd.ntmps6
  go_wp2_with (first | (at_builtin; refine Kd.R_append_row (fun x => .int .u8 x) (0 : Int) (h1 := fun _ => rfl) (w0 := w2) w2.heap.size rfl _ _ _ _ (.int .u8 0) 1 rfl Tryd.underlying22 (by kernel_rfl) rfl (by decide) (.slice none 0 0) [] l0 A0 l0.length c0 (fun _ => True) rfl rfl (fun _ _ => trivial) (Kd.R_nil _ _ _ _ _) HA2.out (Below.refl _ _) (Nat.le_refl _) (by have := HL0.out; simp; omega) ?_; intro v3 w3 ho3 hb3 hgr3 hat3; rw [List.nil_append] at ho3; obtain ⟨A2, m2, rfl⟩ := Kd.R_slice ho3; have HO3 := Aside0.mk ho3; have HB3 := Aside0.mk hb3; clear ho3 hb3 hgr3 hat3) | (go_at_call 19; (refine (Rd_New.calls B1 m1 l0 _ (Kd.R_reads' HO1.out.1).2.2 (Kd.R_reads' HO1.out.1).2.1 H1.out).mono ?_); rintro e w2 ⟨g, A, rfl, hrd, hq, hg1, hA1, hg2, hA2, hb2⟩; have HA2 : Aside0 (Kd.C (Kd.int .u8) w2 A0 l0.length l0) := ⟨Kd.C_below HR0.out (HB1.out.trans (hb2.mono HB1.out.size))⟩; have HRD := Aside0.mk hrd; have HQ := Aside0.mk hq; have HN := Aside0.mk (And.intro hg1 (And.intro hA1 (And.intro hg2 hA2))); have HB2 := Aside0.mk hb2; clear hrd hq hg1 hA1 hg2 hA2 hb2) | (go_at_call 9; (with_reducible refine (chatelainelaw0_LendBytes.calls A0 c0 l0 l0 _ HR0.out HC0.out H2.out).mono ?_); rintro e w1 ⟨v1, rfl, ho1, hb1⟩; obtain ⟨B1, m1, rfl⟩ := Kd.R_slice ho1.1; have HO1 := Aside0.mk ho1; have HB1 := Aside0.mk hb1; clear ho1 hb1))
  obtain ⟨q, s, CX⟩ := Cx_start HRD.out HQ.out HN.out HB2.out HO3.out HB3.out E4.out (by have := HL0.out; omega)
  have HCX := Aside0.mk CX
  clear CX
  go_loopg [8] l1.length (fun kq v8 w' => ∃ (j : Nat) (l : List Int) (bad : Bool) (l2 : List Int) (bad2 : Bool), v8 = .int .i64 (j : Int) ∧ Aside0 (j + kq = l1.length) ∧ Aside0 (Cx w1.heap.size w1 g w3.heap.size q s l bad l2 bad2 w') ∧ Aside0 (RR l bad l2 bad2))
  case atStart => exact ⟨0, l0, false, l0, false, (by first | rfl | (simp; done)), ⟨by omega⟩, HCX, ⟨RR_same _ _⟩⟩
  case round =>
    obtain ⟨j, l, bad, l2, bad2, rfl, HJ, HX, HRR⟩ := hrel
    by_cases c8 : j < l1.length
    · have c8b : decide ((j : Int) < (l1.length : Int)) = true := decide_eq_true (by omega)
      cases gk with
      | zero => have := HJ.out; omega
      | succ k1 =>
        have hX1 := Kd.C_below HR1.out (HB1.out.trans (HX.out.below.mono HB1.out.size))
        have hGr := pw_cell_below (HB1.out.trans (HX.out.below.mono HB1.out.size)) HG.out
        have HGr := Aside0.mk hGr
        have p40 : 0 ≤ (j : Int) := by omega
        have q40 : (j : Int) < l1.length := by omega
        obtain ⟨ad, hA1, hx0, hx1, hx2⟩ := at_T41 hX1 (j : Int) p40 q40
        subst hA1
        generalize rd_T41 l1 (j : Int) = x at *
        obtain ⟨x0, x1, x2⟩ := x
        simp only [Int.toNat_natCast] at hx0 hx1 hx2
        clear hX1 hGr c8
        replace p40 := eq_true p40
        replace q40 := eq_true q40
        have HX4 : Aside0 (Cx w1.heap.size w1 g w3.heap.size q s l bad l2 bad2 (wr.alloc (.cells #[.int .i64 x0, .int .i64 x1, .int .i64 x2] 41 (0, 0)))) := ⟨HX.out.far ((Below.refl _ _).alloc (Nat.le_refl _) _)⟩
        have HB4 : Aside0 ((wr.alloc (.cells #[.int .i64 x0, .int .i64 x1, .int .i64 x2] 41 (0, 0))).heap[wr.heap.size]? = some (.cells #[.int .i64 x0, .int .i64 x1, .int .i64 x2] 41 (0, 0))) := ⟨blk_new _ _⟩
        have HNq : Aside0 (wr.heap.size ≠ g ∧ wr.heap.size ≠ w3.heap.size) := ⟨by have := HX.out.glt; omega, by have := HX.out.g2lt; omega⟩
        by_cases d0 : x0 = 0
        · subst d0
          obtain ⟨e1, HRR1⟩ := RR_num HRR.out x1 x2
          have N1 : Aside0 (∀ w, Cx w1.heap.size w1 g w3.heap.size q s l bad l2 bad2 w → Calls Tryd.prog 20 #[.pointer (some ⟨g, 0, none⟩), .int .i64 x1, .int .i64 x2] w fun e w' => e = .returned (.int .i64 (Rd_num l bad x1 x2).1) ∧ Cx w1.heap.size w1 g w3.heap.size q s (Rd_num l bad x1 x2).2.1 (Rd_num l bad x1 x2).2.2 l2 bad2 w' ∧ Rd_Keep g w w') := ⟨fun w h => h.number x1 x2⟩
          have N2 : Aside0 (∀ w, Cx w1.heap.size w1 g w3.heap.size q s (Rd_num l bad x1 x2).2.1 (Rd_num l bad x1 x2).2.2 l2 bad2 w → Calls Tryd.prog 21 #[.pointer (some ⟨w3.heap.size, 0, none⟩), .int .i64 x1, .int .i64 x2] w fun e w' => e = .returned (.int .i64 (Rd_num l bad x1 x2).1) ∧ Cx w1.heap.size w1 g w3.heap.size q s (Rd_num l bad x1 x2).2.1 (Rd_num l bad x1 x2).2.2 (Rr_num l2 bad2 x1 x2).2.1 (Rr_num l2 bad2 x1 x2).2.2 w' ∧ Rd_Keep w3.heap.size w w') := ⟨fun w h => by rw [← e1]; exact h.rnumber x1 x2⟩
          clear e1
          have HRR' := Aside0.mk HRR1
          clear HRR1
          generalize (Rr_num l2 bad2 x1 x2).2.1 = l2' at *
          generalize (Rr_num l2 bad2 x1 x2).2.2 = bad2' at *
          generalize (Rd_num l bad x1 x2).1 = rv at *
          generalize (Rd_num l bad x1 x2).2.1 = l' at *
          generalize (Rd_num l bad x1 x2).2.2 = bad' at *
          obtain ⟨nl, hnl⟩ : ∃ nl : Int, (if bad' = true then 0 else (l'.length : Int)) = nl := ⟨_, rfl⟩
          obtain ⟨ne, hne⟩ : ∃ ne : Int, (if bad' = true ∨ 0 < l'.length then 4 else 0 : Int) = ne := ⟨_, rfl⟩
          have HNL := Aside0.mk hnl
          have HNE := Aside0.mk hne
          clear hnl hne
          go_wp2
          generalize hw4 : wr.alloc (.cells #[.int .i64 0, .int .i64 x1, .int .i64 x2] 41 (0, 0)) = w4 at *
          have hS4 : w4.cell? ⟨wr.heap.size, 1, none⟩ = some (.int .i64 x1) ∧ w4.cell? ⟨wr.heap.size, 2, none⟩ = some (.int .i64 x2) := ⟨(blk_cell HB4.out 1).trans rfl, (blk_cell HB4.out 2).trans rfl⟩
          have HB4 := HB4
          clear hw4
          go_region_held3 (fun w' => w'.cell? ⟨wr.heap.size, 1, none⟩ = some (.int .i64 x1) ∧ w'.cell? ⟨wr.heap.size, 2, none⟩ = some (.int .i64 x2)) (first | exact S6.out | exact S5.out | exact hS4 | go_keep) (first | (go_at_call 21; refine (N2.out _ HX5.out).mono ?_; rintro e w6 ⟨rfl, hx6, hk6⟩; have HXF := Aside0.mk hx6; have S6 : Aside0 (w6.cell? ⟨wr.heap.size, 1, none⟩ = some (.int .i64 x1) ∧ w6.cell? ⟨wr.heap.size, 2, none⟩ = some (.int .i64 x2)) := ⟨(blk_cell ((hk6.far _ HNq.out.2).trans HB5.out) 1).trans rfl, (blk_cell ((hk6.far _ HNq.out.2).trans HB5.out) 2).trans rfl⟩; clear hx6 hk6) | (go_at_call 20; refine (N1.out _ (HX4.out.far (Below.drew (Below.refl _ _)))).mono ?_; rintro e w5 ⟨rfl, hx5, hk5⟩; have HX5 := Aside0.mk hx5; have HB5 := Aside0.mk ((hk5.far _ HNq.out.1).trans HB4.out); have S5 : Aside0 (w5.cell? ⟨wr.heap.size, 1, none⟩ = some (.int .i64 x1) ∧ w5.cell? ⟨wr.heap.size, 2, none⟩ = some (.int .i64 x2)) := ⟨(blk_cell HB5.out 1).trans rfl, (blk_cell HB5.out 2).trans rfl⟩; clear hx5 hk5))
          have T1 : Aside0 (∀ w, Cx w1.heap.size w1 g w3.heap.size q s l' bad' l2' bad2' w → Calls Tryd.prog 26 #[.pointer (some ⟨g, 0, none⟩)] w fun e w' => e = .returned (.int .i64 nl) ∧ w' = w) := ⟨fun w h => by rw [← HNL.out]; exact h.left⟩
          have T2 : Aside0 (∀ w, Cx w1.heap.size w1 g w3.heap.size q s l' bad' l2' bad2' w → Calls Tryd.prog 27 #[.pointer (some ⟨w3.heap.size, 0, none⟩)] w fun e w' => e = .returned (.int .i64 nl) ∧ w' = w) := ⟨fun w h => by rw [← HNL.out, ← (RR_left HRR'.out).1]; exact h.rleft⟩
          have T3 : Aside0 (∀ w, Cx w1.heap.size w1 g w3.heap.size q s l' bad' l2' bad2' w → Calls Tryd.prog 29 #[.pointer (some ⟨g, 0, none⟩)] w fun e w' => ∃ v, e = .returned v ∧ Below w.heap.size w w' ∧ Aside0 (w.cell? ⟨0, 0, none⟩ = some (.iface 81 (.agg #[.pointer (some ⟨1, 48, none⟩)])) → Calls Tryd.prog 28 #[v] w' fun e w'' => e = .returned (.int .i64 ne) ∧ Below w'.heap.size w' w'')) := ⟨fun w h => by rw [← HNE.out]; exact h.fin⟩
          have T4 : Aside0 (∀ w, Cx w1.heap.size w1 g w3.heap.size q s l' bad' l2' bad2' w → Calls Tryd.prog 30 #[.pointer (some ⟨w3.heap.size, 0, none⟩)] w fun e w' => e = .returned (.int .i64 ne) ∧ w' = w) := ⟨fun w h => by rw [← HNE.out]; simp only [← (RR_left HRR'.out).2]; exact h.rfin⟩
          go_wp2_with (first | (go_at_call 30; refine (T4.out _ HXC.out).mono ?_; rintro e wD ⟨rfl, rfl⟩) | (go_at_call 28; refine (HNUM.out.out (pw_cell_below (HB1.out.trans (HXF.out.below.mono HB1.out.size)) HG.out)).mono ?_; rintro e wC ⟨rfl, hbC⟩; have HXC := Aside0.mk (HXB.out.far hbC); clear hbC) | (go_at_call 29; refine (T3.out _ HXF.out).mono ?_; rintro e wB ⟨vB, rfl, hbB, hnB⟩; have HXB := Aside0.mk (HXF.out.far hbB); have HNUM := Aside0.mk hnB; clear hbB hnB) | (go_at_call 27; refine (T2.out _ HXF.out).mono ?_; rintro e wA2 ⟨rfl, rfl⟩) | (go_at_call 26; refine (T1.out _ HXF.out).mono ?_; rintro e wA ⟨rfl, rfl⟩))
          go_roundg k1
          case measure => omega
          case rel => exact ⟨j + 1, l', bad', l2', bad2', (by
              have hw : wrap64 ((j : Int) + 1) = ((j + 1 : Nat) : Int) := by have := HJ.out; have := HL1.out; unfold wrap64; omega
              first | rfl | (rw [← hw]; rfl) | (simp [*]; done)), ⟨by have := HJ.out; omega⟩, HXC, HRR'⟩
        · 
          have d0b : decide (x0 = 0) = false := decide_eq_false d0
          have d0c : (x0 == 0) = false := beq_eq_false_iff_ne.mpr d0
          by_cases d1 : x0 = 1
          · subst d1
            obtain ⟨e1, HRR1⟩ := RR_byt HRR.out x2
            have hle := Nat.lt_of_le_of_lt (Rd_byt_len l bad x2).1 HX.out.len1
            have N1 : Aside0 (∀ w, Cx w1.heap.size w1 g w3.heap.size q s l bad l2 bad2 w → Calls Tryd.prog 22 #[.pointer (some ⟨g, 0, none⟩), .int .i64 x2] w fun e w' => ∃ B m, e = .returned (.slice B (Rd_byt l bad x2).1.length m) ∧ (Rd_byt l bad x2).1.length = m ∧ Co g q s (Rd_byt l bad x2).2.1 B (Rd_byt l bad x2).1 w' ∧ Cx w1.heap.size w1 g w3.heap.size q s (Rd_byt l bad x2).2.1 (Rd_byt l bad x2).2.2 l2 bad2 w' ∧ Rd_Keep g w w') := ⟨fun w h => h.bytes x2⟩
            have N2 : Aside0 (∀ w, Cx w1.heap.size w1 g w3.heap.size q s (Rd_byt l bad x2).2.1 (Rd_byt l bad x2).2.2 l2 bad2 w → Calls Tryd.prog 23 #[.pointer (some ⟨w3.heap.size, 0, none⟩), .int .i64 x2] w fun e w' => ∃ v, e = .returned v ∧ Kd.R (Kd.int .u8) 5 w' w.heap.size (fun _ => True) v (Rd_byt l bad x2).1 ∧ Cx w1.heap.size w1 g w3.heap.size q s (Rd_byt l bad x2).2.1 (Rd_byt l bad x2).2.2 (Rr_byt l2 bad2 x2).2.1 (Rr_byt l2 bad2 x2).2.2 w' ∧ Rr_Keep w3.heap.size w w') := ⟨fun w h => by rw [← e1]; exact h.rbytes x2⟩
            clear e1
            have HRR' := Aside0.mk HRR1
            clear HRR1
            generalize (Rr_byt l2 bad2 x2).2.1 = l2' at *
            generalize (Rr_byt l2 bad2 x2).2.2 = bad2' at *
            generalize (Rd_byt l bad x2).1 = out at *
            generalize (Rd_byt l bad x2).2.1 = l' at *
            generalize (Rd_byt l bad x2).2.2 = bad' at *
            have HLE := Aside0.mk hle
            have HSM : Aside0 (chatelainelaw0_SameBytes.f k out out = some true) := ⟨same_self k out (by omega) (by have := E5.out; omega)⟩
            clear hle
            obtain ⟨nl, hnl⟩ : ∃ nl : Int, (if bad' = true then 0 else (l'.length : Int)) = nl := ⟨_, rfl⟩
            obtain ⟨ne, hne⟩ : ∃ ne : Int, (if bad' = true ∨ 0 < l'.length then 4 else 0 : Int) = ne := ⟨_, rfl⟩
            have HNL := Aside0.mk hnl
            have HNE := Aside0.mk hne
            clear hnl hne
            have T1 : Aside0 (∀ w, Cx w1.heap.size w1 g w3.heap.size q s l' bad' l2' bad2' w → Calls Tryd.prog 26 #[.pointer (some ⟨g, 0, none⟩)] w fun e w' => e = .returned (.int .i64 nl) ∧ w' = w) := ⟨fun w h => by rw [← HNL.out]; exact h.left⟩
            have T2 : Aside0 (∀ w, Cx w1.heap.size w1 g w3.heap.size q s l' bad' l2' bad2' w → Calls Tryd.prog 27 #[.pointer (some ⟨w3.heap.size, 0, none⟩)] w fun e w' => e = .returned (.int .i64 nl) ∧ w' = w) := ⟨fun w h => by rw [← HNL.out, ← (RR_left HRR'.out).1]; exact h.rleft⟩
            have T3 : Aside0 (∀ w, Cx w1.heap.size w1 g w3.heap.size q s l' bad' l2' bad2' w → Calls Tryd.prog 29 #[.pointer (some ⟨g, 0, none⟩)] w fun e w' => ∃ v, e = .returned v ∧ Below w.heap.size w w' ∧ Aside0 (w.cell? ⟨0, 0, none⟩ = some (.iface 81 (.agg #[.pointer (some ⟨1, 48, none⟩)])) → Calls Tryd.prog 28 #[v] w' fun e w'' => e = .returned (.int .i64 ne) ∧ Below w'.heap.size w' w'')) := ⟨fun w h => by rw [← HNE.out]; exact h.fin⟩
            have T4 : Aside0 (∀ w, Cx w1.heap.size w1 g w3.heap.size q s l' bad' l2' bad2' w → Calls Tryd.prog 30 #[.pointer (some ⟨w3.heap.size, 0, none⟩)] w fun e w' => e = .returned (.int .i64 ne) ∧ w' = w) := ⟨fun w h => by rw [← HNE.out]; simp only [← (RR_left HRR'.out).2]; exact h.rfin⟩
            go_wp2_with (first | (go_at_call 30; refine (T4.out _ HXC.out).mono ?_; rintro e wD ⟨rfl, rfl⟩) | (go_at_call 28; refine (HNUM.out.out (pw_cell_below (HB1.out.trans (HXF.out.below.mono HB1.out.size)) HG.out)).mono ?_; rintro e wC ⟨rfl, hbC⟩; have HXC := Aside0.mk (HXB.out.far hbC); clear hbC) | (go_at_call 29; refine (T3.out _ HXF.out).mono ?_; rintro e wB ⟨vB, rfl, hbB, hnB⟩; have HXB := Aside0.mk (HXF.out.far hbB); have HNUM := Aside0.mk hnB; clear hbB hnB) | (go_at_call 27; refine (T2.out _ HXF.out).mono ?_; rintro e wA2 ⟨rfl, rfl⟩) | (go_at_call 26; refine (T1.out _ HXF.out).mono ?_; rintro e wA ⟨rfl, rfl⟩) | (go_at_call 17; refine (HX7.out.over HO7.out (by have := HLE.out; omega)).mono ?_; rintro e w8 ⟨rfl, hx8, _⟩; have HXF := Aside0.mk hx8; clear hx8) | (go_at_call 13; refine (chatelainelaw0_SameBytes.calls k B out.length out A9 m9 out true _ HO6.out.1 (Nat.le_refl _) (Kd.R_reads' HR6.out).2.2 (Kd.R_reads' HR6.out).2.1 HSM.out).mono ?_; rintro e w7 ⟨rfl, ⟨nd, rfl⟩⟩; have HX7 := Aside0.mk (HX6.out.far (pw_below_drewN (Below.refl _ _) nd)); have HO7 : Aside0 (Co g q s l' B out (w6.drewN nd)) := ⟨HO6.out.keep rfl (.inr rfl)⟩) | (go_at_call 23; refine (N2.out _ HX5.out).mono ?_; rintro e w6 ⟨v6, rfl, hr6, hx6, hk6⟩; have HX6 := Aside0.mk hx6; obtain ⟨A9, m9, rfl⟩ := Kd.R_slice hr6; have HR6 := Aside0.mk hr6; have HO6 : Aside0 (Co g q s l' B out w6) := ⟨HO5.out.keep (hk6.far g (Ne.symm HX5.out.gne) HX5.out.glt) ((HO5.out.2).imp id fun ⟨o, cs, _, _, e, _⟩ => hk6.far q HX5.out.qg2 (blk_lt e))⟩; clear hr6 hx6 hk6) | (go_at_call 22; refine (N1.out _ HX4.out).mono ?_; rintro e w5 ⟨B, m, rfl, rfl, ho5, hx5, hk5⟩; have HX5 := Aside0.mk hx5; have HO5 := Aside0.mk ho5; have hB5 := (hk5.far _ HNq.out.1).trans HB4.out; have hc5 := (blk_cell hB5 2).trans rfl; clear hx5 hk5 ho5 hB5))
            go_roundg k1
            case measure => omega
            case rel => exact ⟨j + 1, l', bad', l2', bad2', (by
                have hw : wrap64 ((j : Int) + 1) = ((j + 1 : Nat) : Int) := by have := HJ.out; have := HL1.out; unfold wrap64; omega
                first | rfl | (rw [← hw]; rfl) | (simp [*]; done)), ⟨by have := HJ.out; omega⟩, HXC, HRR'⟩
          · 
            have d1b : decide (x0 = 1) = false := decide_eq_false d1
            have d1c : (x0 == 1) = false := beq_eq_false_iff_ne.mpr d1
            by_cases d2 : x0 = 2
            · subst d2
              obtain ⟨e1, HRR1⟩ := RR_byt HRR.out x2
              have N1 : Aside0 (∀ w, Cx w1.heap.size w1 g w3.heap.size q s l bad l2 bad2 w → Calls Tryd.prog 24 #[.pointer (some ⟨g, 0, none⟩), .int .i64 x2] w fun e w' => e = .returned (.string (strOfNums (Rd_byt l bad x2).1)) ∧ Cx w1.heap.size w1 g w3.heap.size q s (Rd_byt l bad x2).2.1 (Rd_byt l bad x2).2.2 l2 bad2 w' ∧ Rd_Keep g w w') := ⟨fun w h => h.text x2⟩
              have N2 : Aside0 (∀ w, Cx w1.heap.size w1 g w3.heap.size q s (Rd_byt l bad x2).2.1 (Rd_byt l bad x2).2.2 l2 bad2 w → Calls Tryd.prog 25 #[.pointer (some ⟨w3.heap.size, 0, none⟩), .int .i64 x2] w fun e w' => e = .returned (.string (strOfNums (Rd_byt l bad x2).1)) ∧ Cx w1.heap.size w1 g w3.heap.size q s (Rd_byt l bad x2).2.1 (Rd_byt l bad x2).2.2 (Rr_byt l2 bad2 x2).2.1 (Rr_byt l2 bad2 x2).2.2 w' ∧ Rr_Keep w3.heap.size w w') := ⟨fun w h => by rw [← e1]; exact h.rtext x2⟩
              clear e1
              have HRR' := Aside0.mk HRR1
              clear HRR1
              generalize (Rr_byt l2 bad2 x2).2.1 = l2' at *
              generalize (Rr_byt l2 bad2 x2).2.2 = bad2' at *
              generalize strOfNums (Rd_byt l bad x2).1 = rv at *
              generalize (Rd_byt l bad x2).2.1 = l' at *
              generalize (Rd_byt l bad x2).2.2 = bad' at *
              obtain ⟨nl, hnl⟩ : ∃ nl : Int, (if bad' = true then 0 else (l'.length : Int)) = nl := ⟨_, rfl⟩
              obtain ⟨ne, hne⟩ : ∃ ne : Int, (if bad' = true ∨ 0 < l'.length then 4 else 0 : Int) = ne := ⟨_, rfl⟩
              have HNL := Aside0.mk hnl
              have HNE := Aside0.mk hne
              clear hnl hne
              go_wp2
              generalize hw4 : wr.alloc (.cells #[.int .i64 2, .int .i64 x1, .int .i64 x2] 41 (0, 0)) = w4 at *
              have hS4 : w4.cell? ⟨wr.heap.size, 1, none⟩ = some (.int .i64 x1) ∧ w4.cell? ⟨wr.heap.size, 2, none⟩ = some (.int .i64 x2) := ⟨(blk_cell HB4.out 1).trans rfl, (blk_cell HB4.out 2).trans rfl⟩
              clear hw4
              go_region_held3 (fun w' => w'.cell? ⟨wr.heap.size, 1, none⟩ = some (.int .i64 x1) ∧ w'.cell? ⟨wr.heap.size, 2, none⟩ = some (.int .i64 x2)) (first | exact S6.out | exact S5.out | exact hS4 | go_keep) (first | (go_at_call 25; refine (N2.out _ HX5.out).mono ?_; rintro e w6 ⟨rfl, hx6, hk6⟩; have HXF := Aside0.mk hx6; have S6 : Aside0 (w6.cell? ⟨wr.heap.size, 1, none⟩ = some (.int .i64 x1) ∧ w6.cell? ⟨wr.heap.size, 2, none⟩ = some (.int .i64 x2)) := ⟨(blk_cell ((hk6.far _ HNq.out.2 (blk_lt HB5.out)).trans HB5.out) 1).trans rfl, (blk_cell ((hk6.far _ HNq.out.2 (blk_lt HB5.out)).trans HB5.out) 2).trans rfl⟩; clear hx6 hk6) | (go_at_call 24; refine (N1.out _ (HX4.out.far (Below.drew (Below.refl _ _)))).mono ?_; rintro e w5 ⟨rfl, hx5, hk5⟩; have HX5 := Aside0.mk hx5; have HB5 := Aside0.mk ((hk5.far _ HNq.out.1).trans HB4.out); have S5 : Aside0 (w5.cell? ⟨wr.heap.size, 1, none⟩ = some (.int .i64 x1) ∧ w5.cell? ⟨wr.heap.size, 2, none⟩ = some (.int .i64 x2)) := ⟨(blk_cell HB5.out 1).trans rfl, (blk_cell HB5.out 2).trans rfl⟩; clear hx5 hk5))
              have T1 : Aside0 (∀ w, Cx w1.heap.size w1 g w3.heap.size q s l' bad' l2' bad2' w → Calls Tryd.prog 26 #[.pointer (some ⟨g, 0, none⟩)] w fun e w' => e = .returned (.int .i64 nl) ∧ w' = w) := ⟨fun w h => by rw [← HNL.out]; exact h.left⟩
              have T2 : Aside0 (∀ w, Cx w1.heap.size w1 g w3.heap.size q s l' bad' l2' bad2' w → Calls Tryd.prog 27 #[.pointer (some ⟨w3.heap.size, 0, none⟩)] w fun e w' => e = .returned (.int .i64 nl) ∧ w' = w) := ⟨fun w h => by rw [← HNL.out, ← (RR_left HRR'.out).1]; exact h.rleft⟩
              have T3 : Aside0 (∀ w, Cx w1.heap.size w1 g w3.heap.size q s l' bad' l2' bad2' w → Calls Tryd.prog 29 #[.pointer (some ⟨g, 0, none⟩)] w fun e w' => ∃ v, e = .returned v ∧ Below w.heap.size w w' ∧ Aside0 (w.cell? ⟨0, 0, none⟩ = some (.iface 81 (.agg #[.pointer (some ⟨1, 48, none⟩)])) → Calls Tryd.prog 28 #[v] w' fun e w'' => e = .returned (.int .i64 ne) ∧ Below w'.heap.size w' w'')) := ⟨fun w h => by rw [← HNE.out]; exact h.fin⟩
              have T4 : Aside0 (∀ w, Cx w1.heap.size w1 g w3.heap.size q s l' bad' l2' bad2' w → Calls Tryd.prog 30 #[.pointer (some ⟨w3.heap.size, 0, none⟩)] w fun e w' => e = .returned (.int .i64 ne) ∧ w' = w) := ⟨fun w h => by rw [← HNE.out]; simp only [← (RR_left HRR'.out).2]; exact h.rfin⟩
              go_wp2_with (first | (go_at_call 30; refine (T4.out _ HXC.out).mono ?_; rintro e wD ⟨rfl, rfl⟩) | (go_at_call 28; refine (HNUM.out.out (pw_cell_below (HB1.out.trans (HXF.out.below.mono HB1.out.size)) HG.out)).mono ?_; rintro e wC ⟨rfl, hbC⟩; have HXC := Aside0.mk (HXB.out.far hbC); clear hbC) | (go_at_call 29; refine (T3.out _ HXF.out).mono ?_; rintro e wB ⟨vB, rfl, hbB, hnB⟩; have HXB := Aside0.mk (HXF.out.far hbB); have HNUM := Aside0.mk hnB; clear hbB hnB) | (go_at_call 27; refine (T2.out _ HXF.out).mono ?_; rintro e wA2 ⟨rfl, rfl⟩) | (go_at_call 26; refine (T1.out _ HXF.out).mono ?_; rintro e wA ⟨rfl, rfl⟩))
              go_roundg k1
              case measure => omega
              case rel => exact ⟨j + 1, l', bad', l2', bad2', (by
                  have hw : wrap64 ((j : Int) + 1) = ((j + 1 : Nat) : Int) := by have := HJ.out; have := HL1.out; unfold wrap64; omega
                  first | rfl | (rw [← hw]; rfl) | (simp [*]; done)), ⟨by have := HJ.out; omega⟩, HXC, HRR'⟩
            · 
              have d2b : decide (x0 = 2) = false := decide_eq_false d2
              have d2c : (x0 == 2) = false := beq_eq_false_iff_ne.mpr d2
              have l' := l
              obtain ⟨l', hl'⟩ : ∃ l', l' = l := ⟨_, rfl⟩
              obtain ⟨bad', hbad'⟩ : ∃ b', b' = bad := ⟨_, rfl⟩
              obtain ⟨l2', hl2'⟩ : ∃ l', l' = l2 := ⟨_, rfl⟩
              obtain ⟨bad2', hbad2'⟩ : ∃ b', b' = bad2 := ⟨_, rfl⟩
              rw [← hl', ← hbad', ← hl2', ← hbad2'] at HX4 HRR
              clear hl' hbad' hl2' hbad2'
              have HRR' := HRR
              have HXF := HX4
              clear HX4 HRR
              obtain ⟨nl, hnl⟩ : ∃ nl : Int, (if bad' = true then 0 else (l'.length : Int)) = nl := ⟨_, rfl⟩
              obtain ⟨ne, hne⟩ : ∃ ne : Int, (if bad' = true ∨ 0 < l'.length then 4 else 0 : Int) = ne := ⟨_, rfl⟩
              have HNL := Aside0.mk hnl
              have HNE := Aside0.mk hne
              clear hnl hne
              have T1 : Aside0 (∀ w, Cx w1.heap.size w1 g w3.heap.size q s l' bad' l2' bad2' w → Calls Tryd.prog 26 #[.pointer (some ⟨g, 0, none⟩)] w fun e w' => e = .returned (.int .i64 nl) ∧ w' = w) := ⟨fun w h => by rw [← HNL.out]; exact h.left⟩
              have T2 : Aside0 (∀ w, Cx w1.heap.size w1 g w3.heap.size q s l' bad' l2' bad2' w → Calls Tryd.prog 27 #[.pointer (some ⟨w3.heap.size, 0, none⟩)] w fun e w' => e = .returned (.int .i64 nl) ∧ w' = w) := ⟨fun w h => by rw [← HNL.out, ← (RR_left HRR'.out).1]; exact h.rleft⟩
              have T3 : Aside0 (∀ w, Cx w1.heap.size w1 g w3.heap.size q s l' bad' l2' bad2' w → Calls Tryd.prog 29 #[.pointer (some ⟨g, 0, none⟩)] w fun e w' => ∃ v, e = .returned v ∧ Below w.heap.size w w' ∧ Aside0 (w.cell? ⟨0, 0, none⟩ = some (.iface 81 (.agg #[.pointer (some ⟨1, 48, none⟩)])) → Calls Tryd.prog 28 #[v] w' fun e w'' => e = .returned (.int .i64 ne) ∧ Below w'.heap.size w' w'')) := ⟨fun w h => by rw [← HNE.out]; exact h.fin⟩
              have T4 : Aside0 (∀ w, Cx w1.heap.size w1 g w3.heap.size q s l' bad' l2' bad2' w → Calls Tryd.prog 30 #[.pointer (some ⟨w3.heap.size, 0, none⟩)] w fun e w' => e = .returned (.int .i64 ne) ∧ w' = w) := ⟨fun w h => by rw [← HNE.out]; simp only [← (RR_left HRR'.out).2]; exact h.rfin⟩
              go_wp2_with (first | (go_at_call 30; refine (T4.out _ HXC.out).mono ?_; rintro e wD ⟨rfl, rfl⟩) | (go_at_call 28; refine (HNUM.out.out (pw_cell_below (HB1.out.trans (HXF.out.below.mono HB1.out.size)) HG.out)).mono ?_; rintro e wC ⟨rfl, hbC⟩; have HXC := Aside0.mk (HXB.out.far hbC); clear hbC) | (go_at_call 29; refine (T3.out _ HXF.out).mono ?_; rintro e wB ⟨vB, rfl, hbB, hnB⟩; have HXB := Aside0.mk (HXF.out.far hbB); have HNUM := Aside0.mk hnB; clear hbB hnB) | (go_at_call 27; refine (T2.out _ HXF.out).mono ?_; rintro e wA2 ⟨rfl, rfl⟩) | (go_at_call 26; refine (T1.out _ HXF.out).mono ?_; rintro e wA ⟨rfl, rfl⟩))
              go_roundg k1
              case measure => omega
              case rel => exact ⟨j + 1, l', bad', l2', bad2', (by
                  have hw : wrap64 ((j : Int) + 1) = ((j + 1 : Nat) : Int) := by have := HJ.out; have := HL1.out; unfold wrap64; omega
                  first | rfl | (rw [← hw]; rfl) | (simp [*]; done)), ⟨by have := HJ.out; omega⟩, HXC, HRR'⟩
    · have c8b : decide ((j : Int) < (l1.length : Int)) = false := decide_eq_false (by omega)
      have hB9 := HX.out.below
      have HLB : Aside0 (Kd.LB (Kd.int .u8) 5 wr w.heap.size (fun _ => True) (.slice B1 l0.length m1) l0) := ⟨Kd.LB_below HO1.out hB9⟩
      have HB9 : Aside0 (Below w.heap.size w wr) := ⟨HB1.out.trans (hB9.mono HB1.out.size)⟩
      have c8i : (l1.length : Int) ≤ (j : Int) := by omega
      have c8d : decide (j < l1.length) = false := decide_eq_false c8
      clear hB9
      go_wp2_with (first | (go_at_call 8; refine (chatelainelaw14_awake.calls true _ (pw_cell_below (pw_below_drewN HB9.out nd9) HG.out) AW.out).mono ?_; rintro e w9 ⟨rfl, hb9⟩; have HB10 := Aside0.mk (below_step (pw_below_drewN HB9.out nd9) hb9); clear hb9) | (go_at_call 18; refine (chatelainelaw0_KeptBytes.calls k B1 m1 l0 A0 c0 l0 true _ (Kd.LB_reads' HLB.out).2.2 (Kd.LB_reads' HLB.out).2.1 (Kd.C_below HR0.out HB9.out) HC0.out (Kd.LB_spare HLB.out) H3.out).mono ?_; rintro e w8 ⟨rfl, ⟨nd9, rfl⟩⟩))
      go_ret
      exact ⟨rfl, HB10.out⟩


def chatelainelaw14_CodeReads.Q41 (x : S41) : Prop := ((Lit.int .i64 x.f0).wf = true) ∧ ((Lit.int .i64 x.f1).wf = true) ∧ ((Lit.int .i64 x.f2).wf = true)
theorem chatelainelaw14_CodeReads.opens41 : Opens Tryd.prog k41 chatelainelaw14_CodeReads.Q41 41 := Opens.iso (fun x : S41 => (x.f0, x.f1, x.f2)) (fun p => (⟨p.1, p.2.1, p.2.2⟩ : S41)) (fun _ => rfl) (Opens.struct Tryd.underlying41 (by kernel_rfl) (show OpensL Tryd.prog _ _ [3, 3, 3] from (OpensL.cons (Opens.int Tryd.underlying3) (OpensL.cons (Opens.int Tryd.underlying3) (OpensL.one (Opens.int Tryd.underlying3))))))
/-- THE ONE PURE STATEMENT of chatelainelaw14_CodeReads: yours. -/
def chatelainelaw14_CodeReads.Pure : Prop := ∀ (l0 : List Int) (l1 : List (S41)), (l0.length ≤ maxLen ∧ l0.length * 1 ≤ 140737488351232 ∧ ∀ y0_ ∈ l0, (Lit.int .u8 y0_).wf = true) → (l1.length ≤ maxLen ∧ l1.length * 24 ≤ 140737488351232 ∧ ∀ y0_ ∈ l1, chatelainelaw14_CodeReads.Q41 y0_) → ∃ k, chatelainelaw14_CodeReads.f k l0 l1 = some true
theorem chatelainelaw14_CodeReads.walk (P_ : chatelainelaw14_CodeReads.Pure) (A0 : Option Addr) (c0 : Nat) (l0 : List Int) (A1 : Option Addr) (c1 : Nat) (l1 : List (S41)) (w : World) (hr0 : Kd.C (Kd.int .u8) w A0 l0.length l0) (hc0 : l0.length ≤ c0) (hr1 : Kd.C k41 w A1 l1.length l1) (hc1 : l1.length ≤ c1) (hg_ : w.cell? ⟨0, 0, none⟩ = some (.iface 81 (.agg #[.pointer (some ⟨1, 48, none⟩)]))) (hq0 : l0.length ≤ maxLen ∧ l0.length * 1 ≤ 140737488351232 ∧ ∀ y0_ ∈ l0, (Lit.int .u8 y0_).wf = true) (hq1 : l1.length ≤ maxLen ∧ l1.length * 24 ≤ 140737488351232 ∧ ∀ y0_ ∈ l1, chatelainelaw14_CodeReads.Q41 y0_) :
    Calls Tryd.prog 6 #[.slice A0 l0.length c0, .slice A1 l1.length c1] w fun e w' => e = .returned (.bool true) ∧ Below w.heap.size w w' := by
  obtain ⟨k, h⟩ := P_ l0 l1 hq0 hq1
  refine (chatelainelaw14_CodeReads.calls k A0 c0 l0 A1 c1 l1 true w hr0 hc0 hr1 hc1 hg_ h).mono ?_
  rintro e w' ⟨rfl, hd⟩
  exact ⟨rfl, hd⟩

end Go.Proofs.YtbeceghdhcoohaaDoor.PCR
