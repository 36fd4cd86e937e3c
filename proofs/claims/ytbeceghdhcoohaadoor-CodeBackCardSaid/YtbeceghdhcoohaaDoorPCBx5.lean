-- By a program of this session (wip/myprint.sh) out of the translation; Lean checks it.
import Derived.Test.YtbeceghdhcoohaaDoorPCBx0
import Derived.Test.YtbeceghdhcoohaaDoorPCBx1
import Derived.Test.YtbeceghdhcoohaaDoorPCBx2
import Derived.Test.YtbeceghdhcoohaaDoorPCBx3
import Derived.Test.YtbeceghdhcoohaaDoorPCBx4
namespace Go.Proofs.YtbeceghdhcoohaaDoor.PCB
open Go.RowKit Go.Proofs.YtbeceghdhcoohaaDoorW.PrintWords Go.Proofs.YtbeceghdhcoohaaDoorW.PrintLast Go.Proofs.YtbeceghdhcoohaaDoorW.PrintMore
attribute [local go_sem] max2_int min2_int max_two min_two max_three min_three max_four min_four   -- for this text's walks alone
set_option linter.unusedVariables false
set_option linter.unusedSimpArgs false

/-! ### chatelainelaw14_CodeBack: function 7 -/
/-- A reader at block g: what is left, and whether something was wrong. -/
def Rd_Is (w : World) (g : Nat) (A : Option Addr) (l : List Int) (bad : Bool) : Prop :=
  ∃ c, w.heap[g]? = some (.cells #[.slice A l.length c, .bool bad] 55 (0, 0)) ∧ l.length ≤ c ∧ Kd.C (Kd.int .u8) w A l.length l ∧ ∀ ad, A = some ad → ad.block ≠ g
/-- What a reader's call leaves as it was: all but the reader. -/
structure Rd_Keep (g : Nat) (w w' : World) : Prop where
  size : w'.heap.size = w.heap.size
  far : ∀ k, k ≠ g → w'.heap[k]? = w.heap[k]?
  below : ∀ B w0, B ≤ g → Below B w0 w → Below B w0 w'
theorem Rd_Keep.refl (g : Nat) (w : World) : Rd_Keep g w w := ⟨rfl, fun _ _ => rfl, fun _ _ _ h => h⟩
theorem Rd_Keep.trans {g : Nat} {a b c : World} (h : Rd_Keep g a b) (k : Rd_Keep g b c) : Rd_Keep g a c := ⟨k.size.trans h.size, fun j hj => (k.far j hj).trans (h.far j hj), fun B w0 hB hb => k.below B w0 hB (h.below B w0 hB hb)⟩
theorem Rd_Keep.set (g i : Nat) (w : World) (v : Value) : Rd_Keep g w (w.setCell ⟨g, i, none⟩ v) := ⟨by simp, fun k hk => Below.heap_setCell w _ v k hk, fun B w0 hB hb => hb.setCell hB _⟩
/-- A row that lies elsewhere stays. -/
theorem Rd_far {g : Nat} {w w' : World} {A : Option Addr} {l : List Int} (h : Rd_Keep g w w') (hC : Kd.C (Kd.int .u8) w A l.length l) (hA : ∀ ad, A = some ad → ad.block ≠ g) : Kd.C (Kd.int .u8) w' A l.length l := by
  obtain ⟨h1, h2, h3⟩ := Kd.reads_of_C (d := (0 : Int)) hC
  refine Kd.C_of_reads (d := (0 : Int)) ⟨h1, h2, fun hn => ?_⟩
  obtain ⟨ad, e, hc⟩ := h3 hn
  refine ⟨ad, e, fun j hj => ?_⟩
  rw [← hc j hj]
  have hb : (ad.add j).block = ad.block := by unfold Addr.add; split <;> rfl
  unfold World.cell?
  rw [hb, h.far _ (hA ad e)]
set_option maxHeartbeats 8000000 in
set_option maxRecDepth 100000 in
theorem Rd_Number_bad.calls (g : Nat) (A : Option Addr) (l : List Int) (lo hi : Int) (w : World) (hr : Rd_Is w g A l true) :
    Calls Tryd.prog 20 #[.pointer (some ⟨g, 0, none⟩), .int .i64 lo, .int .i64 hi] w fun e w' => e = .returned (.int .i64 0) ∧ Rd_Is w' g A l true ∧ Rd_Keep g w w' := by
  obtain ⟨c, hg, hc, hC, hA⟩ := hr
  have f0 : w.cell? ⟨g, 0, none⟩ = some (.slice A l.length c) := (blk_cell hg 0).trans rfl
  have z0 := blk_frozen hg 0
  have z1 := blk_frozen hg 1
  have f1 : w.cell? ⟨g, 1, none⟩ = some (.bool true) := (blk_cell hg 1).trans rfl
  go_enter Tryd.func20, Tryd.ntmps20
  go_wp2_with (go_in)
  go_ret
  exact ⟨rfl, ⟨c, blk_put hg 1 _ rfl, hc, Rd_far (Rd_Keep.set g 1 w _) hC hA, hA⟩, Rd_Keep.set g 1 w _⟩
set_option maxHeartbeats 8000000 in
set_option maxRecDepth 100000 in
theorem Rd_Number_short.calls (g : Nat) (A : Option Addr) (l : List Int) (lo hi : Int) (w : World) (hr : Rd_Is w g A l false) (hl : l.length < 8) :
    Calls Tryd.prog 20 #[.pointer (some ⟨g, 0, none⟩), .int .i64 lo, .int .i64 hi] w fun e w' => e = .returned (.int .i64 0) ∧ Rd_Is w' g A l true ∧ Rd_Keep g w w' := by
  obtain ⟨c, hg, hc, hC, hA⟩ := hr
  have f0 : w.cell? ⟨g, 0, none⟩ = some (.slice A l.length c) := (blk_cell hg 0).trans rfl
  have z0 := blk_frozen hg 0
  have z1 := blk_frozen hg 1
  have f1 : w.cell? ⟨g, 1, none⟩ = some (.bool false) := (blk_cell hg 1).trans rfl
  have c1 : decide (8 > (l.length : Int)) = true := decide_eq_true (by omega)
  have c2 : decide ((l.length : Int) < 8) = true := decide_eq_true (by omega)
  have c3 : decide (l.length < 8) = true := decide_eq_true (by omega)
  go_enter Tryd.func20, Tryd.ntmps20
  go_wp2_with (go_in)
  go_ret
  exact ⟨rfl, ⟨c, blk_put hg 1 _ rfl, hc, Rd_far (Rd_Keep.set g 1 w _) hC hA, hA⟩, Rd_Keep.set g 1 w _⟩
/-- What bytes are as one number, the highest first. -/
def Rd_val : List Int → Int
  | [] => 0
  | x :: r => x * 256 ^ r.length + Rd_val r
theorem Rd_val_snoc : ∀ (a : List Int) (x : Int), Rd_val (a ++ [x]) = Rd_val a * 256 + x
  | [], x => by simp [Rd_val]
  | y :: r, x => by
    rw [List.cons_append, Rd_val, Rd_val, Rd_val_snoc r x, List.length_append, List.length_cons, List.length_nil, Nat.zero_add, Int.pow_succ, Int.add_mul, Int.mul_assoc]
    omega
theorem Rd_val_lt : ∀ (l : List Int), (∀ x ∈ l, 0 ≤ x ∧ x < 256) → 0 ≤ Rd_val l ∧ Rd_val l < 256 ^ l.length
  | [], _ => by simp [Rd_val]
  | x :: r, h => by
    obtain ⟨h1, h2⟩ := Rd_val_lt r (fun y hy => h y (List.mem_cons_of_mem _ hy))
    obtain ⟨h3, h4⟩ := h x (List.mem_cons_self ..)
    have hp : (0 : Int) < 256 ^ r.length := Int.pow_pos (by omega)
    have h5 : 0 ≤ x * 256 ^ r.length := Int.mul_nonneg h3 (by omega)
    have h6 : (x + 1) * 256 ^ r.length ≤ 256 * 256 ^ r.length := Int.mul_le_mul_of_nonneg_right (by omega) (by omega)
    rw [Int.add_mul, Int.one_mul] at h6
    simp only [Rd_val, List.length_cons, Int.pow_succ]
    rw [Int.mul_comm (256 ^ r.length) 256]
    generalize x * 256 ^ r.length = a at *
    generalize 256 * 256 ^ r.length = b at *
    generalize (256 : Int) ^ r.length = c at *
    omega
theorem Rd_or (a x : Int) (h0 : 0 ≤ a) (h1 : a < 72057594037927936) (h2 : 0 ≤ x) (h3 : x < 256) : bits .or .u64 (IntKind.u64.wrap (a * 256)) (IntKind.u64.wrap x) = a * 256 + x := by
  have hw : ∀ n : Int, IntKind.u64.wrap n = n % 18446744073709551616 := fun n => by simp [IntKind.wrap, IntKind.bits, IntKind.signed]
  obtain ⟨m, rfl⟩ := Int.eq_ofNat_of_zero_le h0
  obtain ⟨y, rfl⟩ := Int.eq_ofNat_of_zero_le h2
  have e1 : IntKind.u64.wrap ((m : Int) * 256) = ((2 ^ 8 * m : Nat) : Int) := by rw [hw]; omega
  have e2 : IntKind.u64.wrap (y : Int) = (y : Int) := by rw [hw]; omega
  rw [e1, e2, (bits_nat .u64 64 (by decide) (fun n k0 k1 => by rw [hw]; exact Int.emod_eq_of_lt k0 k1) (2 ^ 8 * m) y (by omega) (by omega)).2, ← Nat.two_pow_add_eq_or_of_lt (by omega : y < 2 ^ 8) m]
  omega
theorem Rd_step (l : List Int) (hb : ∀ x ∈ l, 0 ≤ x ∧ x < 256) (j : Nat) (hj : j < 8) (hl : j < l.length) : bits .or .u64 (IntKind.u64.wrap (Rd_val (l.take j) * 256)) (IntKind.u64.wrap l[j]) = Rd_val (l.take (j + 1)) := by
  obtain ⟨h1, h2⟩ := Rd_val_lt (l.take j) (fun x hx => hb x (List.mem_of_mem_take hx))
  have hlen : (l.take j).length = j := by rw [List.length_take]; omega
  have h3 : (256 : Int) ^ (l.take j).length ≤ 256 ^ 7 := by
    rw [hlen]
    rcases (by omega : j = 0 ∨ j = 1 ∨ j = 2 ∨ j = 3 ∨ j = 4 ∨ j = 5 ∨ j = 6 ∨ j = 7) with rfl | rfl | rfl | rfl | rfl | rfl | rfl | rfl <;> decide
  have h4 : (256 : Int) ^ 7 = 72057594037927936 := by decide
  obtain ⟨h5, h6⟩ := hb l[j] (List.getElem_mem hl)
  rw [Rd_or _ _ h1 (by omega) h5 h6, List.take_succ_eq_append_getElem hl, Rd_val_snoc]
theorem Rd_add (ad : Addr) (n j : Nat) : (ad.add n).add j = ad.add (n + j) := by
  unfold Addr.add
  by_cases h1 : n = 0
  · subst h1; simp
  · by_cases h2 : j = 0
    · subst h2; simp [h1]
    · simp [h1, h2, Nat.add_assoc]
/-- What is left behind so many. -/
theorem Rd_drop {w : World} {ad : Addr} {l : List Int} (n : Nat) (hn : n ≤ l.length) (h : Kd.C (Kd.int .u8) w (some ad) l.length l) : Kd.C (Kd.int .u8) w (some (ad.add n)) (l.drop n).length (l.drop n) := by
  obtain ⟨h1, h2, h3⟩ := Kd.reads_of_C (d := (0 : Int)) h
  refine Kd.C_of_reads (d := (0 : Int)) ⟨rfl, by rw [List.length_drop]; omega, fun hn2 => ⟨_, rfl, fun j hj => ?_⟩⟩
  obtain ⟨ad2, e, hc⟩ := h3 (by rw [List.length_drop] at hn2; omega)
  obtain rfl := Option.some.inj e
  have hj2 : n + j < l.length := by rw [List.length_drop] at hj; omega
  rw [Rd_add, hc _ hj2]
  simp [List.getD_eq_getElem?_getD]
theorem Kd.C_any0 (w : World) (A : Option Addr) : Kd.C (Kd.int .u8) w A ([] : List Int).length [] := Kd.C_of_reads (d := (0 : Int)) ⟨rfl, by decide, fun h => absurd h (by decide)⟩
set_option maxHeartbeats 8000000 in
set_option maxRecDepth 100000 in
theorem Rd_Number_in.calls (g : Nat) (A : Option Addr) (l : List Int) (lo hi : Int) (w : World) (hr : Rd_Is w g A l false) (hl : 8 ≤ l.length) (hb : ∀ x ∈ l, 0 ≤ x ∧ x < 256) (h1 : lo ≤ wrap64 (Rd_val (l.take 8))) (h2 : wrap64 (Rd_val (l.take 8)) ≤ hi) :
    Calls Tryd.prog 20 #[.pointer (some ⟨g, 0, none⟩), .int .i64 lo, .int .i64 hi] w fun e w' => e = .returned (.int .i64 (wrap64 (Rd_val (l.take 8)))) ∧ (∃ A', Rd_Is w' g A' (l.drop 8) false ∧ (l.length = 8 ∧ A' = A ∨ ∃ ad, A = some ad ∧ A' = some ⟨ad.block, ad.off + 8, none⟩)) ∧ Rd_Keep g w w' := by
  obtain ⟨c, hg, hc, hC, hA⟩ := hr
  have f0 : w.cell? ⟨g, 0, none⟩ = some (.slice A l.length c) := (blk_cell hg 0).trans rfl
  have z0 := blk_frozen hg 0
  have z1 := blk_frozen hg 1
  have f1 : w.cell? ⟨g, 1, none⟩ = some (.bool false) := (blk_cell hg 1).trans rfl
  have c1 : decide (8 > (l.length : Int)) = false := decide_eq_false (by omega)
  have c2 : decide ((l.length : Int) < 8) = false := decide_eq_false (by omega)
  have c3 : decide (l.length < 8) = false := decide_eq_false (by omega)
  have d1 : decide (wrap64 (Rd_val (l.take 8)) < lo) = false := decide_eq_false (by omega)
  have d2 : decide (hi < wrap64 (Rd_val (l.take 8))) = false := decide_eq_false (by omega)
  have hc8 : 8 ≤ c := by omega
  obtain ⟨_, _, h3⟩ := Kd.reads_of_C (d := (0 : Int)) hC
  obtain ⟨ad, rfl, hcell⟩ := h3 (by omega)
  have hdl : (l.drop 8).length = l.length - 8 := List.length_drop
  have hcellV : ∀ (v : Value) (j : Nat) (hj : j < 8), (w.setCell ⟨g, 0, none⟩ v).cell? (ad.add j) = some (.int .u8 (l[j]'(by omega))) := fun v j hj => by
    have h4 := (Kd.reads_of_C (d := (0 : Int)) (Rd_far (Rd_Keep.set g 0 w v) hC hA)).2.2 (by omega)
    obtain ⟨ad2, e, h5⟩ := h4
    obtain rfl := Option.some.inj e
    rw [h5 j (by omega), List.getD_eq_getElem?_getD, List.getElem?_eq_getElem (by omega)]
    rfl
  go_enter Tryd.func20, Tryd.ntmps20
  go_wp2_with (go_in)
  · rename_i hc0
    have hz : l.length - 8 = 0 := by omega
    have HL8 : Aside0 (l.length = 8) := ⟨by omega⟩
    rw [hz]
    have hcell2 : ∀ j (hj : j < 8), (w.setCell ⟨g, 0, none⟩ (.slice (some ad) 0 0)).cell? (ad.add j) = some (.int .u8 (l[j]'(by omega))) := fun j hj => hcellV _ j hj
    have hgW := blk_put hg 0 (.slice (some ad) 0 0) rfl
    have y1 := blk_frozen hgW 1
    have x1 : (w.setCell ⟨g, 0, none⟩ (.slice (some ad) 0 0)).cell? ⟨g, 1, none⟩ = some (.bool false) := (blk_cell hgW 1).trans rfl
    go_loopg [8, 19] 8 (fun kq v8 v19 w' => ∃ (j : Nat), v19 = .int .i64 (j : Int) ∧ v8 = .int .u64 (Rd_val (l.take j)) ∧ Aside0 (j + kq = 8) ∧ w' = w.setCell ⟨g, 0, none⟩ (.slice (some ad) 0 0))
    case atStart => exact ⟨0, (by first | rfl | (simp; done)), (by first | rfl | (simp [Rd_val]; done)), ⟨rfl⟩, rfl⟩
    case round =>
      obtain ⟨j, rfl, rfl, HJ, rfl⟩ := hrel
      by_cases c5 : j < 8
      · have c5b0 : decide ((j : Int) < 8) = true := decide_eq_true (by omega)
        have hj0 : (0 : Int) ≤ (j : Int) := by omega
        have hj1 : (j : Int) < 8 := by omega
        have hx := hcell2 j c5
        cases gk with
        | zero => have := HJ.out; omega
        | succ k1 =>
          go_wp2
          go_roundg k1
          case measure => omega
          case rel => exact ⟨j + 1, (by
              have hw : wrap64 ((j : Int) + 1) = ((j + 1 : Nat) : Int) := by unfold wrap64; omega
              first | rfl | (rw [← hw]; rfl) | (simp [*]; done)), congrArg (Value.int .u64) (Rd_step l hb j c5 (by omega)), ⟨by have := HJ.out; omega⟩, rfl⟩
      · have c5b0 : decide ((j : Int) < 8) = false := decide_eq_false (by omega)
        obtain rfl : j = 8 := by have := HJ.out; omega
        go_wp2
        go_ret
        exact ⟨rfl, ⟨_, ⟨0, by rw [hdl, hz]; exact hgW, by omega, (by rw [List.length_eq_zero_iff.mp (show (l.drop 8).length = 0 by omega)]; exact Kd.C_any0 _ _), hA⟩, .inl ⟨HL8.out, rfl⟩⟩, Rd_Keep.set g 0 w _⟩
  · rename_i hc0
    have hcell2 : ∀ j (hj : j < 8), (w.setCell ⟨g, 0, none⟩ (.slice (some ⟨ad.block, ad.off + 8, none⟩) (l.length - 8) (c - 8))).cell? (ad.add j) = some (.int .u8 (l[j]'(by omega))) := fun j hj => hcellV _ j hj
    have hgW := blk_put hg 0 (.slice (some ⟨ad.block, ad.off + 8, none⟩) (l.length - 8) (c - 8)) rfl
    have y1 := blk_frozen hgW 1
    have x1 : (w.setCell ⟨g, 0, none⟩ (.slice (some ⟨ad.block, ad.off + 8, none⟩) (l.length - 8) (c - 8))).cell? ⟨g, 1, none⟩ = some (.bool false) := (blk_cell hgW 1).trans rfl
    go_loopg [8, 19] 8 (fun kq v8 v19 w' => ∃ (j : Nat), v19 = .int .i64 (j : Int) ∧ v8 = .int .u64 (Rd_val (l.take j)) ∧ Aside0 (j + kq = 8) ∧ w' = w.setCell ⟨g, 0, none⟩ (.slice (some ⟨ad.block, ad.off + 8, none⟩) (l.length - 8) (c - 8)))
    case atStart => exact ⟨0, (by first | rfl | (simp; done)), (by first | rfl | (simp [Rd_val]; done)), ⟨rfl⟩, rfl⟩
    case round =>
      obtain ⟨j, rfl, rfl, HJ, rfl⟩ := hrel
      by_cases c5 : j < 8
      · have c5b0 : decide ((j : Int) < 8) = true := decide_eq_true (by omega)
        have hj0 : (0 : Int) ≤ (j : Int) := by omega
        have hj1 : (j : Int) < 8 := by omega
        have hx := hcell2 j c5
        cases gk with
        | zero => have := HJ.out; omega
        | succ k1 =>
          go_wp2
          go_roundg k1
          case measure => omega
          case rel => exact ⟨j + 1, (by
              have hw : wrap64 ((j : Int) + 1) = ((j + 1 : Nat) : Int) := by unfold wrap64; omega
              first | rfl | (rw [← hw]; rfl) | (simp [*]; done)), congrArg (Value.int .u64) (Rd_step l hb j c5 (by omega)), ⟨by have := HJ.out; omega⟩, rfl⟩
      · have c5b0 : decide ((j : Int) < 8) = false := decide_eq_false (by omega)
        obtain rfl : j = 8 := by have := HJ.out; omega
        go_wp2
        go_ret
        exact ⟨rfl, ⟨_, ⟨c - 8, by rw [hdl]; exact hgW, by omega, Rd_drop 8 hl (Rd_far (Rd_Keep.set g 0 w _) hC hA), fun ad2 e => by obtain rfl := Option.some.inj e; exact hA ad rfl⟩, .inr ⟨ad, rfl, rfl⟩⟩, Rd_Keep.set g 0 w _⟩
set_option maxHeartbeats 8000000 in
set_option maxRecDepth 100000 in
theorem Rd_Number_lo.calls (g : Nat) (A : Option Addr) (l : List Int) (lo hi : Int) (w : World) (hr : Rd_Is w g A l false) (hl : 8 ≤ l.length) (hb : ∀ x ∈ l, 0 ≤ x ∧ x < 256) (h1 : wrap64 (Rd_val (l.take 8)) < lo) :
    Calls Tryd.prog 20 #[.pointer (some ⟨g, 0, none⟩), .int .i64 lo, .int .i64 hi] w fun e w' => e = .returned (.int .i64 0) ∧ (∃ A', Rd_Is w' g A' (l.drop 8) true ∧ (l.length = 8 ∧ A' = A ∨ ∃ ad, A = some ad ∧ A' = some ⟨ad.block, ad.off + 8, none⟩)) ∧ Rd_Keep g w w' := by
  obtain ⟨c, hg, hc, hC, hA⟩ := hr
  have f0 : w.cell? ⟨g, 0, none⟩ = some (.slice A l.length c) := (blk_cell hg 0).trans rfl
  have z0 := blk_frozen hg 0
  have z1 := blk_frozen hg 1
  have f1 : w.cell? ⟨g, 1, none⟩ = some (.bool false) := (blk_cell hg 1).trans rfl
  have c1 : decide (8 > (l.length : Int)) = false := decide_eq_false (by omega)
  have c2 : decide ((l.length : Int) < 8) = false := decide_eq_false (by omega)
  have c3 : decide (l.length < 8) = false := decide_eq_false (by omega)
  have d1 : decide (wrap64 (Rd_val (l.take 8)) < lo) = true := decide_eq_true h1
  have hc8 : 8 ≤ c := by omega
  obtain ⟨_, _, h3⟩ := Kd.reads_of_C (d := (0 : Int)) hC
  obtain ⟨ad, rfl, hcell⟩ := h3 (by omega)
  have hdl : (l.drop 8).length = l.length - 8 := List.length_drop
  have hcellV : ∀ (v : Value) (j : Nat) (hj : j < 8), (w.setCell ⟨g, 0, none⟩ v).cell? (ad.add j) = some (.int .u8 (l[j]'(by omega))) := fun v j hj => by
    have h4 := (Kd.reads_of_C (d := (0 : Int)) (Rd_far (Rd_Keep.set g 0 w v) hC hA)).2.2 (by omega)
    obtain ⟨ad2, e, h5⟩ := h4
    obtain rfl := Option.some.inj e
    rw [h5 j (by omega), List.getD_eq_getElem?_getD, List.getElem?_eq_getElem (by omega)]
    rfl
  go_enter Tryd.func20, Tryd.ntmps20
  go_wp2_with (go_in)
  · rename_i hc0
    have hz : l.length - 8 = 0 := by omega
    have HL8 : Aside0 (l.length = 8) := ⟨by omega⟩
    rw [hz]
    have hcell2 : ∀ j (hj : j < 8), (w.setCell ⟨g, 0, none⟩ (.slice (some ad) 0 0)).cell? (ad.add j) = some (.int .u8 (l[j]'(by omega))) := fun j hj => hcellV _ j hj
    have hgW := blk_put hg 0 (.slice (some ad) 0 0) rfl
    have y1 := blk_frozen hgW 1
    have x1 : (w.setCell ⟨g, 0, none⟩ (.slice (some ad) 0 0)).cell? ⟨g, 1, none⟩ = some (.bool false) := (blk_cell hgW 1).trans rfl
    go_loopg [8, 19] 8 (fun kq v8 v19 w' => ∃ (j : Nat), v19 = .int .i64 (j : Int) ∧ v8 = .int .u64 (Rd_val (l.take j)) ∧ Aside0 (j + kq = 8) ∧ w' = w.setCell ⟨g, 0, none⟩ (.slice (some ad) 0 0))
    case atStart => exact ⟨0, (by first | rfl | (simp; done)), (by first | rfl | (simp [Rd_val]; done)), ⟨rfl⟩, rfl⟩
    case round =>
      obtain ⟨j, rfl, rfl, HJ, rfl⟩ := hrel
      by_cases c5 : j < 8
      · have c5b0 : decide ((j : Int) < 8) = true := decide_eq_true (by omega)
        have hj0 : (0 : Int) ≤ (j : Int) := by omega
        have hj1 : (j : Int) < 8 := by omega
        have hx := hcell2 j c5
        cases gk with
        | zero => have := HJ.out; omega
        | succ k1 =>
          go_wp2
          go_roundg k1
          case measure => omega
          case rel => exact ⟨j + 1, (by
              have hw : wrap64 ((j : Int) + 1) = ((j + 1 : Nat) : Int) := by unfold wrap64; omega
              first | rfl | (rw [← hw]; rfl) | (simp [*]; done)), congrArg (Value.int .u64) (Rd_step l hb j c5 (by omega)), ⟨by have := HJ.out; omega⟩, rfl⟩
      · have c5b0 : decide ((j : Int) < 8) = false := decide_eq_false (by omega)
        obtain rfl : j = 8 := by have := HJ.out; omega
        go_wp2
        go_ret
        exact ⟨rfl, ⟨_, ⟨0, by rw [hdl, hz]; exact blk_put hgW 1 _ rfl, by omega, (by rw [List.length_eq_zero_iff.mp (show (l.drop 8).length = 0 by omega)]; exact Kd.C_any0 _ _), hA⟩, .inl ⟨HL8.out, rfl⟩⟩, (Rd_Keep.set g 0 w _).trans (Rd_Keep.set g 1 _ _)⟩
  · rename_i hc0
    have hcell2 : ∀ j (hj : j < 8), (w.setCell ⟨g, 0, none⟩ (.slice (some ⟨ad.block, ad.off + 8, none⟩) (l.length - 8) (c - 8))).cell? (ad.add j) = some (.int .u8 (l[j]'(by omega))) := fun j hj => hcellV _ j hj
    have hgW := blk_put hg 0 (.slice (some ⟨ad.block, ad.off + 8, none⟩) (l.length - 8) (c - 8)) rfl
    have y1 := blk_frozen hgW 1
    have x1 : (w.setCell ⟨g, 0, none⟩ (.slice (some ⟨ad.block, ad.off + 8, none⟩) (l.length - 8) (c - 8))).cell? ⟨g, 1, none⟩ = some (.bool false) := (blk_cell hgW 1).trans rfl
    go_loopg [8, 19] 8 (fun kq v8 v19 w' => ∃ (j : Nat), v19 = .int .i64 (j : Int) ∧ v8 = .int .u64 (Rd_val (l.take j)) ∧ Aside0 (j + kq = 8) ∧ w' = w.setCell ⟨g, 0, none⟩ (.slice (some ⟨ad.block, ad.off + 8, none⟩) (l.length - 8) (c - 8)))
    case atStart => exact ⟨0, (by first | rfl | (simp; done)), (by first | rfl | (simp [Rd_val]; done)), ⟨rfl⟩, rfl⟩
    case round =>
      obtain ⟨j, rfl, rfl, HJ, rfl⟩ := hrel
      by_cases c5 : j < 8
      · have c5b0 : decide ((j : Int) < 8) = true := decide_eq_true (by omega)
        have hj0 : (0 : Int) ≤ (j : Int) := by omega
        have hj1 : (j : Int) < 8 := by omega
        have hx := hcell2 j c5
        cases gk with
        | zero => have := HJ.out; omega
        | succ k1 =>
          go_wp2
          go_roundg k1
          case measure => omega
          case rel => exact ⟨j + 1, (by
              have hw : wrap64 ((j : Int) + 1) = ((j + 1 : Nat) : Int) := by unfold wrap64; omega
              first | rfl | (rw [← hw]; rfl) | (simp [*]; done)), congrArg (Value.int .u64) (Rd_step l hb j c5 (by omega)), ⟨by have := HJ.out; omega⟩, rfl⟩
      · have c5b0 : decide ((j : Int) < 8) = false := decide_eq_false (by omega)
        obtain rfl : j = 8 := by have := HJ.out; omega
        go_wp2
        go_ret
        exact ⟨rfl, ⟨_, ⟨c - 8, by rw [hdl]; exact blk_put hgW 1 _ rfl, by omega, Rd_drop 8 hl (Rd_far ((Rd_Keep.set g 0 w _).trans (Rd_Keep.set g 1 _ _)) hC hA), fun ad2 e => by obtain rfl := Option.some.inj e; exact hA ad rfl⟩, .inr ⟨ad, rfl, rfl⟩⟩, (Rd_Keep.set g 0 w _).trans (Rd_Keep.set g 1 _ _)⟩
set_option maxHeartbeats 8000000 in
set_option maxRecDepth 100000 in
theorem Rd_Number_hi.calls (g : Nat) (A : Option Addr) (l : List Int) (lo hi : Int) (w : World) (hr : Rd_Is w g A l false) (hl : 8 ≤ l.length) (hb : ∀ x ∈ l, 0 ≤ x ∧ x < 256) (h0 : lo ≤ wrap64 (Rd_val (l.take 8))) (h1 : hi < wrap64 (Rd_val (l.take 8))) :
    Calls Tryd.prog 20 #[.pointer (some ⟨g, 0, none⟩), .int .i64 lo, .int .i64 hi] w fun e w' => e = .returned (.int .i64 0) ∧ (∃ A', Rd_Is w' g A' (l.drop 8) true ∧ (l.length = 8 ∧ A' = A ∨ ∃ ad, A = some ad ∧ A' = some ⟨ad.block, ad.off + 8, none⟩)) ∧ Rd_Keep g w w' := by
  obtain ⟨c, hg, hc, hC, hA⟩ := hr
  have f0 : w.cell? ⟨g, 0, none⟩ = some (.slice A l.length c) := (blk_cell hg 0).trans rfl
  have z0 := blk_frozen hg 0
  have z1 := blk_frozen hg 1
  have f1 : w.cell? ⟨g, 1, none⟩ = some (.bool false) := (blk_cell hg 1).trans rfl
  have c1 : decide (8 > (l.length : Int)) = false := decide_eq_false (by omega)
  have c2 : decide ((l.length : Int) < 8) = false := decide_eq_false (by omega)
  have c3 : decide (l.length < 8) = false := decide_eq_false (by omega)
  have d1 : decide (wrap64 (Rd_val (l.take 8)) < lo) = false := decide_eq_false (by omega)
  have d2 : decide (hi < wrap64 (Rd_val (l.take 8))) = true := decide_eq_true h1
  have hc8 : 8 ≤ c := by omega
  obtain ⟨_, _, h3⟩ := Kd.reads_of_C (d := (0 : Int)) hC
  obtain ⟨ad, rfl, hcell⟩ := h3 (by omega)
  have hdl : (l.drop 8).length = l.length - 8 := List.length_drop
  have hcellV : ∀ (v : Value) (j : Nat) (hj : j < 8), (w.setCell ⟨g, 0, none⟩ v).cell? (ad.add j) = some (.int .u8 (l[j]'(by omega))) := fun v j hj => by
    have h4 := (Kd.reads_of_C (d := (0 : Int)) (Rd_far (Rd_Keep.set g 0 w v) hC hA)).2.2 (by omega)
    obtain ⟨ad2, e, h5⟩ := h4
    obtain rfl := Option.some.inj e
    rw [h5 j (by omega), List.getD_eq_getElem?_getD, List.getElem?_eq_getElem (by omega)]
    rfl
  go_enter Tryd.func20, Tryd.ntmps20
  go_wp2_with (go_in)
  · rename_i hc0
    have hz : l.length - 8 = 0 := by omega
    have HL8 : Aside0 (l.length = 8) := ⟨by omega⟩
    rw [hz]
    have hcell2 : ∀ j (hj : j < 8), (w.setCell ⟨g, 0, none⟩ (.slice (some ad) 0 0)).cell? (ad.add j) = some (.int .u8 (l[j]'(by omega))) := fun j hj => hcellV _ j hj
    have hgW := blk_put hg 0 (.slice (some ad) 0 0) rfl
    have y1 := blk_frozen hgW 1
    have x1 : (w.setCell ⟨g, 0, none⟩ (.slice (some ad) 0 0)).cell? ⟨g, 1, none⟩ = some (.bool false) := (blk_cell hgW 1).trans rfl
    go_loopg [8, 19] 8 (fun kq v8 v19 w' => ∃ (j : Nat), v19 = .int .i64 (j : Int) ∧ v8 = .int .u64 (Rd_val (l.take j)) ∧ Aside0 (j + kq = 8) ∧ w' = w.setCell ⟨g, 0, none⟩ (.slice (some ad) 0 0))
    case atStart => exact ⟨0, (by first | rfl | (simp; done)), (by first | rfl | (simp [Rd_val]; done)), ⟨rfl⟩, rfl⟩
    case round =>
      obtain ⟨j, rfl, rfl, HJ, rfl⟩ := hrel
      by_cases c5 : j < 8
      · have c5b0 : decide ((j : Int) < 8) = true := decide_eq_true (by omega)
        have hj0 : (0 : Int) ≤ (j : Int) := by omega
        have hj1 : (j : Int) < 8 := by omega
        have hx := hcell2 j c5
        cases gk with
        | zero => have := HJ.out; omega
        | succ k1 =>
          go_wp2
          go_roundg k1
          case measure => omega
          case rel => exact ⟨j + 1, (by
              have hw : wrap64 ((j : Int) + 1) = ((j + 1 : Nat) : Int) := by unfold wrap64; omega
              first | rfl | (rw [← hw]; rfl) | (simp [*]; done)), congrArg (Value.int .u64) (Rd_step l hb j c5 (by omega)), ⟨by have := HJ.out; omega⟩, rfl⟩
      · have c5b0 : decide ((j : Int) < 8) = false := decide_eq_false (by omega)
        obtain rfl : j = 8 := by have := HJ.out; omega
        go_wp2
        go_ret
        exact ⟨rfl, ⟨_, ⟨0, by rw [hdl, hz]; exact blk_put hgW 1 _ rfl, by omega, (by rw [List.length_eq_zero_iff.mp (show (l.drop 8).length = 0 by omega)]; exact Kd.C_any0 _ _), hA⟩, .inl ⟨HL8.out, rfl⟩⟩, (Rd_Keep.set g 0 w _).trans (Rd_Keep.set g 1 _ _)⟩
  · rename_i hc0
    have hcell2 : ∀ j (hj : j < 8), (w.setCell ⟨g, 0, none⟩ (.slice (some ⟨ad.block, ad.off + 8, none⟩) (l.length - 8) (c - 8))).cell? (ad.add j) = some (.int .u8 (l[j]'(by omega))) := fun j hj => hcellV _ j hj
    have hgW := blk_put hg 0 (.slice (some ⟨ad.block, ad.off + 8, none⟩) (l.length - 8) (c - 8)) rfl
    have y1 := blk_frozen hgW 1
    have x1 : (w.setCell ⟨g, 0, none⟩ (.slice (some ⟨ad.block, ad.off + 8, none⟩) (l.length - 8) (c - 8))).cell? ⟨g, 1, none⟩ = some (.bool false) := (blk_cell hgW 1).trans rfl
    go_loopg [8, 19] 8 (fun kq v8 v19 w' => ∃ (j : Nat), v19 = .int .i64 (j : Int) ∧ v8 = .int .u64 (Rd_val (l.take j)) ∧ Aside0 (j + kq = 8) ∧ w' = w.setCell ⟨g, 0, none⟩ (.slice (some ⟨ad.block, ad.off + 8, none⟩) (l.length - 8) (c - 8)))
    case atStart => exact ⟨0, (by first | rfl | (simp; done)), (by first | rfl | (simp [Rd_val]; done)), ⟨rfl⟩, rfl⟩
    case round =>
      obtain ⟨j, rfl, rfl, HJ, rfl⟩ := hrel
      by_cases c5 : j < 8
      · have c5b0 : decide ((j : Int) < 8) = true := decide_eq_true (by omega)
        have hj0 : (0 : Int) ≤ (j : Int) := by omega
        have hj1 : (j : Int) < 8 := by omega
        have hx := hcell2 j c5
        cases gk with
        | zero => have := HJ.out; omega
        | succ k1 =>
          go_wp2
          go_roundg k1
          case measure => omega
          case rel => exact ⟨j + 1, (by
              have hw : wrap64 ((j : Int) + 1) = ((j + 1 : Nat) : Int) := by unfold wrap64; omega
              first | rfl | (rw [← hw]; rfl) | (simp [*]; done)), congrArg (Value.int .u64) (Rd_step l hb j c5 (by omega)), ⟨by have := HJ.out; omega⟩, rfl⟩
      · have c5b0 : decide ((j : Int) < 8) = false := decide_eq_false (by omega)
        obtain rfl : j = 8 := by have := HJ.out; omega
        go_wp2
        go_ret
        exact ⟨rfl, ⟨_, ⟨c - 8, by rw [hdl]; exact blk_put hgW 1 _ rfl, by omega, Rd_drop 8 hl (Rd_far ((Rd_Keep.set g 0 w _).trans (Rd_Keep.set g 1 _ _)) hC hA), fun ad2 e => by obtain rfl := Option.some.inj e; exact hA ad rfl⟩, .inr ⟨ad, rfl, rfl⟩⟩, (Rd_Keep.set g 0 w _).trans (Rd_Keep.set g 1 _ _)⟩
/-- What a number that is asked for is, what is left, and whether something is wrong. -/
def Rd_num (l : List Int) (bad : Bool) (lo hi : Int) : Int × List Int × Bool :=
  if bad = true then (0, l, true) else if l.length < 8 then (0, l, true) else
  if wrap64 (Rd_val (l.take 8)) < lo then (0, l.drop 8, true) else if hi < wrap64 (Rd_val (l.take 8)) then (0, l.drop 8, true) else (wrap64 (Rd_val (l.take 8)), l.drop 8, false)
/-- Where what is left begins. -/
def Rd_Moved (n : Nat) (A A' : Option Addr) (l' : List Int) : Prop := l' = [] ∧ A' = A ∨ ∃ ad, A = some ad ∧ A' = some (ad.add n)
theorem Rd_Number.calls (g : Nat) (A : Option Addr) (l : List Int) (bad : Bool) (lo hi : Int) (w : World) (hr : Rd_Is w g A l bad) (hb : ∀ x ∈ l, 0 ≤ x ∧ x < 256) :
    Calls Tryd.prog 20 #[.pointer (some ⟨g, 0, none⟩), .int .i64 lo, .int .i64 hi] w fun e w' => e = .returned (.int .i64 (Rd_num l bad lo hi).1) ∧ (∃ A', Rd_Is w' g A' (Rd_num l bad lo hi).2.1 (Rd_num l bad lo hi).2.2 ∧ ((Rd_num l bad lo hi).2.1 = l ∧ A' = A ∨ Rd_Moved 8 A A' (Rd_num l bad lo hi).2.1)) ∧ Rd_Keep g w w' := by
  cases bad with
  | true =>
    have e : Rd_num l true lo hi = (0, l, true) := rfl
    rw [e]
    exact (Rd_Number_bad.calls g A l lo hi w hr).mono fun e' w' h => ⟨h.1, ⟨A, h.2.1, .inl ⟨rfl, rfl⟩⟩, h.2.2⟩
  | false =>
    have mv : ∀ A', (l.length = 8 ∧ A' = A ∨ ∃ ad, A = some ad ∧ A' = some ⟨ad.block, ad.off + 8, none⟩) → Rd_Moved 8 A A' (l.drop 8) := fun A' h => h.imp (fun h => ⟨List.drop_of_length_le (by omega), h.2⟩) (fun ⟨ad, h1, h2⟩ => ⟨ad, h1, h2⟩)
    by_cases c1 : l.length < 8
    · have e : Rd_num l false lo hi = (0, l, true) := by unfold Rd_num; rw [if_neg (by decide), if_pos c1]
      rw [e]
      exact (Rd_Number_short.calls g A l lo hi w hr c1).mono fun e' w' h => ⟨h.1, ⟨A, h.2.1, .inl ⟨rfl, rfl⟩⟩, h.2.2⟩
    · by_cases c2 : wrap64 (Rd_val (l.take 8)) < lo
      · have e : Rd_num l false lo hi = (0, l.drop 8, true) := by unfold Rd_num; rw [if_neg (by decide), if_neg c1, if_pos c2]
        rw [e]
        exact (Rd_Number_lo.calls g A l lo hi w hr (by omega) hb c2).mono fun e' w' h => ⟨h.1, ⟨h.2.1.choose, h.2.1.choose_spec.1, .inr (mv _ h.2.1.choose_spec.2)⟩, h.2.2⟩
      · by_cases c3 : hi < wrap64 (Rd_val (l.take 8))
        · have e : Rd_num l false lo hi = (0, l.drop 8, true) := by unfold Rd_num; rw [if_neg (by decide), if_neg c1, if_neg c2, if_pos c3]
          rw [e]
          exact (Rd_Number_hi.calls g A l lo hi w hr (by omega) hb (by omega) c3).mono fun e' w' h => ⟨h.1, ⟨h.2.1.choose, h.2.1.choose_spec.1, .inr (mv _ h.2.1.choose_spec.2)⟩, h.2.2⟩
        · have e : Rd_num l false lo hi = (wrap64 (Rd_val (l.take 8)), l.drop 8, false) := by unfold Rd_num; rw [if_neg (by decide), if_neg c1, if_neg c2, if_neg c3]
          rw [e]
          exact (Rd_Number_in.calls g A l lo hi w hr (by omega) hb (by omega) (by omega)).mono fun e' w' h => ⟨h.1, ⟨h.2.1.choose, h.2.1.choose_spec.1, .inr (mv _ h.2.1.choose_spec.2)⟩, h.2.2⟩
/-- What the next so many bytes are, what is left, and whether something is wrong. -/
def Rd_tk (l : List Int) (bad : Bool) (n : Nat) : List Int × List Int × Bool := if bad = true then ([], l, true) else if l.length < n then ([], l, true) else (l.take n, l.drop n, false)
/-- What a call tells that takes bytes. -/
def Rd_Took (g : Nat) (A : Option Addr) (n : Nat) (r : List Int × List Int × Bool) (l : List Int) (w : World) (e : Ending) (w' : World) : Prop :=
  ∃ B m, e = .returned (.slice B r.1.length m) ∧ r.1.length = m ∧ Kd.C (Kd.int .u8) w' B r.1.length r.1 ∧ (∀ ad, B = some ad → ad.block ≠ g) ∧ (B = none ∨ B = A) ∧ ∃ A', Rd_Is w' g A' r.2.1 r.2.2 ∧ (r.2.1 = l ∧ A' = A ∨ Rd_Moved n A A' r.2.1) ∧ Rd_Keep g w w'
/-- So many of them from the beginning. -/
theorem Rd_pre {w : World} {A : Option Addr} {l : List Int} (n : Nat) (hn : n ≤ l.length) (h : Kd.C (Kd.int .u8) w A l.length l) : Kd.C (Kd.int .u8) w A (l.take n).length (l.take n) := by
  obtain ⟨h1, h2, h3⟩ := Kd.reads_of_C (d := (0 : Int)) h
  have hlen : (l.take n).length = n := by rw [List.length_take]; omega
  refine Kd.C_of_reads (d := (0 : Int)) ⟨rfl, by omega, fun hn2 => ?_⟩
  obtain ⟨ad, e, hc⟩ := h3 (by omega)
  refine ⟨ad, e, fun j hj => ?_⟩
  rw [hc j (by omega), List.getD_eq_getElem?_getD, List.getD_eq_getElem?_getD, List.getElem?_take, if_pos (by omega)]
set_option maxHeartbeats 8000000 in
set_option maxRecDepth 100000 in
theorem Rd_take_bad.calls (g : Nat) (A : Option Addr) (l : List Int) (n : Nat) (w : World) (hr : Rd_Is w g A l true) :
    Calls Tryd.prog 33 #[.pointer (some ⟨g, 0, none⟩), .int .i64 (n : Int)] w fun e w' => Rd_Took g A n (Rd_tk l true n) l w e w' := by
  have e : Rd_tk l true n = ([], l, true) := rfl
  rw [e]
  obtain ⟨c, hg, hc, hC, hA⟩ := hr
  have f0 : w.cell? ⟨g, 0, none⟩ = some (.slice A l.length c) := (blk_cell hg 0).trans rfl
  have z0 := blk_frozen hg 0
  have z1 := blk_frozen hg 1
  have f1 : w.cell? ⟨g, 1, none⟩ = some (.bool true) := (blk_cell hg 1).trans rfl
  go_enter Tryd.func33, Tryd.ntmps33
  go_wp2
  go_ret
  exact ⟨none, 0, rfl, rfl, Kd.C_any0 _ _, fun _ h => (by cases h), Or.inl rfl, A, ⟨c, blk_put hg 1 _ rfl, hc, Rd_far (Rd_Keep.set g 1 w _) hC hA, hA⟩, Or.inl ⟨rfl, rfl⟩, Rd_Keep.set g 1 w _⟩
set_option maxHeartbeats 8000000 in
set_option maxRecDepth 100000 in
theorem Rd_take_short.calls (g : Nat) (A : Option Addr) (l : List Int) (n : Nat) (w : World) (hr : Rd_Is w g A l false) (hl : l.length < n) :
    Calls Tryd.prog 33 #[.pointer (some ⟨g, 0, none⟩), .int .i64 (n : Int)] w fun e w' => Rd_Took g A n (Rd_tk l false n) l w e w' := by
  have e : Rd_tk l false n = ([], l, true) := by unfold Rd_tk; rw [if_neg (by decide), if_pos hl]
  rw [e]
  clear e
  obtain ⟨c, hg, hc, hC, hA⟩ := hr
  have f0 : w.cell? ⟨g, 0, none⟩ = some (.slice A l.length c) := (blk_cell hg 0).trans rfl
  have z0 := blk_frozen hg 0
  have z1 := blk_frozen hg 1
  have f1 : w.cell? ⟨g, 1, none⟩ = some (.bool false) := (blk_cell hg 1).trans rfl
  have c1 : decide ((n : Int) > (l.length : Int)) = true := decide_eq_true (by omega)
  have c2 : decide ((l.length : Int) < (n : Int)) = true := decide_eq_true (by omega)
  have c3 : decide (l.length < n) = true := decide_eq_true (by omega)
  go_enter Tryd.func33, Tryd.ntmps33
  go_wp2
  go_ret
  exact ⟨none, 0, rfl, rfl, Kd.C_any0 _ _, fun _ h => (by cases h), Or.inl rfl, A, ⟨c, blk_put hg 1 _ rfl, hc, Rd_far (Rd_Keep.set g 1 w _) hC hA, hA⟩, Or.inl ⟨rfl, rfl⟩, Rd_Keep.set g 1 w _⟩
set_option maxHeartbeats 8000000 in
set_option maxRecDepth 100000 in
theorem Rd_take_in.calls (g : Nat) (A : Option Addr) (l : List Int) (n : Nat) (w : World) (hr : Rd_Is w g A l false) (hl : n ≤ l.length) :
    Calls Tryd.prog 33 #[.pointer (some ⟨g, 0, none⟩), .int .i64 (n : Int)] w fun e w' => Rd_Took g A n (Rd_tk l false n) l w e w' := by
  have e : Rd_tk l false n = (l.take n, l.drop n, false) := by unfold Rd_tk; rw [if_neg (by decide), if_neg (by omega)]
  rw [e]
  clear e
  have hlt : (l.take n).length = n := by rw [List.length_take]; omega
  have hld : (l.drop n).length = l.length - n := List.length_drop
  have HT := Aside0.mk hlt
  have HD := Aside0.mk hld
  clear hlt hld
  obtain ⟨c, hg, hc, hC, hA⟩ := hr
  have f0 : w.cell? ⟨g, 0, none⟩ = some (.slice A l.length c) := (blk_cell hg 0).trans rfl
  have z0 := blk_frozen hg 0
  have z1 := blk_frozen hg 1
  have f1 : w.cell? ⟨g, 1, none⟩ = some (.bool false) := (blk_cell hg 1).trans rfl
  have c1 : decide ((n : Int) > (l.length : Int)) = false := decide_eq_false (by omega)
  have c2 : decide ((l.length : Int) < (n : Int)) = false := decide_eq_false (by omega)
  have c3 : decide (l.length < n) = false := decide_eq_false (by omega)
  have c4 : n ≤ c := by omega
  go_enter Tryd.func33, Tryd.ntmps33
  go_wp2
  · go_ret
    have hdn : l.drop n = [] := List.drop_of_length_le (by omega)
    refine ⟨A, n, by rw [HT.out]; first | rfl | (simp [*]; done), HT.out, Rd_pre n hl (Rd_far (Rd_Keep.set g 0 w _) hC hA), hA, Or.inr rfl, A, ?_, Or.inr (Or.inl ⟨hdn, rfl⟩), Rd_Keep.set g 0 w _⟩
    exact ⟨0, by rw [HD.out]; exact blk_put hg 0 _ (by first | rfl | (simp [*]; done)), by rw [HD.out]; omega, (by show Kd.C (Kd.int .u8) _ A (l.drop n).length (l.drop n); rw [hdn]; exact Kd.C_any0 _ _), hA⟩
  · go_ret
    cases A with
    | none =>
      have hln : l = [] := by
        by_cases h0 : 0 < l.length
        · obtain ⟨ad, e, _⟩ := (Kd.reads_of_C (d := (0 : Int)) hC).2.2 h0
          cases e
        · exact List.length_eq_zero_iff.mp (by omega)
      have hdn : l.drop n = [] := by rw [hln, List.drop_nil]
      refine ⟨none, n, by rw [HT.out]; first | rfl | (simp [*]; done), HT.out, Rd_pre n hl (Rd_far (Rd_Keep.set g 0 w _) hC hA), hA, Or.inr rfl, none, ?_, Or.inr (Or.inl ⟨hdn, rfl⟩), Rd_Keep.set g 0 w _⟩
      exact ⟨c - n, by rw [HD.out]; exact blk_put hg 0 _ (by first | rfl | (simp [*]; done)), by rw [HD.out]; omega, (by show Kd.C (Kd.int .u8) _ none (l.drop n).length (l.drop n); rw [hdn]; exact Kd.C_any0 _ _), hA⟩
    | some ad =>
      refine ⟨some ad, n, by rw [HT.out]; first | rfl | (simp [*]; done), HT.out, Rd_pre n hl (Rd_far (Rd_Keep.set g 0 w _) hC hA), hA, Or.inr rfl, some (ad.add n), ?_, Or.inr (Or.inr ⟨ad, rfl, rfl⟩), Rd_Keep.set g 0 w _⟩
      exact ⟨c - n, by rw [HD.out]; exact blk_put hg 0 _ (by first | rfl | (simp [*]; done)), by rw [HD.out]; omega, Rd_drop n hl (Rd_far (Rd_Keep.set g 0 w _) hC hA), fun ad2 e => by
        obtain rfl := Option.some.inj e
        have hb : (ad.add n).block = ad.block := by unfold Addr.add; split <;> rfl
        rw [hb]
        exact hA ad rfl⟩
theorem Rd_take.calls (g : Nat) (A : Option Addr) (l : List Int) (bad : Bool) (n : Nat) (w : World) (hr : Rd_Is w g A l bad) :
    Calls Tryd.prog 33 #[.pointer (some ⟨g, 0, none⟩), .int .i64 (n : Int)] w fun e w' => Rd_Took g A n (Rd_tk l bad n) l w e w' := by
  cases bad with
  | true => exact Rd_take_bad.calls g A l n w hr
  | false =>
    by_cases c : l.length < n
    · exact Rd_take_short.calls g A l n w hr c
    · exact Rd_take_in.calls g A l n w hr (by omega)
theorem Rd_num_range (l : List Int) (bad : Bool) (hi : Int) (h : ∀ x ∈ l, 0 ≤ x ∧ x < 256) : 0 ≤ (Rd_num l bad 0 hi).1 ∧ ∀ x ∈ (Rd_num l bad 0 hi).2.1, 0 ≤ x ∧ x < 256 := by
  unfold Rd_num
  split
  · exact ⟨Int.le_refl 0, h⟩
  · split
    · exact ⟨Int.le_refl 0, h⟩
    · split
      · exact ⟨Int.le_refl 0, fun x hx => h x (List.mem_of_mem_drop hx)⟩
      · split
        · exact ⟨Int.le_refl 0, fun x hx => h x (List.mem_of_mem_drop hx)⟩
        · exact ⟨by simp only; omega, fun x hx => h x (List.mem_of_mem_drop hx)⟩
/-- What bytes that are asked for are. -/
def Rd_byt (l : List Int) (bad : Bool) (most : Int) : List Int × List Int × Bool := Rd_tk (Rd_num l bad 0 most).2.1 (Rd_num l bad 0 most).2.2 (Rd_num l bad 0 most).1.toNat
/-- An address in the same block, or none. -/
def Rd_In (A A' : Option Addr) : Prop := ∀ ad, A' = some ad → ∃ ad0, A = some ad0 ∧ ad.block = ad0.block
theorem Rd_In.refl (A : Option Addr) : Rd_In A A := fun ad h => ⟨ad, h, rfl⟩
theorem Rd_In.trans {A B C : Option Addr} (h : Rd_In A B) (k : Rd_In B C) : Rd_In A C := fun ad e => by
  obtain ⟨a1, e1, e2⟩ := k ad e
  obtain ⟨a0, e3, e4⟩ := h a1 e1
  exact ⟨a0, e3, e2.trans e4⟩
theorem Rd_In.moved {n : Nat} {A A' : Option Addr} {l l' : List Int} (h : l' = l ∧ A' = A ∨ Rd_Moved n A A' l') : Rd_In A A' := by
  rcases h with ⟨_, rfl⟩ | ⟨_, rfl⟩ | ⟨ad, rfl, rfl⟩
  · exact Rd_In.refl _
  · exact Rd_In.refl _
  · intro ad2 e
    obtain rfl := Option.some.inj e
    exact ⟨ad, rfl, by unfold Addr.add; split <;> rfl⟩
/-- What a call for bytes tells. -/
def Rd_Byted (g : Nat) (A : Option Addr) (r : List Int × List Int × Bool) (w : World) (e : Ending) (w' : World) : Prop :=
  ∃ B m, e = .returned (.slice B r.1.length m) ∧ r.1.length = m ∧ Kd.C (Kd.int .u8) w' B r.1.length r.1 ∧ (∀ ad, B = some ad → ad.block ≠ g) ∧ Rd_In A B ∧ (∃ A', Rd_Is w' g A' r.2.1 r.2.2) ∧ Rd_Keep g w w'
set_option maxHeartbeats 8000000 in
set_option maxRecDepth 100000 in
theorem Rd_Bytes.calls (g : Nat) (A : Option Addr) (l : List Int) (bad : Bool) (most : Int) (w : World) (hr : Rd_Is w g A l bad) (hb : ∀ x ∈ l, 0 ≤ x ∧ x < 256) :
    Calls Tryd.prog 22 #[.pointer (some ⟨g, 0, none⟩), .int .i64 most] w fun e w' => Rd_Byted g A (Rd_byt l bad most) w e w' := by
  obtain ⟨hn0, hn1⟩ := Rd_num_range l bad most hb
  have hnum := Rd_Number.calls g A l bad 0 most w hr hb
  unfold Rd_byt
  generalize Rd_num l bad 0 most = R at *
  obtain ⟨x, l1, b1⟩ := R
  obtain ⟨n, rfl⟩ := Int.eq_ofNat_of_zero_le hn0
  have HNUM := Aside0.mk hnum
  clear hnum hn0 hn1
  simp only [Int.toNat_natCast]
  go_enter Tryd.func22, Tryd.ntmps22
  go_wp2_with (first | (go_at_call 20; (refine HNUM.out.mono ?_); rintro e w1 ⟨rfl, ⟨A1, hr1, hm1⟩, hk1⟩) | (go_at_call 33; (with_reducible refine (Rd_take.calls g A1 l1 b1 n _ hr1).mono ?_); rintro e w2 ⟨B, m, rfl, hBm, hBC, hBg, hBA, A2, hr2, hm2, hk2⟩))
  go_ret
  exact ⟨B, m, by first | rfl | (simp [*]; done), hBm, hBC, hBg, (Rd_In.moved hm1).trans (by rcases hBA with rfl | rfl; (intro _ h; cases h); exact Rd_In.refl _), ⟨A2, hr2⟩, hk1.trans hk2⟩
set_option maxHeartbeats 8000000 in
set_option maxRecDepth 100000 in
theorem Rd_Text.calls (g : Nat) (A : Option Addr) (l : List Int) (bad : Bool) (most : Int) (w : World) (hr : Rd_Is w g A l bad) (hb : ∀ x ∈ l, 0 ≤ x ∧ x < 256) :
    Calls Tryd.prog 24 #[.pointer (some ⟨g, 0, none⟩), .int .i64 most] w fun e w' => e = .returned (.string (strOfNums (Rd_byt l bad most).1)) ∧ (∃ A', Rd_Is w' g A' (Rd_byt l bad most).2.1 (Rd_byt l bad most).2.2) ∧ Rd_Keep g w w' := by
  go_enter Tryd.func24, Tryd.ntmps24
  go_wp2_with (first | (go_at_call 22; (with_reducible refine (Rd_Bytes.calls g A l bad most _ hr hb).mono ?_); rintro e w1 ⟨B, m, rfl, hBm, hBC, hBg, _, hr1, hk1⟩; have hcv := Kd.C_string (P := Tryd.prog) (A := B) (c := m) Tryd.underlying22 Tryd.underlying5 Tryd.underlying9 hBC; rw [hBm] at hcv))
  go_ret
  exact ⟨by first | rfl | (simp [*]; done), hr1, hk1⟩
set_option maxHeartbeats 8000000 in
set_option maxRecDepth 100000 in
theorem Rd_Left.calls (g : Nat) (A : Option Addr) (l : List Int) (bad : Bool) (w : World) (hr : Rd_Is w g A l bad) :
    Calls Tryd.prog 26 #[.pointer (some ⟨g, 0, none⟩)] w fun e w' => e = .returned (.int .i64 (if bad = true then 0 else (l.length : Int))) ∧ w' = w := by
  obtain ⟨c, hg, hc, hC, hA⟩ := hr
  have f0 : w.cell? ⟨g, 0, none⟩ = some (.slice A l.length c) := (blk_cell hg 0).trans rfl
  have f1 : w.cell? ⟨g, 1, none⟩ = some (.bool bad) := (blk_cell hg 1).trans rfl
  have z0 := blk_frozen hg 0
  have z1 := blk_frozen hg 1
  cases bad with
  | true =>
    go_enter Tryd.func26, Tryd.ntmps26
    go_wp2
    go_ret
    exact ⟨rfl, rfl⟩
  | false =>
    go_enter Tryd.func26, Tryd.ntmps26
    go_wp2
    go_ret
    exact ⟨rfl, rfl⟩
set_option maxHeartbeats 8000000 in
set_option maxRecDepth 100000 in
theorem Rd_LeftN.calls (w : World) : Calls Tryd.prog 26 #[.pointer none] w fun e w' => e = .returned (.int .i64 0) ∧ w' = w := by
  go_enter Tryd.func26, Tryd.ntmps26
  go_wp2
  go_ret
  exact ⟨rfl, rfl⟩
/-- The fault that is told. -/
def Rd_fault (w : World) (c : Int) : Value × World := (.iface 57 (.pointer (some ⟨w.heap.size, 0, none⟩)), w.alloc (.cells #[.int .i64 c, .string ⟨#[99, 111, 100, 101]⟩] 62 (0, 0)))
set_option maxHeartbeats 8000000 in
set_option maxRecDepth 100000 in
theorem Rd_EndN.calls (w : World) : Calls Tryd.prog 29 #[.pointer none] w fun e w' => e = .returned (Rd_fault w 1).1 ∧ w' = (Rd_fault w 1).2 := by
  go_enter Tryd.func29, Tryd.ntmps29
  go_wp2_with (go_in)
  go_ret
  exact ⟨rfl, rfl⟩
set_option maxHeartbeats 8000000 in
set_option maxRecDepth 100000 in
theorem Rd_EndOk.calls (g : Nat) (A : Option Addr) (w : World) (hr : Rd_Is w g A [] false) :
    Calls Tryd.prog 29 #[.pointer (some ⟨g, 0, none⟩)] w fun e w' => e = .returned .nilIface ∧ w' = w := by
  obtain ⟨c, hg, hc, hC, hA⟩ := hr
  have f0 : w.cell? ⟨g, 0, none⟩ = some (.slice A 0 c) := (blk_cell hg 0).trans rfl
  have f1 : w.cell? ⟨g, 1, none⟩ = some (.bool false) := (blk_cell hg 1).trans rfl
  go_enter Tryd.func29, Tryd.ntmps29
  go_wp2_with (go_in)
  go_ret
  exact ⟨rfl, rfl⟩
set_option maxHeartbeats 8000000 in
set_option maxRecDepth 100000 in
theorem Rd_EndBad.calls (g : Nat) (A : Option Addr) (l : List Int) (bad : Bool) (w : World) (hr : Rd_Is w g A l bad) (hb : bad = true ∨ 0 < l.length) :
    Calls Tryd.prog 29 #[.pointer (some ⟨g, 0, none⟩)] w fun e w' => e = .returned (Rd_fault w 4).1 ∧ w' = (Rd_fault w 4).2 := by
  obtain ⟨c, hg, hc, hC, hA⟩ := hr
  have f0 : w.cell? ⟨g, 0, none⟩ = some (.slice A l.length c) := (blk_cell hg 0).trans rfl
  have f1 : w.cell? ⟨g, 1, none⟩ = some (.bool bad) := (blk_cell hg 1).trans rfl
  have z0 := blk_frozen hg 0
  have z1 := blk_frozen hg 1
  cases bad with
  | true =>
    go_enter Tryd.func29, Tryd.ntmps29
    go_wp2_with (go_in)
    go_ret
    exact ⟨rfl, rfl⟩
  | false =>
    have hl : 0 < l.length := by simpa using hb
    have c1 : decide ((l.length : Int) > 0) = true := decide_eq_true (by omega)
    have c2 : decide (0 < (l.length : Int)) = true := decide_eq_true (by omega)
    have c3 : decide (0 < l.length) = true := decide_eq_true (by omega)
    go_enter Tryd.func29, Tryd.ntmps29
    go_wp2_with (go_in)
    go_ret
    exact ⟨rfl, rfl⟩
set_option maxHeartbeats 8000000 in
set_option maxRecDepth 100000 in
theorem Rd_New.calls (A0 : Option Addr) (c0 : Nat) (l0 : List Int) (w : World) (hr0 : Kd.C (Kd.int .u8) w A0 l0.length l0) (hc0 : l0.length ≤ c0) (hf : slices_Clone_byte_byte.f l0 = some l0) :
    Calls Tryd.prog 19 #[.slice A0 l0.length c0] w fun e w' => ∃ g A, e = .returned (.pointer (some ⟨g, 0, none⟩)) ∧ Rd_Is w' g A l0 false ∧ w.heap.size ≤ g ∧ (∀ ad, A = some ad → w.heap.size ≤ ad.block) ∧ g < w'.heap.size ∧ (∀ ad, A = some ad → ad.block < w'.heap.size) ∧ Below w.heap.size w w' := by
  have HR0 := Aside0.mk hr0
  have HC0 := Aside0.mk hc0
  clear hr0 hc0
  go_enter Tryd.func19, Tryd.ntmps19
  go_wp2_with (go_at_call 32; (with_reducible refine (slices_Clone_byte_byte.calls _ _ l0 l0 _ HR0.out HC0.out hf).mono ?_); rintro e w1 ⟨v, rfl, ho, hb⟩; obtain ⟨A1, c1, rfl⟩ := Kd.R_slice ho)
  go_ret
  have hbs : ∀ ad, A1 = some ad → w.heap.size ≤ ad.block ∧ ad.block < w1.heap.size := fun ad e => by
    subst e
    exact ⟨Kd.R_base ho _ rfl, Kd.R_lt ho _ rfl⟩
  have hsz : (w1.alloc (.cells #[.slice A1 l0.length c1, .bool false] 55 (0, 0))).heap.size = w1.heap.size + 1 := World.size_alloc ..
  refine ⟨_, A1, rfl, ⟨c1, blk_new _ _, (Kd.R_reads' ho).2.1, Kd.C_alloc (Kd.R_reads' ho).2.2 _, fun ad e => by have := (hbs ad e).2; omega⟩, hb.size, fun ad e => (hbs ad e).1, by omega, fun ad e => by have := (hbs ad e).2; omega, hb.alloc hb.size _⟩
/-! the law -/
/-- All that is read of what was laid is what was laid; of what was cut short something is wrong. -/
def Rd_good (n : Int) (p : List Int) (s : ByteArray) (b : List Int) (c : Int) : Bool :=
  decide (∀ x ∈ b, 0 ≤ x ∧ x < 256) && decide (b.length = 24 + p.length + s.size) && decide (0 ≤ c) && decide (c ≤ (b.length : Int)) && decide (b.length < 1000000) &&
  decide ((Rd_num b false n n).1 = n) && decide ((Rd_byt (Rd_num b false n n).2.1 (Rd_num b false n n).2.2 p.length).1 = p) &&
  decide (strOfNums (Rd_byt (Rd_byt (Rd_num b false n n).2.1 (Rd_num b false n n).2.2 p.length).2.1 (Rd_byt (Rd_num b false n n).2.1 (Rd_num b false n n).2.2 p.length).2.2 s.size).1 = s) &&
  decide ((Rd_byt (Rd_byt (Rd_num b false n n).2.1 (Rd_num b false n n).2.2 p.length).2.1 (Rd_byt (Rd_num b false n n).2.1 (Rd_num b false n n).2.2 p.length).2.2 s.size).2 = ([], false)) &&
  (let q := Rd_byt (Rd_byt (Rd_num (b.take c.toNat) false n n).2.1 (Rd_num (b.take c.toNat) false n n).2.2 200).2.1 (Rd_byt (Rd_num (b.take c.toNat) false n n).2.1 (Rd_num (b.take c.toNat) false n n).2.2 200).2.2 200
   q.2.2 || decide (0 < q.2.1.length))
theorem Rd_num_bytes (l : List Int) (bad : Bool) (lo hi : Int) (h : ∀ x ∈ l, 0 ≤ x ∧ x < 256) : ∀ x ∈ (Rd_num l bad lo hi).2.1, 0 ≤ x ∧ x < 256 := by
  unfold Rd_num
  split
  · exact h
  · split
    · exact h
    · split
      · exact fun x hx => h x (List.mem_of_mem_drop hx)
      · split
        · exact fun x hx => h x (List.mem_of_mem_drop hx)
        · exact fun x hx => h x (List.mem_of_mem_drop hx)
theorem Rd_byt_bytes (l : List Int) (bad : Bool) (most : Int) (h : ∀ x ∈ l, 0 ≤ x ∧ x < 256) : ∀ x ∈ (Rd_byt l bad most).2.1, 0 ≤ x ∧ x < 256 := by
  have h2 := Rd_num_bytes l bad 0 most h
  unfold Rd_byt Rd_tk
  split
  · exact h2
  · split
    · exact h2
    · exact fun x hx => h2 x (List.mem_of_mem_drop hx)
theorem Rd_same_keep {g : Nat} {w w' : World} (h : Rd_Keep g w w') {g2 : Nat} {A : Option Addr} {l : List Int} {bad : Bool} (hne : g2 ≠ g) (hA : ∀ ad, A = some ad → ad.block ≠ g) (hr : Rd_Is w g2 A l bad) : Rd_Is w' g2 A l bad := by
  obtain ⟨c, hg, hc, hC, hA2⟩ := hr
  exact ⟨c, (h.far _ hne).trans hg, hc, Rd_far h hC hA, hA2⟩
theorem Rd_below {B : Nat} {w w' : World} (hb : Below B w w') {g : Nat} {A : Option Addr} {l : List Int} {bad : Bool} (hg : g < B) (hA : ∀ ad, A = some ad → ad.block < B) (hr : Rd_Is w g A l bad) : Rd_Is w' g A l bad := by
  obtain ⟨c, hg2, hc, hC, hA2⟩ := hr
  refine ⟨c, (hb.block g hg).trans hg2, hc, ?_, hA2⟩
  obtain ⟨h1, h2, h3⟩ := Kd.reads_of_C (d := (0 : Int)) hC
  refine Kd.C_of_reads (d := (0 : Int)) ⟨h1, h2, fun hn => ?_⟩
  obtain ⟨ad, e, hc⟩ := h3 hn
  refine ⟨ad, e, fun j hj => ?_⟩
  rw [← hc j hj]
  have hbl : (ad.add j).block = ad.block := by unfold Addr.add; split <;> rfl
  unfold World.cell?
  rw [hbl, hb.block _ (hA ad e)]
def chatelainelaw14_CodeBack.f (k : Nat) (a0 : Int) (l1 : List Int) (a2 : ByteArray) (a3 : Int) : Option Bool :=
  if l1.length > 200 ∨ a2.size > 200 then chatelainelaw14_awake.f else
  (code_Number.f k [] [a0]).bind fun b1 => (code_Bytes.f k b1 [l1]).bind fun b2 => (code_Text.f k b2 a2).bind fun b3 => (slices_Clone_byte_byte.f b3).bind fun b4 => (chatelainelaw0_Low.f a3 (b3.length : Int)).bind fun c => (slices_Clone_byte_byte.f (b3.take c.toNat)).bind fun b5 => (chatelainelaw0_SameBytes.f k l1 l1).bind fun t =>
  if Rd_good a0 l1 a2 b3 c && decide (b4 = b3) && decide (b5 = b3.take c.toNat) && t then some true else none
set_option maxHeartbeats 8000000 in
set_option maxRecDepth 100000 in
theorem chatelainelaw14_CodeBack.calls (k : Nat) (a0 : Int) (A1 : Option Addr) (c1 : Nat) (l1 : List Int) (a2 : ByteArray) (a3 : Int) (r : Bool) (w : World) (hr1 : Kd.C (Kd.int .u8) w A1 l1.length l1) (hc1 : l1.length ≤ c1) (hg_ : w.cell? ⟨0, 0, none⟩ = some (.iface 81 (.agg #[.pointer (some ⟨1, 48, none⟩)]))) (h : chatelainelaw14_CodeBack.f k a0 l1 a2 a3 = some r) :
    Calls Tryd.prog 7 #[.int .i64 a0, .slice A1 l1.length c1, .string a2, .int .i64 a3] w fun e w' => e = .returned (.bool r) ∧ Below w.heap.size w w' := by
  unfold chatelainelaw14_CodeBack.f at h
  have aw : chatelainelaw14_awake.f = some true := rfl
  by_cases g1 : l1.length > 200
  · rw [if_pos (Or.inl g1), aw] at h
    obtain rfl := Option.some.inj h
    have c2 : decide ((l1.length : Int) > 200) = true := decide_eq_true (by omega)
    have c3 : decide (200 < (l1.length : Int)) = true := decide_eq_true (by omega)
    have c4 : decide (200 < l1.length) = true := decide_eq_true (by omega)
    clear h g1
    go_enter Tryd.func7, Tryd.ntmps7
    go_wp2_with (go_at_call 8; refine (chatelainelaw14_awake.calls true _ hg_ aw).mono ?_; rintro e w1 ⟨rfl, hb⟩)
    go_ret
    exact ⟨rfl, hb⟩
  have c2 : decide ((l1.length : Int) > 200) = false := decide_eq_false (by omega)
  have c3 : decide (200 < (l1.length : Int)) = false := decide_eq_false (by omega)
  have c4 : decide (200 < l1.length) = false := decide_eq_false (by omega)
  by_cases g2 : a2.size > 200
  · rw [if_pos (Or.inr g2), aw] at h
    obtain rfl := Option.some.inj h
    have c5 : decide ((a2.size : Int) > 200) = true := decide_eq_true (by omega)
    have c6 : decide (200 < (a2.size : Int)) = true := decide_eq_true (by omega)
    have c7 : decide (200 < a2.size) = true := decide_eq_true (by omega)
    clear h g1 g2
    go_enter Tryd.func7, Tryd.ntmps7
    go_wp2_with (go_at_call 8; refine (chatelainelaw14_awake.calls true _ hg_ aw).mono ?_; rintro e w1 ⟨rfl, hb⟩)
    go_ret
    exact ⟨rfl, hb⟩
  have c5 : decide ((a2.size : Int) > 200) = false := decide_eq_false (by omega)
  have c6 : decide (200 < (a2.size : Int)) = false := decide_eq_false (by omega)
  have c7 : decide (200 < a2.size) = false := decide_eq_false (by omega)
  rw [if_neg (by omega)] at h
  obtain ⟨b1, h1, h⟩ := Option.bind_eq_some_iff.mp h
  obtain ⟨b2, h2, h⟩ := Option.bind_eq_some_iff.mp h
  obtain ⟨b, h3, h⟩ := Option.bind_eq_some_iff.mp h
  obtain ⟨b4, h4, h⟩ := Option.bind_eq_some_iff.mp h
  obtain ⟨c, h5, h⟩ := Option.bind_eq_some_iff.mp h
  obtain ⟨b5, h6, h⟩ := Option.bind_eq_some_iff.mp h
  obtain ⟨t, h7, h⟩ := Option.bind_eq_some_iff.mp h
  have hh : (Rd_good a0 l1 a2 b c && decide (b4 = b) && decide (b5 = b.take c.toNat) && t) = true := by
    by_cases hx : (Rd_good a0 l1 a2 b c && decide (b4 = b) && decide (b5 = b.take c.toNat) && t) = true
    · exact hx
    · rw [if_neg hx] at h
      cases h
  rw [if_pos hh] at h
  obtain rfl := Option.some.inj h
  clear h
  simp only [Rd_good, Bool.and_eq_true, decide_eq_true_eq, Bool.or_eq_true] at hh
  obtain ⟨⟨⟨⟨⟨⟨⟨⟨⟨⟨⟨⟨e0, e1⟩, e2⟩, e3⟩, e4⟩, e5⟩, e6⟩, e7⟩, e8⟩, e9⟩, eb4⟩, eb5⟩, et⟩ := hh
  obtain rfl := eb4.symm
  obtain rfl := eb5.symm
  obtain rfl := et
  have N1 : Aside0 (∀ (g : Nat) (A : Option Addr) (w : World), Rd_Is w g A b false → Calls Tryd.prog 20 #[.pointer (some ⟨g, 0, none⟩), .int .i64 a0, .int .i64 a0] w fun e w' => e = .returned (.int .i64 a0) ∧ (∃ A', Rd_Is w' g A' (Rd_num b false a0 a0).2.1 (Rd_num b false a0 a0).2.2 ∧ Rd_In A A') ∧ Rd_Keep g w w') := ⟨fun g A w hr => (Rd_Number.calls g A b false a0 a0 w hr e0).mono fun e w' ⟨q1, q2, q3⟩ => ⟨by rw [q1, e5], q2.imp fun _ q => ⟨q.1, Rd_In.moved q.2⟩, q3⟩⟩
  have f0 := Rd_num_bytes b false a0 a0 e0
  generalize (Rd_num b false a0 a0).2.1 = l2 at *
  generalize (Rd_num b false a0 a0).2.2 = d2 at *
  have N2 : Aside0 (∀ (g : Nat) (A : Option Addr) (w : World), Rd_Is w g A l2 d2 → Calls Tryd.prog 22 #[.pointer (some ⟨g, 0, none⟩), .int .i64 (l1.length : Int)] w fun e w' => ∃ B m, e = .returned (.slice B l1.length m) ∧ l1.length ≤ m ∧ Kd.C (Kd.int .u8) w' B l1.length l1 ∧ (∀ ad, B = some ad → ad.block ≠ g) ∧ Rd_In A B ∧ (∃ A', Rd_Is w' g A' (Rd_byt l2 d2 l1.length).2.1 (Rd_byt l2 d2 l1.length).2.2) ∧ Rd_Keep g w w') := ⟨fun g A w hr => (Rd_Bytes.calls g A l2 d2 l1.length w hr f0).mono fun e w' ⟨B, m, q1, q2, q3, q4, qi, q5, q6⟩ => by
    rw [e6] at q1 q2 q3
    exact ⟨B, m, q1, by omega, q3, q4, qi, q5, q6⟩⟩
  have f1 := Rd_byt_bytes l2 d2 l1.length f0
  generalize (Rd_byt l2 d2 l1.length).2.1 = l3 at *
  generalize (Rd_byt l2 d2 l1.length).2.2 = d3 at *
  have N3 : Aside0 (∀ (g : Nat) (A : Option Addr) (w : World), Rd_Is w g A l3 d3 → Calls Tryd.prog 24 #[.pointer (some ⟨g, 0, none⟩), .int .i64 (a2.size : Int)] w fun e w' => e = .returned (.string a2) ∧ (∃ A', Rd_Is w' g A' [] false) ∧ Rd_Keep g w w') := ⟨fun g A w hr => (Rd_Text.calls g A l3 d3 a2.size w hr f1).mono fun e w' ⟨q1, q2, q3⟩ => by
    rw [e7] at q1
    rw [e8] at q2
    exact ⟨q1, q2, q3⟩⟩
  have t0 : ∀ x ∈ b.take c.toNat, 0 ≤ x ∧ x < 256 := fun x hx => e0 x (List.mem_of_mem_take hx)
  have M1 : Aside0 (∀ (g : Nat) (A : Option Addr) (w : World), Rd_Is w g A (b.take c.toNat) false → Calls Tryd.prog 20 #[.pointer (some ⟨g, 0, none⟩), .int .i64 a0, .int .i64 a0] w fun e w' => (∃ x, e = .returned (.int .i64 x)) ∧ (∃ A', Rd_Is w' g A' (Rd_num (b.take c.toNat) false a0 a0).2.1 (Rd_num (b.take c.toNat) false a0 a0).2.2) ∧ Rd_Keep g w w') := ⟨fun g A w hr => (Rd_Number.calls g A _ false a0 a0 w hr t0).mono fun e w' ⟨q1, q2, q3⟩ => ⟨⟨_, q1⟩, q2.imp fun _ q => q.1, q3⟩⟩
  have t1 := Rd_num_bytes (b.take c.toNat) false a0 a0 t0
  generalize (Rd_num (b.take c.toNat) false a0 a0).2.1 = m2 at *
  generalize (Rd_num (b.take c.toNat) false a0 a0).2.2 = k2 at *
  have M2 : Aside0 (∀ (g : Nat) (A : Option Addr) (w : World), Rd_Is w g A m2 k2 → Calls Tryd.prog 22 #[.pointer (some ⟨g, 0, none⟩), .int .i64 200] w fun e w' => (∃ v, e = .returned v) ∧ (∃ A', Rd_Is w' g A' (Rd_byt m2 k2 200).2.1 (Rd_byt m2 k2 200).2.2) ∧ Rd_Keep g w w') := ⟨fun g A w hr => (Rd_Bytes.calls g A m2 k2 200 w hr t1).mono fun e w' ⟨B, m, q1, q2, q3, q4, _, q5, q6⟩ => ⟨⟨_, q1⟩, q5, q6⟩⟩
  have t2 := Rd_byt_bytes m2 k2 200 t1
  generalize (Rd_byt m2 k2 200).2.1 = m3 at *
  generalize (Rd_byt m2 k2 200).2.2 = k3 at *
  have M3 : Aside0 (∀ (g : Nat) (A : Option Addr) (w : World), Rd_Is w g A m3 k3 → Calls Tryd.prog 24 #[.pointer (some ⟨g, 0, none⟩), .int .i64 200] w fun e w' => (∃ v, e = .returned v) ∧ (∃ A', Rd_Is w' g A' (Rd_byt m3 k3 200).2.1 (Rd_byt m3 k3 200).2.2) ∧ Rd_Keep g w w') := ⟨fun g A w hr => (Rd_Text.calls g A m3 k3 200 w hr t2).mono fun e w' ⟨q1, q2, q3⟩ => ⟨⟨_, q1⟩, q2, q3⟩⟩
  generalize (Rd_byt m3 k3 200).2.1 = m4 at *
  generalize (Rd_byt m3 k3 200).2.2 = k4 at *
  have E9 := Aside0.mk e9
  have hlt : (b.take c.toNat).length = c.toNat := by rw [List.length_take]; omega
  have HLT := Aside0.mk hlt
  have ec : c = ((c.toNat : Nat) : Int) := by omega
  obtain ⟨cn, rfl⟩ := Int.eq_ofNat_of_zero_le e2
  rw [Int.toNat_natCast] at *
  have hcl : cn ≤ b.length := by omega
  have hww : wrap64 (24 + (l1.length : Int)) = 24 + (l1.length : Int) := by unfold wrap64; omega
  have hww2 : wrap64 (24 + (l1.length : Int) + (a2.size : Int)) = (b.length : Int) := by unfold wrap64; omega
  have hne : ((b.length : Int) != 24 + (l1.length : Int) + (a2.size : Int)) = false := by rw [bne_eq_false_iff_eq]; omega
  have T0 := Aside0.mk hcl
  have p0 : 0 ≤ (cn : Int) := Int.natCast_nonneg _
  have h6' : slices_Clone_byte_byte.f (b.take cn) = some (b.take cn) := h6
  clear e0 e5 e6 e7 e8 e9 f0 f1 t0 t1 t2 hlt ec e1 e3 e4 h6
  have HB := Aside0.mk (Below.refl w.heap.size w)
  have HR1 := Aside0.mk hr1
  have HG := Aside0.mk hg_
  clear hr1 hg_
  go_enter Tryd.func7, Tryd.ntmps7
  go_wp2_with (first
    | (go_at_call 8; refine (chatelainelaw14_awake.calls true _ (pw_cell_below X20 HG.out) aw).mono ?_; rintro e w21 ⟨rfl, hb21⟩; have X21 := below_step X20 hb21)
    | (go_at_call 26; refine (Rd_LeftN.calls w20).mono ?_; rintro e w20b ⟨rfl, rfl⟩)
    | (go_at_call 28; refine (Errs.num_P _ 1 _ (by decide) (pw_cell_below X19 HG.out) ((blk_cell (blk_new _ _) 0).trans rfl)).mono ?_; rintro e w20 ⟨rfl, hb20⟩; have X20 := below_step X19 hb20)
    | (go_at_call 29; refine (Rd_EndN.calls w18).mono ?_; rintro e w19 ⟨rfl, rfl⟩; have X19 := below_alloc X18 (.cells #[.int .i64 1, .string ⟨#[99, 111, 100, 101]⟩] 62 (0, 0)))
    | (go_at_call 28; refine (Errs.num_P _ 4 _ (by decide) (pw_cell_below X17 HG.out) ((blk_cell (blk_new _ _) 0).trans rfl)).mono ?_; rintro e w18 ⟨rfl, hb18⟩; have X18 := below_step X17 hb18)
    | (go_at_call 29; refine (Rd_EndBad.calls g10 _ _ _ _ hr16b E9.out).mono ?_; rintro e w17 ⟨rfl, rfl⟩; have X17 := below_alloc X16b (.cells #[.int .i64 4, .string ⟨#[99, 111, 100, 101]⟩] 62 (0, 0)))
    | (go_at_call 13; refine (chatelainelaw0_SameBytes.calls k B12 m12 l1 A1 c1 l1 true _ hy16 hm12 (Kd.C_below HR1.out X16) hc1 h7).mono ?_; rintro e w16b ⟨rfl, ⟨nd, rfl⟩⟩; have X16b := pw_below_drewN X16 nd; have hr16b : Rd_Is (w16.drewN nd) g10 B16 m4 k4 := (by obtain ⟨c, q1, q2, q3, q4⟩ := hr16; exact ⟨c, q1, q2, Kd.C_drewN q3 _, q4⟩))
    | (go_at_call 24; refine (M3.out g10 B15 _ hr15).mono ?_; rintro e w16 ⟨⟨v16, rfl⟩, ⟨B16, hr16⟩, hk16⟩; have X16 := hk16.below w.heap.size w (by have := HG10.out; omega) X15; have hy16 := Rd_far hk16 hy15 (fun ad h => HNE.out ad h))
    | (go_at_call 22; refine (M2.out g10 B14 _ hr14).mono ?_; rintro e w15 ⟨⟨v15, rfl⟩, ⟨B15, hr15⟩, hk15⟩; have X15 := hk15.below w.heap.size w (by have := HG10.out; omega) X14; have hy15 := Rd_far hk15 hy14 (fun ad h => HNE.out ad h))
    | (go_at_call 20; refine (M1.out g10 B10 _ hq13).mono ?_; rintro e w14 ⟨⟨x14, rfl⟩, ⟨B14, hr14⟩, hk14⟩; have X14 := hk14.below w.heap.size w (by have := HG10.out; omega) X13; have hy14 := Rd_far hk14 hy13 (fun ad h => HNE.out ad h))
    | (go_at_call 29; with_reducible refine (Rd_EndOk.calls g8 B13 _ hr13).mono ?_; rintro e w13c ⟨rfl, rfl⟩)
    | (go_at_call 26; refine (Rd_Left.calls g8 B13 _ _ _ hr13).mono ?_; rintro e w13b ⟨rfl, rfl⟩)
    | (go_at_call 24; refine (N3.out g8 B12' _ hr12).mono ?_; rintro e w13 ⟨rfl, ⟨B13, hr13⟩, hk13⟩; have X13 := hk13.below w.heap.size w (by have := HG8.out; omega) X12; have hy13 := Rd_far hk13 hy12 (fun ad h => hn12 ad h); have hq13 := Rd_same_keep hk13 HG108.out HB108.out hq12)
    | (go_at_call 22; refine (N2.out g8 B11 _ hr11).mono ?_; rintro e w12 ⟨B12, m12, rfl, hm12, hy12, hn12, hin12, ⟨B12', hr12⟩, hk12⟩; have X12 := hk12.below w.heap.size w (by have := HG8.out; omega) X11; have hq12 := Rd_same_keep hk12 HG108.out HB108.out hq11; have HNE : Aside0 (∀ ad, B12 = some ad → ad.block ≠ g10) := ⟨fun ad e => (by obtain ⟨a0, e1, e2⟩ := (hin11.trans hin12) ad e; have := AH8.out a0 e1; have := HG10b.out; omega)⟩)
    | (go_at_call 20; with_reducible refine (N1.out g8 B8 _ hr10').mono ?_; rintro e w11 ⟨rfl, ⟨B11, hr11, hin11⟩, hk11⟩; have X11 := hk11.below w.heap.size w (by have := HG8.out; omega) X10; have hq11 := Rd_same_keep hk11 HG108.out HB108.out hr10)
    | (go_at_call 19; have hN := Rd_New.calls A7 C7 (b.take cn) w9 (Rd_pre cn T0.out (Kd.R_reads' (Kd.R_below (Kd.R_below ho7 hb8) hd9.below)).2.2) (by have := HLT.out; have := (Kd.R_reads' ho7).2.1; have := T0.out; omega) h6'; rw [HLT.out] at hN; refine hN.mono ?_; rintro e w10 ⟨g10, B10, rfl, hr10, gl10, al10, gh10, ah10, hb10⟩; have X10 := below_step (below_step X8 hd9.below) hb10; have hs89 := hd9.below.size; have hs78 := hb8.size; have hr10' := Rd_below (B := w8.heap.size) (hd9.below.trans (hb10.mono hs89)) gh8 ah8 hr8; have HG8 : Aside0 (w.heap.size ≤ g8) := ⟨Nat.le_trans X7.size gl8⟩; have HG10b : Aside0 (w8.heap.size ≤ g10) := ⟨Nat.le_trans hs89 gl10⟩; have HG10 : Aside0 (w.heap.size ≤ g10) := ⟨Nat.le_trans X8.size (Nat.le_trans hs89 gl10)⟩; have AH8 : Aside0 (∀ ad, B8 = some ad → ad.block < w8.heap.size) := ⟨ah8⟩; have HG108 : Aside0 (g10 ≠ g8) := ⟨by omega⟩; have HB108 : Aside0 (∀ ad, B10 = some ad → ad.block ≠ g8) := ⟨fun ad e => (by have := al10 ad e; omega)⟩; clear gl10 al10 hs89 hs78)
    | (go_at_call 31; refine (chatelainelaw0_Low.calls a3 (b.length : Int) (cn : Int) _ h5).mono ?_; rintro e w9 ⟨rfl, hd9⟩; have hcn : cn ≤ C7 := Nat.le_trans T0.out (Kd.R_reads' ho7).2.1)
    | (go_at_call 19; refine (Rd_New.calls A7 C7 b _ (Kd.R_reads' ho7).2.2 (Kd.R_reads' ho7).2.1 h4).mono ?_; rintro e w8 ⟨g8, B8, rfl, hr8, gl8, al8, gh8, ah8, hb8⟩; have X7 := below_step (below_step (below_step (below_step (below_step HB.out hb2) hb4) hb5) hb6) hb7; have X8 := below_step X7 hb8)
    | (go_at_call 12; (refine (code_Text.calls k A6 C6 b2 a2 b _ (Kd.R_reads' ho6).2.2 (Kd.R_reads' ho6).2.1 h3).mono ?_); rintro e w7 ⟨v7, rfl, ho7, hb7⟩; obtain ⟨A7, C7, rfl⟩ := Kd.R_slice ho7)
    | (go_at_call 11; (refine (code_Bytes.calls k A4 C4 b1 A5 C5 _ b2 _ (Kd.R_reads' (Kd.R_below ho4 hb5)).2.2 (Kd.R_reads' ho4).2.1 (Kd.N_reads' ho5).2.2 (Kd.N_reads' ho5).2.1 h2).mono ?_); rintro e w6 ⟨v6, rfl, ho6, hb6⟩; obtain ⟨A6, C6, rfl⟩ := Kd.R_slice ho6)
    | ((with_reducible refine gate_dst (N := 31) rfl ?_); (try (refine gate_guard (by rfl) ?_; dsimp only)); refine Kd.N_lit (Kd.slice 5 (Kd.int .u8)) _ 22 ?hg (N' := 31) ?hd (xs := ([l1] : List (List Int))) (inner := [.slice A1 l1.length c1]) (ok := fun _ => True) (okp := fun _ => True) ?hr ?hp (fun _ hk => hk) trivial (Below.refl _ _) (Nat.le_refl _) (by simp) ?_; (case hd => rfl); (case hg => rfl); (case hr => first | (go_simp; done) | (go_simp; rfl)); (case hp => exact (Reps.one (show Kd.FK (Kd.slice 5 (Kd.int .u8)) _ _ l1 [.slice A1 l1.length c1] from (Kd.FK_slice_mk hc1 (Kd.F_mono (Kd.C_F (Kd.heap_int .u8) (Kd.C_below HR1.out (below_step (below_step HB.out hb2) hb4))) (fun _ _ => trivial)))) (Reps.none _ _))); intro v5 w5 ho5 hb5 hg_x hnew_; clear hg_x hnew_; obtain ⟨A5, C5, eq5⟩ := Kd.N_slice ho5; subst eq5)
    | (go_at_call 10; (refine (code_Number.calls k none 0 [] A3 C3 [a0] b1 _ (Kd.C_nil _ _) (Nat.le_refl _) (Kd.R_reads' ho2).2.2 (Kd.R_reads' ho2).2.1 h1).mono ?_); rintro e w4 ⟨v4, rfl, ho4, hb4⟩; obtain ⟨A4, C4, rfl⟩ := Kd.R_slice ho4)
    | ((with_reducible refine gate_dst (N := 28) rfl ?_); (try (refine gate_guard (by rfl) ?_; dsimp only)); refine Kd.R_lit (Kd.int .i64) _ 3 ?hg (N := 28) ?hd (xs := ([a0] : List Int)) (inner := [.int .i64 a0]) (ok := fun _ => True) (okp := fun _ => True) ?hr ?hp (fun _ hk => hk) trivial (Below.refl _ _) (Nat.le_refl _) (by simp) ?_; (case hd => rfl); (case hg => rfl); (case hr => first | (go_simp; done) | (go_simp; rfl)); (case hp => exact (Reps.one (show Kd.M (Kd.int .i64) _ _ _ a0 [.int .i64 a0] from rfl) (Reps.none _ _))); intro v2 w2 ho2 hb2 hg_x hnew_; clear hg_x hnew_; obtain ⟨A3, C3, eq3⟩ := Kd.R_slice ho2; subst eq3))
  go_ret
  exact ⟨rfl, X21⟩


/-- THE ONE PURE STATEMENT of chatelainelaw14_CodeBack: yours. -/
def chatelainelaw14_CodeBack.Pure : Prop := ∀ (a0 : Int) (l1 : List Int) (a2 : ByteArray) (a3 : Int), (Lit.int .i64 a0).wf = true → l1.length ≤ maxLen → l1.length * 1 ≤ 140737488351232 → (∀ x ∈ l1, (Lit.int .u8 x).wf = true) → a2.size ≤ 140737488351232 → (Lit.int .i64 a3).wf = true → ∃ k, chatelainelaw14_CodeBack.f k a0 l1 a2 a3 = some true
theorem chatelainelaw14_CodeBack.walk (P : chatelainelaw14_CodeBack.Pure) (a0 : Int) (a1 : Option Addr) (len1 cap1 : Nat) (z1 : List Int) (a2 : ByteArray) (a3 : Int) (w : World) (w0 : (Lit.int .i64 a0).wf = true) (w1 : (a1 = none ∧ len1 = 0 ∧ cap1 = 0 ∧ z1 = []) ∨ ∃ x, a1 = some x ∧ len1 ≤ cap1 ∧ cap1 ≤ maxLen ∧ z1.length = cap1 ∧ (∀ i, i < z1.length → w.cell? (x.add i) = some (.int .u8 (z1.getD i 0))) ∧ ∀ n ∈ z1, (Lit.int .u8 n).wf = true) (y1 : len1 * 1 ≤ 140737488351232) (w2 : a2.size ≤ 140737488351232) (w3 : (Lit.int .i64 a3).wf = true) (hg_ : w.cell? ⟨0, 0, none⟩ = some (.iface 81 (.agg #[.pointer (some ⟨1, 48, none⟩)]))) :
    Calls Tryd.prog 7 #[.int .i64 a0, .slice a1 len1 cap1, .string a2, .int .i64 a3] w fun e w' => e = .returned (.bool true) ∧ Below w.heap.size w w' := by
  obtain ⟨l1, rfl, hr1, hm1, hw1, hc1⟩ := ReadsInt.ofRowC w1
  obtain ⟨k, h⟩ := P a0 l1 a2 a3 w0 hm1 y1 hw1 w2 w3
  refine (chatelainelaw14_CodeBack.calls k a0 _ _ l1 a2 a3 true w (Kd.C_of_reads (d := (0 : Int)) (h1 := fun _ => rfl) hr1) hc1 hg_ h).mono ?_
  rintro e w' ⟨rfl, hd⟩
  exact ⟨rfl, hd⟩

end Go.Proofs.YtbeceghdhcoohaaDoor.PCB
