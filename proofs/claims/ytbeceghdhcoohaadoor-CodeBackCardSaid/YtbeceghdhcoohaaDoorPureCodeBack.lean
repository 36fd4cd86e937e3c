/- What was laid one behind the other is read again, and nothing is left; cut short something is wrong. No condition. -/
import Derived.Test.YtbeceghdhcoohaaDoorPCBx4
import Derived.Test.YtbeceghdhcoohaaDoorPCBx5
import Derived.Test.YtbeceghdhcoohaaDoorCodeBaseB
import Derived.Lib.Bytes
namespace Go.Proofs.YtbeceghdhcoohaaDoor.Pure
open Go.RowKit Go.Proofs.YtbeceghdhcoohaaDoor.PCB Go.Proofs.YtbeceghdhcoohaaDoor.CodeMathB Go.Proofs.YtbeceghdhcoohaaDoorW.PrintWords Go.Proofs.YtbeceghdhcoohaaDoorW.PrintLast Go.Proofs.YtbeceghdhcoohaaDoorW.PrintMore

theorem val_be8 (n : Int) : Rd_val (be8 n) = n % 18446744073709551616 := by
  have h0 := Int.emod_nonneg n (show (18446744073709551616 : Int) ≠ 0 by omega)
  have h1 := Int.emod_lt_of_pos n (show (0 : Int) < 18446744073709551616 by omega)
  rw [be8_div]
  generalize n % 18446744073709551616 = u at *
  simp only [Rd_val, List.length_cons, List.length_nil, Nat.zero_add, Nat.reduceAdd, Int.reducePow, Int.pow_zero, Int.mul_one, Int.add_zero]
  omega
theorem num_ok (m : Int) (rest : List Int) (lo hi : Int) (h0 : -9223372036854775808 ≤ m) (h1 : m ≤ 9223372036854775807) (h2 : lo ≤ m) (h3 : m ≤ hi) : Rd_num (be8 m ++ rest) false lo hi = (m, rest, false) := by
  have e1 : (be8 m ++ rest).take 8 = be8 m := List.take_left' (be8_len m)
  have e2 : (be8 m ++ rest).drop 8 = rest := List.drop_left' (be8_len m)
  have e3 : wrap64 (Rd_val (be8 m)) = m := by rw [val_be8]; unfold wrap64; omega
  unfold Rd_num
  rw [e1, e2, e3, if_neg (by decide), if_neg (by rw [List.length_append, be8_len]; omega), if_neg (by omega), if_neg (by omega)]
theorem num_short (l : List Int) (lo hi : Int) (h : l.length < 8) : Rd_num l false lo hi = (0, l, true) := by
  unfold Rd_num
  rw [if_neg (by decide), if_pos h]
theorem byt_bad (l : List Int) (most : Int) : (Rd_byt l true most).2.2 = true := rfl
theorem byt_short (l : List Int) (most : Int) (h : l.length < 8) : (Rd_byt l false most).2.2 = true := by
  unfold Rd_byt
  rw [num_short l 0 most h]
  rfl
theorem byt_ok (p rest : List Int) (most : Int) (h : (p.length : Int) ≤ most) (h2 : p.length < 1000) : Rd_byt (cpart p ++ rest) false most = (p, rest, false) := by
  unfold Rd_byt cpart
  rw [List.append_assoc, num_ok (p.length : Int) (p ++ rest) 0 most (by omega) (by omega) (by omega) h]
  simp only [Int.toNat_natCast]
  unfold Rd_tk
  rw [if_neg (by decide), if_neg (by rw [List.length_append]; omega), List.take_left' rfl, List.drop_left' rfl]
/-- Fewer bytes than were laid. -/
theorem byt_cut (p rest : List Int) (most : Int) (h : (p.length : Int) ≤ most) (h2 : p.length < 1000) (c : Nat) (hc : c < 8 + p.length) : (Rd_byt ((cpart p ++ rest).take c) false most).2.2 = true := by
  have hl : ((cpart p ++ rest).take c).length ≤ c := List.length_take_le _ _
  by_cases c8 : c < 8
  · exact byt_short _ _ (by omega)
  · have e : (cpart p ++ rest).take c = be8 (p.length : Int) ++ (p ++ rest).take (c - 8) := by
      unfold cpart
      rw [List.append_assoc, List.take_append, be8_len, List.take_of_length_le (by rw [be8_len]; omega)]
    have hl2 : ((p ++ rest).take (c - 8)).length ≤ c - 8 := List.length_take_le _ _
    unfold Rd_byt
    rw [e, num_ok (p.length : Int) _ 0 most (by omega) (by omega) (by omega) h]
    simp only [Int.toNat_natCast]
    unfold Rd_tk
    rw [if_neg (by decide), if_pos (by omega)]
theorem str_of_bytes (s : ByteArray) : strOfNums (bytesOf s) = s := by
  unfold strOfNums bytesOf
  have e : (s.data.toList.map (fun b => (b.toNat : Int))).map (fun n => UInt8.ofNat n.toNat) = s.data.toList := by
    rw [List.map_map]
    conv => rhs; rw [← List.map_id s.data.toList]
    apply List.map_congr_left
    intro x _
    simp
  rw [e]
theorem bytes_range (s : ByteArray) : ∀ x ∈ bytesOf s, 0 ≤ x ∧ x < 256 := by
  intro x hx
  unfold bytesOf at hx
  obtain ⟨b, _, rfl⟩ := List.mem_map.mp hx
  have := b.toNat_lt
  omega
theorem wf_u8 {x : Int} (h : (Lit.int .u8 x).wf = true) : 0 ≤ x ∧ x < 256 := by
  simp [Lit.wf, IntKind.min, IntKind.max, IntKind.signed, IntKind.bits] at h
  omega
theorem cut_bad (n : Int) (p q : List Int) (hn0 : -9223372036854775808 ≤ n) (hn1 : n ≤ 9223372036854775807) (hp : p.length ≤ 200) (hq : q.length ≤ 200) (c : Nat) (hc : c < 24 + p.length + q.length) :
    (Rd_byt (Rd_byt (Rd_num ((be8 n ++ cpart p ++ cpart q).take c) false n n).2.1 (Rd_num ((be8 n ++ cpart p ++ cpart q).take c) false n n).2.2 200).2.1 (Rd_byt (Rd_num ((be8 n ++ cpart p ++ cpart q).take c) false n n).2.1 (Rd_num ((be8 n ++ cpart p ++ cpart q).take c) false n n).2.2 200).2.2 200).2.2 = true := by
  have hl : ((be8 n ++ cpart p ++ cpart q).take c).length ≤ c := List.length_take_le _ _
  by_cases c8 : c < 8
  · rw [num_short _ n n (by omega)]
    have : (Rd_byt ((be8 n ++ cpart p ++ cpart q).take c) true 200).2.2 = true := rfl
    simp only [this]
    rfl
  · have e : (be8 n ++ cpart p ++ cpart q).take c = be8 n ++ (cpart p ++ cpart q).take (c - 8) := by
      rw [List.append_assoc, List.take_append, be8_len, List.take_of_length_le (by rw [be8_len]; omega)]
    rw [e, num_ok n _ n n hn0 hn1 (Int.le_refl _) (Int.le_refl _)]
    simp only
    by_cases c16 : c - 8 < 8 + p.length
    · have := byt_cut p (cpart q) 200 (by omega) (by omega) (c - 8) c16
      simp only [this]
      rfl
    · have e2 : (cpart p ++ cpart q).take (c - 8) = cpart p ++ (cpart q ++ []).take (c - 8 - (8 + p.length)) := by
        rw [List.take_append, cpart_len, List.take_of_length_le (by rw [cpart_len]; omega), List.append_nil]
      rw [e2, byt_ok p _ 200 (by omega) (by omega)]
      simp only
      exact byt_cut q [] 200 (by omega) (by omega) _ (by omega)
theorem low_ok (a : Int) (n : Nat) (h0 : 0 < n) (h1 : n < 4294967296) : ∃ r : Nat, r < n ∧ chatelainelaw0_Low.f a (n : Int) = some (r : Int) := by
  have hw : ∀ x : Int, IntKind.u64.wrap x = x % 18446744073709551616 := fun x => by simp [IntKind.wrap, IntKind.bits, IntKind.signed]
  have hn : IntKind.u64.wrap (n : Int) = (n : Int) := by rw [hw]; omega
  have hu := hw a
  have hu0 : 0 ≤ IntKind.u64.wrap a := by rw [hu]; omega
  have hr0 : 0 ≤ IntKind.u64.wrap a % (n : Int) := Int.emod_nonneg _ (by omega)
  have hr1 : IntKind.u64.wrap a % (n : Int) < (n : Int) := Int.emod_lt_of_pos _ (by omega)
  refine ⟨(IntKind.u64.wrap a % (n : Int)).toNat, by omega, ?_⟩
  unfold chatelainelaw0_Low.f
  rw [hn, if_neg (by omega), Int.tmod_eq_emod_of_nonneg hu0, w64 (by omega) (by omega), Int.toNat_of_nonneg hr0]
theorem good_yes (n : Int) (p : List Int) (s : ByteArray) (hn0 : -9223372036854775808 ≤ n) (hn1 : n ≤ 9223372036854775807) (hp : p.length ≤ 200) (hs : s.size ≤ 200) (hpb : ∀ x ∈ p, 0 ≤ x ∧ x < 256) (c : Nat) (hc : c < 24 + p.length + s.size) :
    Rd_good n p s (be8 n ++ cpart p ++ cpart (bytesOf s)) (c : Int) = true := by
  have hsl := bytesOf_length s
  have hlen : (be8 n ++ cpart p ++ cpart (bytesOf s)).length = 24 + p.length + s.size := by rw [List.length_append, List.length_append, be8_len, cpart_len, cpart_len, hsl]; omega
  have r1 : Rd_num (be8 n ++ cpart p ++ cpart (bytesOf s)) false n n = (n, cpart p ++ cpart (bytesOf s), false) := by rw [List.append_assoc]; exact num_ok n _ n n hn0 hn1 (Int.le_refl _) (Int.le_refl _)
  have r2 : Rd_byt (cpart p ++ cpart (bytesOf s)) false (p.length : Int) = (p, cpart (bytesOf s), false) := byt_ok p _ _ (Int.le_refl _) (by omega)
  have r3 : Rd_byt (cpart (bytesOf s)) false (s.size : Int) = (bytesOf s, [], false) := by
    have := byt_ok (bytesOf s) [] (s.size : Int) (by omega) (by omega)
    rwa [List.append_nil] at this
  have r4 := cut_bad n p (bytesOf s) hn0 hn1 hp (by omega) c (by omega)
  simp only [Rd_good, Bool.and_eq_true, decide_eq_true_eq, Bool.or_eq_true, r1, r2, r3, Int.toNat_natCast, hlen]
  refine ⟨⟨⟨⟨⟨⟨⟨⟨⟨?_, trivial⟩, by omega⟩, by omega⟩, by omega⟩, trivial⟩, trivial⟩, str_of_bytes s⟩, trivial⟩, Or.inl r4⟩
  intro x hx
  rw [List.mem_append, List.mem_append] at hx
  rcases hx with (hx | hx) | hx
  · exact be8_bytes n x hx
  · unfold cpart at hx
    rcases List.mem_append.mp hx with hx | hx
    · exact be8_bytes _ x hx
    · exact hpb x hx
  · unfold cpart at hx
    rcases List.mem_append.mp hx with hx | hx
    · exact be8_bytes _ x hx
    · exact bytes_range s x hx
theorem CodeBack : chatelainelaw14_CodeBack.Pure := by
  intro a0 l1 a2 a3 h0 _ _ w1 _ _
  have ha : -9223372036854775808 ≤ a0 ∧ a0 ≤ 9223372036854775807 := wf_i64 h0
  refine ⟨100000, ?_⟩
  unfold chatelainelaw14_CodeBack.f
  by_cases g : l1.length > 200 ∨ a2.size > 200
  · rw [if_pos g]
    rfl
  rw [if_neg g]
  have hsl := bytesOf_length a2
  have hroom : room [l1] = 8 + l1.length := by simp only [room, List.flatMap_cons, List.flatMap_nil, List.append_nil, cpart_len]
  have hlen : (be8 a0 ++ cpart l1 ++ cpart (bytesOf a2)).length = 24 + l1.length + a2.size := by rw [List.length_append, List.length_append, be8_len, cpart_len, cpart_len, hsl]; omega
  refine bnd (number1 100000 [] a0 (by simp) (by omega)) ?_
  rw [List.nil_append]
  refine bnd (cbytes 100000 (be8 a0) [l1] (by simp) (by rw [be8_len]; omega) (by simp)) ?_
  rw [show [l1].flatMap cpart = cpart l1 by simp]
  refine bnd (ctext 100000 (be8 a0 ++ cpart l1) a2 (by rw [List.length_append, be8_len, cpart_len]; omega) (by omega)) ?_
  refine bnd (clone _ (by omega)) ?_
  obtain ⟨c, hc, hlow⟩ := low_ok a3 (24 + l1.length + a2.size) (by omega) (by omega)
  rw [hlen]
  refine bnd hlow (bnd (clone _ (by rw [List.length_take]; omega)) (bnd (same_yes 100000 l1 l1 (by omega) (by omega) rfl) ?_))
  have hg := good_yes a0 l1 a2 ha.1 ha.2 (by omega) (by omega) (fun x hx => wf_u8 (w1 x hx)) c hc
  rw [hg]
  simp
end Go.Proofs.YtbeceghdhcoohaaDoor.Pure
