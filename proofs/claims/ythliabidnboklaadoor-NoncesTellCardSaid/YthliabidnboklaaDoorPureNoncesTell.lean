/- Which windows may be, which numbers are fresh, and what a used one makes of a window, is the reference's, of any. No condition. -/
import Derived.Test.YthliabidnboklaaDoorPNonx1
import Derived.Test.YthliabidnboklaaDoorPNonx3
import Derived.Test.YthliabidnboklaaDoorPNonx4
import Derived.Test.YthliabidnboklaaDoorPNonx5
import Derived.Test.YthliabidnboklaaDoorNonceBase
namespace Go.Proofs.YthliabidnboklaaDoor.Pure
open Go.RowKit Go.Proofs.YthliabidnboklaaDoor.PNon Go.Proofs.YthliabidnboklaaDoor.NonB Go.Proofs.YthliabidnboklaaDoorW.PrintWords Go.Proofs.YthliabidnboklaaDoorW.PrintLast Go.Proofs.YthliabidnboklaaDoorW.PrintMore

theorem rfresh_eq (k : Nat) (h : Int) (u : Nat) (hu : u < B64) (n : Int) (hn : -9223372036854775808 ≤ n ∧ n ≤ 9223372036854775807) : chatelaineref18_Fresh.f (k + 100) h (u : Int) n = some (decide (FreshP h u n)) := by
  unfold chatelaineref18_Fresh.f
  refine bnd (rmay_eq k h u hu) ?_
  by_cases hm : MayP h u
  · rw [decide_eq_true hm]
    have h0 := hm.1
    have h1 := hm.2.1
    refine ifp rfl ?_
    by_cases c1 : n < 1
    · refine ifp c1 ?_
      rw [decide_eq_false (p := FreshP h u n) fun z => by have := z.2.1; omega]
    · refine ifn c1 ?_
      by_cases c2 : n > 1099511627776
      · refine ifp c2 ?_
        rw [decide_eq_false (p := FreshP h u n) fun z => by have := z.2.2.1; omega]
      · refine ifn c2 ?_
        by_cases c3 : n > h
        · refine ifp c3 ?_
          rw [decide_eq_true (show FreshP h u n from ⟨hm, by omega, by omega, by omega, fun z => by have := z.1; omega⟩)]
        · refine ifn c3 ?_
          rw [w64 (n := h - n) (by omega) (by omega)]
          by_cases c4 : h - n < 64
          · refine ifp c4 (ifp (by omega) ?_)
            obtain ⟨m, hm2⟩ := Int.eq_ofNat_of_zero_le (show 0 ≤ h - n by omega)
            rw [hm2, shr_nat u m (by omega), and1 _ (Nat.lt_of_le_of_lt (Nat.div_le_self _ _) hu)]
            refine congrArg some ?_
            have h5 := Nat.mod_lt (u / 2 ^ m) (show 0 < 2 by decide)
            rw [Bool.eq_iff_iff, decide_eq_true_iff, beq_iff_eq]
            constructor
            · intro z
              refine ⟨hm, by omega, by omega, by omega, fun q => ?_⟩
              have := q.2.2
              rw [hm2, Int.toNat_natCast, tbi] at this
              omega
            · intro z
              have : ¬ u / 2 ^ m % 2 = 1 := fun q => z.2.2.2.2 ⟨by omega, by omega, by rw [hm2, Int.toNat_natCast]; exact (tbi u m).2 q⟩
              omega
          · refine ifn c4 ?_
            rw [decide_eq_false (p := FreshP h u n) fun z => by have := z.2.2.2.1; omega]
  · rw [decide_eq_false hm]
    refine ifn (by decide) ?_
    rw [decide_eq_false (p := FreshP h u n) fun z => hm z.1]
theorem ruse_may (k : Nat) (h : Int) (u : Nat) (hu : u < B64) (n : Int) (hm : ¬ MayP h u) : chatelaineref18_Use.f (k + 100) h (u : Int) n = some (0, 0, 2) := by
  unfold chatelaineref18_Use.f
  refine bnd (rmay_eq k h u hu) ?_
  rw [decide_eq_false hm]
  exact ifn (by decide) rfl
theorem ruse_no (k : Nat) (h : Int) (u : Nat) (hu : u < B64) (n : Int) (hn : -9223372036854775808 ≤ n ∧ n ≤ 9223372036854775807) (hm : MayP h u) (hf : ¬ FreshP h u n) : chatelaineref18_Use.f (k + 100) h (u : Int) n = some (0, 0, 8) := by
  unfold chatelaineref18_Use.f
  refine bnd (rmay_eq k h u hu) ?_
  rw [decide_eq_true hm]
  refine ifp rfl (bnd (rfresh_eq k h u hu n hn) ?_)
  rw [decide_eq_false hf]
  exact ifn (by decide) rfl
theorem ruse_yes (k : Nat) (h : Int) (u : Nat) (hu : u < B64) (n : Int) (hn : -9223372036854775808 ≤ n ∧ n ≤ 9223372036854775807) (hf : FreshP h u n) : chatelaineref18_Use.f (k + 100) h (u : Int) n = some (useH h n, ((useU h u n : Nat) : Int), 0) := by
  have hm := hf.1
  have h0 := hm.1
  have h1 := hm.2.1
  have h3 := hf.2.2.2.1
  have h4 := hf.2.2.1
  unfold chatelaineref18_Use.f
  refine bnd (rmay_eq k h u hu) ?_
  rw [decide_eq_true hm]
  refine ifp rfl (bnd (rfresh_eq k h u hu n hn) ?_)
  rw [decide_eq_true hf]
  refine ifp rfl ?_
  by_cases c : n > h
  · have e1 : useH h n = n := if_pos c
    have e2 : useU h u n = u * 2 ^ (min (n - h).toNat 64) % B64 ||| 1 := if_pos c
    rw [e1, e2]
    refine ifn (by omega) ?_
    rw [w64 (n := n - h) (by omega) (by omega)]
    by_cases d : n - h ≥ 64
    · refine ifp d ?_
      rw [Nat.min_eq_right (show 64 ≤ (n - h).toNat by omega), show u * 2 ^ 64 % B64 = 0 from Nat.mul_mod_left _ _]; rfl
    · refine ifn d (ifp (by omega) ?_)
      rw [Nat.min_eq_left (show (n - h).toNat ≤ 64 by omega)]
      obtain ⟨m, hm2⟩ := Int.eq_ofNat_of_zero_le (show 0 ≤ n - h by omega)
      rw [hm2, Int.toNat_natCast]
      have e : shl .u64 (u : Int) (m : Int) = ((u * 2 ^ m % B64 : Nat) : Int) := by
        unfold shl
        rw [Int.toNat_natCast, Nat.min_eq_left (show m ≤ IntKind.u64.bits by show m ≤ 64; omega), shl_nat]
      have h5 := or_nat (u * 2 ^ m % B64) 1 (Nat.mod_lt _ (by decide)) (by decide)
      rw [show ((1 : Nat) : Int) = 1 from rfl] at h5
      rw [e, h5]
  · have e1 : useH h n = h := if_neg c
    have e2 : useU h u n = u ||| 2 ^ (h - n).toNat := if_neg c
    rw [e1, e2]
    refine ifp (by omega) ?_
    rw [w64 (n := h - n) (by omega) (by omega)]
    refine ifp (by omega) ?_
    obtain ⟨m, hm2⟩ := Int.eq_ofNat_of_zero_le (show 0 ≤ h - n by omega)
    rw [hm2, shl_one m (by omega), or_nat u (2 ^ m) hu (show (2 : Nat) ^ m < 2 ^ 64 from Nat.pow_lt_pow_right (by decide) (by omega)), Int.toNat_natCast]
theorem NoncesTell : chatelainelaw18_NoncesTell.Pure := by
  intro h u0 n _ hu0 hn0
  have hn := wf_i64 hn0
  have hu1 := wf_u64 hu0
  obtain ⟨u, rfl⟩ := Int.eq_ofNat_of_zero_le hu1.1
  have hu : u < B64 := by have := hu1.2; show u < 18446744073709551616; omega
  refine ⟨100 + 100, ?_⟩
  unfold chatelainelaw18_NoncesTell.f
  have hend : ((nonces_May.f (100 + 100) h (u : Int)).bind fun t133 => ((chatelaineref18_May.f (100 + 100) h (u : Int)).bind fun t134 => (if (t133 == t134) = true then ((nonces_Fresh.f (100 + 100) h (u : Int) n).bind fun t135 => ((chatelaineref18_Fresh.f (100 + 100) h (u : Int) n).bind fun t136 => (if (t135 == t136) = true then ((chatelainelaw18_awake.f (100 + 100)).bind fun t137 => (some t137)) else (some false)))) else (some false)))) = some true :=
    bnd (may_eq 199 h u hu) (bnd (rmay_eq 100 h u hu) (ifp (beq_self_eq_true _) (bnd (fresh_eq 199 h u hu n hn) (bnd (rfresh_eq 100 h u hu n hn) (ifp (beq_self_eq_true _) (bnd (nawake 199) rfl))))))
  by_cases hm : MayP h u
  · by_cases hf : FreshP h u n
    · exact bnd (use_yes 199 h u hu n hf) (bnd (ruse_yes 100 h u hu n hn hf) (ifp rfl (ifp rfl (bnd (x := 0) rfl (ifp rfl hend)))))
    · exact bnd (use_no 199 h u hu n hn hm hf) (bnd (ruse_no 100 h u hu n hn hm hf) (ifp rfl (ifp rfl (bnd (x := 8) rfl (ifp rfl hend)))))
  · exact bnd (use_may 199 h u hu n hm) (bnd (ruse_may 100 h u hu n hm) (ifp rfl (ifp rfl (bnd (x := 2) rfl (ifp rfl hend)))))
end Go.Proofs.YthliabidnboklaaDoor.Pure
