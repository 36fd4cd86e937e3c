import Derived.KernelRfl
namespace Go.Proofs.Ytiphpcehmjcejaa.Pure
/-- A test at every number below a bound. -/
def allB (p : Nat → Bool) : Nat → Bool
  | 0 => true
  | n + 1 => p n && allB p n
theorem allB_at {p : Nat → Bool} : ∀ {n : Nat}, allB p n = true → ∀ i, i < n → p i = true
  | 0, _, i, hi => absurd hi (Nat.not_lt_zero i)
  | n + 1, h, i, hi => by
    simp only [allB, Bool.and_eq_true] at h
    by_cases e : i = n
    · rw [e]; exact h.1
    · exact allB_at h.2 i (by omega)
def nearX (d x : Nat) : Bool :=
  (fun s => (fun back => decide ((if 3329 - back < back then 3329 - back else back) ≤ (3329 + 2 ^ (d + 1) - 1) / 2 ^ (d + 1) + 1)) (((6658 * s + 2 ^ d) / 2 ^ (d + 1) + 3329 - x) % 3329)) ((x * 2 ^ (d + 1) + 3329) / 6658 % 2 ^ d)
def nearY (d y : Nat) : Bool := ((6658 * y + 2 ^ d) / 2 ^ (d + 1) * 2 ^ (d + 1) + 3329) / 6658 % 2 ^ d == y && decide ((6658 * y + 2 ^ d) / 2 ^ (d + 1) < 3329)
theorem nearX_all : allB (fun d => allB (nearX (d + 1)) 3329) 11 = true := by kernel_rfl
theorem nearY_all : allB (fun d => allB (nearY (d + 1)) (2 ^ (d + 1))) 11 = true := by kernel_rfl
def revN (i : Nat) : Nat := 64 * (i % 2) + 32 * (i / 2 % 2) + 16 * (i / 4 % 2) + 8 * (i / 8 % 2) + 4 * (i / 16 % 2) + 2 * (i / 32 % 2) + i / 64 % 2
def oddN (i : Nat) : Nat := 17 ^ revN i % 3329 * (17 ^ revN i % 3329) % 3329 * 17 % 3329
theorem odd_pow : allB (fun i => oddN i ^ 128 % 3329 == 3328) 128 = true := by kernel_rfl
theorem odd_apart : allB (fun i => allB (fun k => (oddN i == oddN k) == (i == k)) 128) 128 = true := by kernel_rfl
theorem undone : allB (fun a => a == 0 || a * (a ^ 3327 % 3329) % 3329 == 1) 3329 = true := by kernel_rfl
def strN (d y : Nat) : Nat := (6658 * y + 2 ^ d) / 2 ^ (d + 1)
def squN (d x : Nat) : Nat := (x * 2 ^ (d + 1) + 3329) / 6658 % 2 ^ d
def riseY (d y : Nat) : Bool := decide (strN d y + 3329 / 2 ^ d ≤ strN d (y + 1)) && decide (strN d (y + 1) ≤ strN d y + 3329 / 2 ^ d + 1) && decide (strN d (y + 1) ≤ 3329)
def riseX (d x : Nat) : Bool :=
  (squN d (x + 1) == squN d x || squN d (x + 1) == squN d x + 1 || squN d (x + 1) == 0 && squN d x == 2 ^ d - 1) &&
  (decide (x < (3329 * (2 ^ (d + 1) - 1) + 2 ^ (d + 1) - 1) / 2 ^ (d + 1)) == (decide (0 < squN d x) || decide (x * 2 ^ (d + 1) < 3329)))
theorem riseY_all : allB (fun d => allB (riseY (d + 1)) (2 ^ (d + 1) - 1)) 11 = true := by kernel_rfl
theorem riseX_all : allB (fun d => allB (riseX (d + 1)) 3328) 11 = true := by kernel_rfl
end Go.Proofs.Ytiphpcehmjcejaa.Pure
