/- Words of 64 bits, as the machine writes them; long division bit by bit. -/
import Derived.Test.YtchfpiimkmphjaaGreatVmM1
namespace Go.VM
open Go

def uw (x : Int) : Int := IntKind.u64.wrap x
def iw (x : Int) : Int := IntKind.i64.wrap x
def bor (x y : Int) : Int := IntKind.u64.wrap (((BitVec.ofInt IntKind.u64.bits x ||| BitVec.ofInt IntKind.u64.bits y).toNat : Nat) : Int)
def band (x y : Int) : Int := IntKind.u64.wrap (((BitVec.ofInt IntKind.u64.bits x &&& BitVec.ofInt IntKind.u64.bits y).toNat : Nat) : Int)
def shl (x n : Int) : Int := IntKind.u64.wrap (x * 2 ^ min n.toNat IntKind.u64.bits)
def shr (x n : Int) : Int := x.fdiv (2 ^ min n.toNat IntKind.u64.bits)

theorem uw_in {x : Int} (h0 : 0 ≤ x) (h1 : x < 18446744073709551616) : uw x = x := wu_in h0 h1
theorem uw_mod (x : Int) : uw x = x % 18446744073709551616 := wu x
theorem iw_in {x : Int} (h0 : -9223372036854775808 ≤ x) (h1 : x ≤ 9223372036854775807) : iw x = x := wi_in h0 h1
theorem shl_1 (x : Int) : shl x 1 = (x * 2) % 18446744073709551616 := shl1 x
theorem shr_63 (x : Int) : shr x 63 = x / 9223372036854775808 := shr63 x
theorem shl_32 (x : Int) : shl x 32 = (x * 4294967296) % 18446744073709551616 := shl32 x
theorem shr_32 (x : Int) : shr x 32 = x / 4294967296 := shr32 x
theorem shr_n (x : Int) (n : Nat) (hn : n ≤ 64) : shr x (n : Int) = x / ((2 ^ n : Nat) : Int) := shr_u x n hn n rfl
theorem band_1 {x : Int} (h0 : 0 ≤ x) (h1 : x < 18446744073709551616) : band x 1 = x % 2 := and_one h0 h1
theorem band_32 {x : Int} (h0 : 0 ≤ x) (h1 : x < 18446744073709551616) : band x 4294967295 = x % 4294967296 := and_32 h0 h1
theorem bor_1 {x y : Int} (h0 : 0 ≤ x) (h1 : x < 18446744073709551616) (he : x % 2 = 0) (hy : 0 ≤ y) (hy1 : y < 2) : bor x y = x + y :=
  or_add 1 h0 he hy hy1 (by omega)
theorem bor_32 {x y : Int} (h0 : 0 ≤ x) (h1 : x < 18446744073709551616) (he : x % 4294967296 = 0) (hy : 0 ≤ y) (hy1 : y < 4294967296) : bor x y = x + y :=
  or_add 32 h0 he hy hy1 (by omega)

/-- The first bits of a number below 2^128. -/
def topB (A : Int) (j : Nat) : Int := A / ((2 ^ (128 - j) : Nat) : Int)

theorem two_step (A : Int) (n : Nat) : A / ((2 ^ n : Nat) : Int) = 2 * (A / ((2 ^ (n + 1) : Nat) : Int)) + (A / ((2 ^ n : Nat) : Int)) % 2 := by
  have e : ((2 ^ (n + 1) : Nat) : Int) = ((2 ^ n : Nat) : Int) * 2 := by rw [Nat.pow_succ, Int.natCast_mul]; rfl
  rw [e, ← Int.ediv_ediv_of_nonneg (Int.natCast_nonneg _)]
  omega

theorem topB_succ (A : Int) (j : Nat) (hj : j < 128) : topB A (j + 1) = 2 * topB A j + (A / ((2 ^ (127 - j) : Nat) : Int)) % 2 := by
  unfold topB
  rw [show 128 - (j + 1) = 127 - j by omega, show 128 - j = 127 - j + 1 by omega]
  exact two_step A (127 - j)

theorem pow_split (a b : Nat) : ((2 ^ (a + b) : Nat) : Int) = ((2 ^ a : Nat) : Int) * ((2 ^ b : Nat) : Int) := by rw [Nat.pow_add, Int.natCast_mul]

theorem bit_hi (hi lo : Int) (h0 : 0 ≤ lo) (h1 : lo < 18446744073709551616) (i : Nat) (hi64 : 64 ≤ i) : (hi * 18446744073709551616 + lo) / ((2 ^ i : Nat) : Int) = hi / ((2 ^ (i - 64) : Nat) : Int) := by
  have e : ((2 ^ i : Nat) : Int) = 18446744073709551616 * ((2 ^ (i - 64) : Nat) : Int) := by
    rw [show (18446744073709551616 : Int) = ((2 ^ 64 : Nat) : Int) by rfl, ← pow_split]
    congr 2; omega
  rw [e, ← Int.ediv_ediv_of_nonneg (by omega)]
  congr 1
  omega

theorem bit_lo (hi lo : Int) (i : Nat) (hi64 : i < 64) : ((hi * 18446744073709551616 + lo) / ((2 ^ i : Nat) : Int)) % 2 = (lo / ((2 ^ i : Nat) : Int)) % 2 := by
  have e : (18446744073709551616 : Int) = ((2 ^ i : Nat) : Int) * (((2 ^ (63 - i) : Nat) : Int) * 2) := by
    rw [show (2 : Int) = ((2 ^ 1 : Nat) : Int) by rfl, ← pow_split, ← pow_split]
    have : i + (63 - i + 1) = 64 := by omega
    rw [this]; rfl
  have hp : (0 : Int) < ((2 ^ i : Nat) : Int) := by
    have : 0 < 2 ^ i := Nat.two_pow_pos i
    omega
  rw [e, show hi * (((2 ^ i : Nat) : Int) * (((2 ^ (63 - i) : Nat) : Int) * 2)) + lo = lo + ((2 ^ i : Nat) : Int) * (hi * (((2 ^ (63 - i) : Nat) : Int) * 2)) by
    rw [Int.mul_left_comm, Int.add_comm], Int.add_mul_ediv_left _ _ (by omega)]
  rw [← Int.mul_assoc]
  generalize hi * ((2 ^ (63 - i) : Nat) : Int) = q
  omega

/-- One round of the division. -/
theorem div_round (P d bit : Int) (hd : 0 < d) (hb0 : 0 ≤ bit) (hb1 : bit < 2) :
    (2 * (P % d) + bit ≥ d → (2 * P + bit) % d = 2 * (P % d) + bit - d ∧ (2 * P + bit) / d = 2 * (P / d) + 1) ∧
    (¬ 2 * (P % d) + bit ≥ d → (2 * P + bit) % d = 2 * (P % d) + bit ∧ (2 * P + bit) / d = 2 * (P / d)) := by
  have h1 := Int.emod_add_mul_ediv P d
  have h2 := Int.emod_nonneg P (by omega : d ≠ 0)
  have h3 := Int.emod_lt_of_pos P hd
  generalize P % d = r at h1 h2 h3 ⊢
  generalize P / d = q at h1 ⊢
  have e : 2 * P + bit = (2 * r + bit) + d * (2 * q) := by
    rw [← h1, Int.mul_add]
    have : d * (2 * q) = 2 * (d * q) := by rw [Int.mul_left_comm]
    omega
  refine ⟨fun h => ?_, fun h => ?_⟩
  · have e2 : 2 * P + bit = (2 * r + bit - d) + d * (2 * q + 1) := by
      rw [e, Int.mul_add, Int.mul_one]; omega
    have hs : 0 ≤ 2 * r + bit - d ∧ 2 * r + bit - d < d := by omega
    exact ⟨by rw [e2, Int.add_mul_emod_self_left]; exact Int.emod_eq_of_lt hs.1 hs.2, by rw [e2, Int.add_mul_ediv_left _ _ (by omega), Int.ediv_eq_zero_of_lt hs.1 hs.2]; omega⟩
  · exact ⟨by rw [e, Int.add_mul_emod_self_left]; exact Int.emod_eq_of_lt (by omega) (by omega), by rw [e, Int.add_mul_ediv_left _ _ (by omega), Int.ediv_eq_zero_of_lt (by omega) (by omega)]; omega⟩

end Go.VM

