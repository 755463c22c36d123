/- Words of 64 bits as integers: what the program form's operations on them are. -/
import Derived.IntWalk
import Derived.KernelRfl
namespace Go.VM
open Go

abbrev B64 : Int := 18446744073709551616

theorem wu (x : Int) : IntKind.u64.wrap x = x % 18446744073709551616 := by simp [IntKind.wrap, IntKind.bits, IntKind.signed]
theorem wu_in {x : Int} (h0 : 0 ≤ x) (h1 : x < 18446744073709551616) : IntKind.u64.wrap x = x := by rw [wu]; omega
theorem wi_in {x : Int} (h0 : -9223372036854775808 ≤ x) (h1 : x ≤ 9223372036854775807) : IntKind.i64.wrap x = x := IntWalk.i64_in x ⟨h0, h1⟩

theorem ofInt_nat (n : Nat) (h : n < 18446744073709551616) : (BitVec.ofInt IntKind.u64.bits (n : Int)).toNat = n := by
  have e : IntKind.u64.bits = 64 := rfl
  rw [e]
  rw [BitVec.toNat_ofInt]
  have : ((2 ^ 64 : Nat) : Int) = 18446744073709551616 := rfl
  omega

theorem and_nat (m n : Nat) (h : m < 18446744073709551616) (k : n < 18446744073709551616) :
    IntKind.u64.wrap (((BitVec.ofInt IntKind.u64.bits (m : Int) &&& BitVec.ofInt IntKind.u64.bits (n : Int)).toNat : Nat) : Int) = ((m &&& n : Nat) : Int) := by
  rw [BitVec.toNat_and, ofInt_nat m h, ofInt_nat n k]
  refine wu_in (Int.natCast_nonneg _) ?_
  have : m &&& n ≤ m := Nat.and_le_left
  omega

theorem or_nat (m n : Nat) (h : m < 18446744073709551616) (k : n < 18446744073709551616) :
    IntKind.u64.wrap (((BitVec.ofInt IntKind.u64.bits (m : Int) ||| BitVec.ofInt IntKind.u64.bits (n : Int)).toNat : Nat) : Int) = ((m ||| n : Nat) : Int) := by
  rw [BitVec.toNat_or, ofInt_nat m h, ofInt_nat n k]
  refine wu_in (Int.natCast_nonneg _) ?_
  have : m ||| n < 2 ^ 64 := Nat.or_lt_two_pow (by omega) (by omega)
  omega

theorem toNat_eq {x : Int} (h : 0 ≤ x) : ((x.toNat : Nat) : Int) = x := by omega

/-- The lowest bits. -/
theorem and_low {x : Int} (h0 : 0 ≤ x) (h1 : x < 18446744073709551616) (i : Nat) (hi : i ≤ 63) :
    IntKind.u64.wrap (((BitVec.ofInt IntKind.u64.bits x &&& BitVec.ofInt IntKind.u64.bits ((2 ^ i - 1 : Nat) : Int)).toNat : Nat) : Int) = x % ((2 ^ i : Nat) : Int) := by
  have e := and_nat x.toNat (2 ^ i - 1) (by omega) (by
    have : 2 ^ i ≤ 2 ^ 63 := Nat.pow_le_pow_right (by omega) hi
    omega)
  rw [toNat_eq h0] at e
  rw [e, Nat.and_two_pow_sub_one_eq_mod]
  have : ((x.toNat % 2 ^ i : Nat) : Int) = (x.toNat : Int) % ((2 ^ i : Nat) : Int) := Int.natCast_emod _ _
  rw [this, toNat_eq h0]

theorem and_one {x : Int} (h0 : 0 ≤ x) (h1 : x < 18446744073709551616) :
    IntKind.u64.wrap (((BitVec.ofInt IntKind.u64.bits x &&& BitVec.ofInt IntKind.u64.bits 1).toNat : Nat) : Int) = x % 2 := and_low h0 h1 1 (by omega)

theorem and_32 {x : Int} (h0 : 0 ≤ x) (h1 : x < 18446744073709551616) :
    IntKind.u64.wrap (((BitVec.ofInt IntKind.u64.bits x &&& BitVec.ofInt IntKind.u64.bits 4294967295).toNat : Nat) : Int) = x % 4294967296 := and_low h0 h1 32 (by omega)

/-- A number whose lowest bits are clear, and one of these bits. -/
theorem or_add {x y : Int} (i : Nat) (hx : 0 ≤ x) (hxi : x % ((2 ^ i : Nat) : Int) = 0) (hy : 0 ≤ y) (hyi : y < ((2 ^ i : Nat) : Int)) (hs : x + y < 18446744073709551616) :
    IntKind.u64.wrap (((BitVec.ofInt IntKind.u64.bits x ||| BitVec.ofInt IntKind.u64.bits y).toNat : Nat) : Int) = x + y := by
  have e := or_nat x.toNat y.toNat (by omega) (by omega)
  rw [toNat_eq hx, toNat_eq hy] at e
  rw [e]
  have h2 : x.toNat % 2 ^ i = 0 := by
    have : ((x.toNat % 2 ^ i : Nat) : Int) = (x.toNat : Int) % ((2 ^ i : Nat) : Int) := Int.natCast_emod _ _
    rw [toNat_eq hx, hxi] at this
    exact Int.ofNat_eq_zero.1 this
  have h3 : x.toNat = (x.toNat / 2 ^ i) <<< i := by
    rw [Nat.shiftLeft_eq]
    have := Nat.div_add_mod x.toNat (2 ^ i)
    rw [h2, Nat.add_zero, Nat.mul_comm] at this
    exact this.symm
  have h4 : y.toNat < 2 ^ i := by
    have : (y.toNat : Int) < ((2 ^ i : Nat) : Int) := by rw [toNat_eq hy]; exact hyi
    exact Int.ofNat_lt.1 this
  have h5 := Nat.shiftLeft_add_eq_or_of_lt h4 (x.toNat / 2 ^ i)
  rw [← h3] at h5
  rw [← h5]
  omega

theorem shl_u (x : Int) (n : Nat) (hn : n ≤ 64) (m : Int) (hm : m = (n : Int)) : IntKind.u64.wrap (x * 2 ^ min (Int.toNat m) IntKind.u64.bits) = (x * ((2 ^ n : Nat) : Int)) % 18446744073709551616 := by
  subst hm
  have e : min (Int.toNat (n : Int)) IntKind.u64.bits = n := by
    show min n 64 = n
    omega
  rw [e, wu, Int.natCast_pow]; rfl

theorem shr_u (x : Int) (n : Nat) (hn : n ≤ 64) (m : Int) (hm : m = (n : Int)) : x.fdiv (2 ^ min (Int.toNat m) IntKind.u64.bits) = x / ((2 ^ n : Nat) : Int) := by
  subst hm
  have e : min (Int.toNat (n : Int)) IntKind.u64.bits = n := by
    show min n 64 = n
    omega
  rw [e, Int.fdiv_eq_ediv_of_nonneg]
  · rw [Int.natCast_pow]; rfl
  · exact Int.pow_nonneg (by omega)

theorem shl1 (x : Int) : IntKind.u64.wrap (x * 2 ^ min (Int.toNat 1) IntKind.u64.bits) = (x * 2) % 18446744073709551616 := shl_u x 1 (by omega) 1 rfl
theorem shl32 (x : Int) : IntKind.u64.wrap (x * 2 ^ min (Int.toNat 32) IntKind.u64.bits) = (x * 4294967296) % 18446744073709551616 := shl_u x 32 (by omega) 32 rfl
theorem shr32 (x : Int) : x.fdiv (2 ^ min (Int.toNat 32) IntKind.u64.bits) = x / 4294967296 := shr_u x 32 (by omega) 32 rfl
theorem shr63 (x : Int) : x.fdiv (2 ^ min (Int.toNat 63) IntKind.u64.bits) = x / 9223372036854775808 := shr_u x 63 (by omega) 63 rfl

end Go.VM

