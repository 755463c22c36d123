/- An abstract machine for the program form, with the proof that it is sound: part VmPa. No condition. -/
import Derived.IntWalk
import Derived.KernelRfl
import Derived.Test.YtchfpiimkmphjaaGreatVmP8
/- Words of 64 bits as integers: what the program form's operations on them are. -/
namespace Go.VM
open Go

abbrev B64 : Int := 18446744073709551616

theorem wu (x : Int) : IntKind.u64.wrap x = x % 18446744073709551616 := by simp [IntKind.wrap, IntKind.bits, IntKind.signed]
theorem wu_in {x : Int} (h0 : 0 ≤ x) (h1 : x < 18446744073709551616) : IntKind.u64.wrap x = x := by rw [wu]; omega
theorem wi_in {x : Int} (h0 : -9223372036854775808 ≤ x) (h1 : x ≤ 9223372036854775807) : IntKind.i64.wrap x = x := IntWalk.i64_in x ⟨h0, h1⟩

theorem ofInt_nat (n : Nat) (h : n < 18446744073709551616) : (BitVec.ofInt IntKind.u64.bits (n : Int)).toNat = n := by
  have e : IntKind.u64.bits = 64 := rfl
  rw [e]
  rw [BitVec.toNat_ofInt]
  have : ((2 ^ 64 : Nat) : Int) = 18446744073709551616 := rfl
  omega

theorem and_nat (m n : Nat) (h : m < 18446744073709551616) (k : n < 18446744073709551616) :
    IntKind.u64.wrap (((BitVec.ofInt IntKind.u64.bits (m : Int) &&& BitVec.ofInt IntKind.u64.bits (n : Int)).toNat : Nat) : Int) = ((m &&& n : Nat) : Int) := by
  rw [BitVec.toNat_and, ofInt_nat m h, ofInt_nat n k]
  refine wu_in (Int.natCast_nonneg _) ?_
  have : m &&& n ≤ m := Nat.and_le_left
  omega

theorem or_nat (m n : Nat) (h : m < 18446744073709551616) (k : n < 18446744073709551616) :
    IntKind.u64.wrap (((BitVec.ofInt IntKind.u64.bits (m : Int) ||| BitVec.ofInt IntKind.u64.bits (n : Int)).toNat : Nat) : Int) = ((m ||| n : Nat) : Int) := by
  rw [BitVec.toNat_or, ofInt_nat m h, ofInt_nat n k]
  refine wu_in (Int.natCast_nonneg _) ?_
  have : m ||| n < 2 ^ 64 := Nat.or_lt_two_pow (by omega) (by omega)
  omega

theorem toNat_eq {x : Int} (h : 0 ≤ x) : ((x.toNat : Nat) : Int) = x := by omega

/-- The lowest bits. -/
theorem and_low {x : Int} (h0 : 0 ≤ x) (h1 : x < 18446744073709551616) (i : Nat) (hi : i ≤ 63) :
    IntKind.u64.wrap (((BitVec.ofInt IntKind.u64.bits x &&& BitVec.ofInt IntKind.u64.bits ((2 ^ i - 1 : Nat) : Int)).toNat : Nat) : Int) = x % ((2 ^ i : Nat) : Int) := by
  have e := and_nat x.toNat (2 ^ i - 1) (by omega) (by
    have : 2 ^ i ≤ 2 ^ 63 := Nat.pow_le_pow_right (by omega) hi
    omega)
  rw [toNat_eq h0] at e
  rw [e, Nat.and_two_pow_sub_one_eq_mod]
  have : ((x.toNat % 2 ^ i : Nat) : Int) = (x.toNat : Int) % ((2 ^ i : Nat) : Int) := Int.natCast_emod _ _
  rw [this, toNat_eq h0]

theorem and_one {x : Int} (h0 : 0 ≤ x) (h1 : x < 18446744073709551616) :
    IntKind.u64.wrap (((BitVec.ofInt IntKind.u64.bits x &&& BitVec.ofInt IntKind.u64.bits 1).toNat : Nat) : Int) = x % 2 := and_low h0 h1 1 (by omega)

theorem and_32 {x : Int} (h0 : 0 ≤ x) (h1 : x < 18446744073709551616) :
    IntKind.u64.wrap (((BitVec.ofInt IntKind.u64.bits x &&& BitVec.ofInt IntKind.u64.bits 4294967295).toNat : Nat) : Int) = x % 4294967296 := and_low h0 h1 32 (by omega)

/-- A number whose lowest bits are clear, and one of these bits. -/
theorem or_add {x y : Int} (i : Nat) (hx : 0 ≤ x) (hxi : x % ((2 ^ i : Nat) : Int) = 0) (hy : 0 ≤ y) (hyi : y < ((2 ^ i : Nat) : Int)) (hs : x + y < 18446744073709551616) :
    IntKind.u64.wrap (((BitVec.ofInt IntKind.u64.bits x ||| BitVec.ofInt IntKind.u64.bits y).toNat : Nat) : Int) = x + y := by
  have e := or_nat x.toNat y.toNat (by omega) (by omega)
  rw [toNat_eq hx, toNat_eq hy] at e
  rw [e]
  have h2 : x.toNat % 2 ^ i = 0 := by
    have : ((x.toNat % 2 ^ i : Nat) : Int) = (x.toNat : Int) % ((2 ^ i : Nat) : Int) := Int.natCast_emod _ _
    rw [toNat_eq hx, hxi] at this
    exact Int.ofNat_eq_zero.1 this
  have h3 : x.toNat = (x.toNat / 2 ^ i) <<< i := by
    rw [Nat.shiftLeft_eq]
    have := Nat.div_add_mod x.toNat (2 ^ i)
    rw [h2, Nat.add_zero, Nat.mul_comm] at this
    exact this.symm
  have h4 : y.toNat < 2 ^ i := by
    have : (y.toNat : Int) < ((2 ^ i : Nat) : Int) := by rw [toNat_eq hy]; exact hyi
    exact Int.ofNat_lt.1 this
  have h5 := Nat.shiftLeft_add_eq_or_of_lt h4 (x.toNat / 2 ^ i)
  rw [← h3] at h5
  rw [← h5]
  omega

theorem shl_u (x : Int) (n : Nat) (hn : n ≤ 64) (m : Int) (hm : m = (n : Int)) : IntKind.u64.wrap (x * 2 ^ min (Int.toNat m) IntKind.u64.bits) = (x * ((2 ^ n : Nat) : Int)) % 18446744073709551616 := by
  subst hm
  have e : min (Int.toNat (n : Int)) IntKind.u64.bits = n := by
    show min n 64 = n
    omega
  rw [e, wu, Int.natCast_pow]; rfl

theorem shr_u (x : Int) (n : Nat) (hn : n ≤ 64) (m : Int) (hm : m = (n : Int)) : x.fdiv (2 ^ min (Int.toNat m) IntKind.u64.bits) = x / ((2 ^ n : Nat) : Int) := by
  subst hm
  have e : min (Int.toNat (n : Int)) IntKind.u64.bits = n := by
    show min n 64 = n
    omega
  rw [e, Int.fdiv_eq_ediv_of_nonneg]
  · rw [Int.natCast_pow]; rfl
  · exact Int.pow_nonneg (by omega)

theorem shl1 (x : Int) : IntKind.u64.wrap (x * 2 ^ min (Int.toNat 1) IntKind.u64.bits) = (x * 2) % 18446744073709551616 := shl_u x 1 (by omega) 1 rfl
theorem shl32 (x : Int) : IntKind.u64.wrap (x * 2 ^ min (Int.toNat 32) IntKind.u64.bits) = (x * 4294967296) % 18446744073709551616 := shl_u x 32 (by omega) 32 rfl
theorem shr32 (x : Int) : x.fdiv (2 ^ min (Int.toNat 32) IntKind.u64.bits) = x / 4294967296 := shr_u x 32 (by omega) 32 rfl
theorem shr63 (x : Int) : x.fdiv (2 ^ min (Int.toNat 63) IntKind.u64.bits) = x / 9223372036854775808 := shr_u x 63 (by omega) 63 rfl

end Go.VM

/- Words of 64 bits, as the machine writes them; long division bit by bit. -/
namespace Go.VM
open Go

def uw (x : Int) : Int := IntKind.u64.wrap x
def iw (x : Int) : Int := IntKind.i64.wrap x
def bor (x y : Int) : Int := IntKind.u64.wrap (((BitVec.ofInt IntKind.u64.bits x ||| BitVec.ofInt IntKind.u64.bits y).toNat : Nat) : Int)
def band (x y : Int) : Int := IntKind.u64.wrap (((BitVec.ofInt IntKind.u64.bits x &&& BitVec.ofInt IntKind.u64.bits y).toNat : Nat) : Int)
def shl (x n : Int) : Int := IntKind.u64.wrap (x * 2 ^ min n.toNat IntKind.u64.bits)
def shr (x n : Int) : Int := x.fdiv (2 ^ min n.toNat IntKind.u64.bits)

theorem uw_in {x : Int} (h0 : 0 ≤ x) (h1 : x < 18446744073709551616) : uw x = x := wu_in h0 h1
theorem uw_mod (x : Int) : uw x = x % 18446744073709551616 := wu x
theorem iw_in {x : Int} (h0 : -9223372036854775808 ≤ x) (h1 : x ≤ 9223372036854775807) : iw x = x := wi_in h0 h1
theorem shl_1 (x : Int) : shl x 1 = (x * 2) % 18446744073709551616 := shl1 x
theorem shr_63 (x : Int) : shr x 63 = x / 9223372036854775808 := shr63 x
theorem shl_32 (x : Int) : shl x 32 = (x * 4294967296) % 18446744073709551616 := shl32 x
theorem shr_32 (x : Int) : shr x 32 = x / 4294967296 := shr32 x
theorem shr_n (x : Int) (n : Nat) (hn : n ≤ 64) : shr x (n : Int) = x / ((2 ^ n : Nat) : Int) := shr_u x n hn n rfl
theorem band_1 {x : Int} (h0 : 0 ≤ x) (h1 : x < 18446744073709551616) : band x 1 = x % 2 := and_one h0 h1
theorem band_32 {x : Int} (h0 : 0 ≤ x) (h1 : x < 18446744073709551616) : band x 4294967295 = x % 4294967296 := and_32 h0 h1
theorem bor_1 {x y : Int} (h0 : 0 ≤ x) (h1 : x < 18446744073709551616) (he : x % 2 = 0) (hy : 0 ≤ y) (hy1 : y < 2) : bor x y = x + y :=
  or_add 1 h0 he hy hy1 (by omega)
theorem bor_32 {x y : Int} (h0 : 0 ≤ x) (h1 : x < 18446744073709551616) (he : x % 4294967296 = 0) (hy : 0 ≤ y) (hy1 : y < 4294967296) : bor x y = x + y :=
  or_add 32 h0 he hy hy1 (by omega)

/-- The first bits of a number below 2^128. -/
def topB (A : Int) (j : Nat) : Int := A / ((2 ^ (128 - j) : Nat) : Int)

theorem two_step (A : Int) (n : Nat) : A / ((2 ^ n : Nat) : Int) = 2 * (A / ((2 ^ (n + 1) : Nat) : Int)) + (A / ((2 ^ n : Nat) : Int)) % 2 := by
  have e : ((2 ^ (n + 1) : Nat) : Int) = ((2 ^ n : Nat) : Int) * 2 := by rw [Nat.pow_succ, Int.natCast_mul]; rfl
  rw [e, ← Int.ediv_ediv_of_nonneg (Int.natCast_nonneg _)]
  omega

theorem topB_succ (A : Int) (j : Nat) (hj : j < 128) : topB A (j + 1) = 2 * topB A j + (A / ((2 ^ (127 - j) : Nat) : Int)) % 2 := by
  unfold topB
  rw [show 128 - (j + 1) = 127 - j by omega, show 128 - j = 127 - j + 1 by omega]
  exact two_step A (127 - j)

theorem pow_split (a b : Nat) : ((2 ^ (a + b) : Nat) : Int) = ((2 ^ a : Nat) : Int) * ((2 ^ b : Nat) : Int) := by rw [Nat.pow_add, Int.natCast_mul]

theorem bit_hi (hi lo : Int) (h0 : 0 ≤ lo) (h1 : lo < 18446744073709551616) (i : Nat) (hi64 : 64 ≤ i) : (hi * 18446744073709551616 + lo) / ((2 ^ i : Nat) : Int) = hi / ((2 ^ (i - 64) : Nat) : Int) := by
  have e : ((2 ^ i : Nat) : Int) = 18446744073709551616 * ((2 ^ (i - 64) : Nat) : Int) := by
    rw [show (18446744073709551616 : Int) = ((2 ^ 64 : Nat) : Int) by rfl, ← pow_split]
    congr 2; omega
  rw [e, ← Int.ediv_ediv_of_nonneg (by omega)]
  congr 1
  omega

theorem bit_lo (hi lo : Int) (i : Nat) (hi64 : i < 64) : ((hi * 18446744073709551616 + lo) / ((2 ^ i : Nat) : Int)) % 2 = (lo / ((2 ^ i : Nat) : Int)) % 2 := by
  have e : (18446744073709551616 : Int) = ((2 ^ i : Nat) : Int) * (((2 ^ (63 - i) : Nat) : Int) * 2) := by
    rw [show (2 : Int) = ((2 ^ 1 : Nat) : Int) by rfl, ← pow_split, ← pow_split]
    have : i + (63 - i + 1) = 64 := by omega
    rw [this]; rfl
  have hp : (0 : Int) < ((2 ^ i : Nat) : Int) := by
    have : 0 < 2 ^ i := Nat.two_pow_pos i
    omega
  rw [e, show hi * (((2 ^ i : Nat) : Int) * (((2 ^ (63 - i) : Nat) : Int) * 2)) + lo = lo + ((2 ^ i : Nat) : Int) * (hi * (((2 ^ (63 - i) : Nat) : Int) * 2)) by
    rw [Int.mul_left_comm, Int.add_comm], Int.add_mul_ediv_left _ _ (by omega)]
  rw [← Int.mul_assoc]
  generalize hi * ((2 ^ (63 - i) : Nat) : Int) = q
  omega

/-- One round of the division. -/
theorem div_round (P d bit : Int) (hd : 0 < d) (hb0 : 0 ≤ bit) (hb1 : bit < 2) :
    (2 * (P % d) + bit ≥ d → (2 * P + bit) % d = 2 * (P % d) + bit - d ∧ (2 * P + bit) / d = 2 * (P / d) + 1) ∧
    (¬ 2 * (P % d) + bit ≥ d → (2 * P + bit) % d = 2 * (P % d) + bit ∧ (2 * P + bit) / d = 2 * (P / d)) := by
  have h1 := Int.emod_add_mul_ediv P d
  have h2 := Int.emod_nonneg P (by omega : d ≠ 0)
  have h3 := Int.emod_lt_of_pos P hd
  generalize P % d = r at h1 h2 h3 ⊢
  generalize P / d = q at h1 ⊢
  have e : 2 * P + bit = (2 * r + bit) + d * (2 * q) := by
    rw [← h1, Int.mul_add]
    have : d * (2 * q) = 2 * (d * q) := by rw [Int.mul_left_comm]
    omega
  refine ⟨fun h => ?_, fun h => ?_⟩
  · have e2 : 2 * P + bit = (2 * r + bit - d) + d * (2 * q + 1) := by
      rw [e, Int.mul_add, Int.mul_one]; omega
    have hs : 0 ≤ 2 * r + bit - d ∧ 2 * r + bit - d < d := by omega
    exact ⟨by rw [e2, Int.add_mul_emod_self_left]; exact Int.emod_eq_of_lt hs.1 hs.2, by rw [e2, Int.add_mul_ediv_left _ _ (by omega), Int.ediv_eq_zero_of_lt hs.1 hs.2]; omega⟩
  · exact ⟨by rw [e, Int.add_mul_emod_self_left]; exact Int.emod_eq_of_lt (by omega) (by omega), by rw [e, Int.add_mul_ediv_left _ _ (by omega), Int.ediv_eq_zero_of_lt (by omega) (by omega)]; omega⟩

end Go.VM

/- Fixed-point numbers: what the small functions compute. -/
namespace Go.VM
open Go
noncomputable section

def TOP : Int := 9223372036854775807
def inI (a : Int) : Bool := decide (-9223372036854775808 ≤ a) && decide (a ≤ 9223372036854775807)
def inU (a : Int) : Bool := decide (0 ≤ a) && decide (a < 18446744073709551616)

theorem inI_iff {a : Int} : inI a = true ↔ -9223372036854775808 ≤ a ∧ a ≤ 9223372036854775807 := by simp [inI]
theorem inU_iff {a : Int} : inU a = true ↔ 0 ≤ a ∧ a < 18446744073709551616 := by simp [inU]

/-- A sound number: the least value is none. -/
def sV (a : Int) : Int := cond (a == -9223372036854775808) (-9223372036854775807) a
def sF (a : Int) (f : Bool) : Bool := cond (a == -9223372036854775808) true f
def absI (a : Int) : Int := cond (decide (a < 0)) (0 - a) a
def fits (lo hi : Int) : Bool := cond (hi == 0) (decide (lo ≤ 9223372036854775807)) false
def fitV (neg : Bool) (lo hi : Int) : Int := cond (fits lo hi) (cond neg (0 - lo) lo) (cond neg (-9223372036854775807) 9223372036854775807)
def fitF (lo hi : Int) (f : Bool) : Bool := cond (fits lo hi) f true
def cmpI (a b : Int) : Int := cond (decide (a < b)) (-1) (cond (decide (a > b)) 1 0)

theorem absI_eq (a : Int) : absI a = if a < 0 then -a else a := by
  unfold absI
  by_cases h : a < 0 <;> simp [h]

theorem abs_range {a : Int} (h : inI a = true) : 0 ≤ absI a ∧ absI a ≤ 9223372036854775808 := by
  rw [inI_iff] at h
  rw [absI_eq]
  split <;> omega

theorem sV_range {a : Int} (h : inI a = true) : -9223372036854775807 ≤ sV a ∧ sV a ≤ 9223372036854775807 := by
  rw [inI_iff] at h
  unfold sV
  cases e : (a == -9223372036854775808) with
  | true => rw [cond_true]; omega
  | false =>
    rw [cond_false]
    have : a ≠ -9223372036854775808 := by intro he; rw [he] at e; cases e
    omega

theorem neg_u {a : Int} (h : inI a = true) (hn : a < 0) : uw (0 - uw a) = 0 - a := by
  rw [inI_iff] at h
  have e : uw a = a + 18446744073709551616 := by rw [uw_mod]; omega
  rw [e, uw_mod]; omega

theorem uw_pos {a : Int} (h : inI a = true) (hn : ¬ a < 0) : uw a = a := by
  rw [inI_iff] at h
  exact uw_in (by omega) (by omega)

/-- 32 bits up and down. -/
theorem up_hi {lo hi : Int} (h : inU lo = true) (k : inU hi = true) : bor (shl hi 32) (shr lo 32) = (hi * 4294967296) % 18446744073709551616 + lo / 4294967296 := by
  rw [inU_iff] at h k
  rw [shl_32, shr_32, bor_32 (by omega) (by omega) (by omega) (by omega) (by omega)]

/-- The product of two words. -/
theorem mul_words (x y : Int) (hx : inU x = true) (hy : inU y = true) :
    uw (uw (uw (shr x 32 * shr y 32) + shr (uw (uw (shr x 32 * band y 4294967295) + shr (uw (band x 4294967295 * band y 4294967295)) 32)) 32) +
      shr (uw (band (uw (uw (shr x 32 * band y 4294967295) + shr (uw (band x 4294967295 * band y 4294967295)) 32)) 4294967295 + uw (band x 4294967295 * shr y 32))) 32) = x * y / 18446744073709551616 := by
  rw [inU_iff] at hx hy
  simp only [shr_32]
  rw [band_32 hx.1 hx.2, band_32 hy.1 hy.2]
  have ex : x = (x / 4294967296) * 4294967296 + x % 4294967296 := by omega
  have ey : y = (y / 4294967296) * 4294967296 + y % 4294967296 := by omega
  have bx1 : 0 ≤ x / 4294967296 ∧ x / 4294967296 ≤ 4294967295 := by omega
  have bx0 : 0 ≤ x % 4294967296 ∧ x % 4294967296 ≤ 4294967295 := by omega
  have by1 : 0 ≤ y / 4294967296 ∧ y / 4294967296 ≤ 4294967295 := by omega
  have by0 : 0 ≤ y % 4294967296 ∧ y % 4294967296 ≤ 4294967295 := by omega
  generalize x / 4294967296 = x1 at *
  generalize x % 4294967296 = x0 at *
  generalize y / 4294967296 = y1 at *
  generalize y % 4294967296 = y0 at *
  have pr : ∀ {a b : Int}, (0 ≤ a ∧ a ≤ 4294967295) → (0 ≤ b ∧ b ≤ 4294967295) → 0 ≤ a * b ∧ a * b ≤ 18446744065119617025 := by
    intro a b ha hb
    refine ⟨Int.mul_nonneg ha.1 hb.1, ?_⟩
    have h1 : a * b ≤ 4294967295 * b := Int.mul_le_mul_of_nonneg_right ha.2 hb.1
    have h2 : 4294967295 * b ≤ 4294967295 * 4294967295 := Int.mul_le_mul_of_nonneg_left hb.2 (by omega)
    omega
  have p00 := pr bx0 by0
  have p01 := pr bx0 by1
  have p10 := pr bx1 by0
  have p11 := pr bx1 by1
  have e : x * y = (x1 * y1) * 18446744073709551616 + (x1 * y0) * 4294967296 + (x0 * y1) * 4294967296 + x0 * y0 := by
    rw [ex, ey, Int.add_mul, Int.mul_add, Int.mul_add]
    have a1 : x1 * 4294967296 * (y1 * 4294967296) = (x1 * y1) * 18446744073709551616 := by
      rw [Int.mul_assoc, Int.mul_left_comm 4294967296 y1, ← Int.mul_assoc]; omega
    have a2 : x1 * 4294967296 * y0 = (x1 * y0) * 4294967296 := by rw [Int.mul_right_comm]
    have a3 : x0 * (y1 * 4294967296) = (x0 * y1) * 4294967296 := by rw [Int.mul_assoc]
    rw [a1, a2, a3]; omega
  rw [e]
  generalize x1 * y1 = a at *
  generalize x1 * y0 = b at *
  generalize x0 * y1 = c at *
  generalize x0 * y0 = d at *
  have t1 : uw d = d := uw_in (by omega) (by omega)
  have t2 : uw b = b := uw_in (by omega) (by omega)
  have t3 : uw c = c := uw_in (by omega) (by omega)
  have t4 : uw a = a := uw_in (by omega) (by omega)
  rw [t1, t2, t3, t4]
  have t5 : uw (b + d / 4294967296) = b + d / 4294967296 := uw_in (by omega) (by omega)
  rw [t5, band_32 (by omega) (by omega)]
  have t6 : uw ((b + d / 4294967296) % 4294967296 + c) = (b + d / 4294967296) % 4294967296 + c := uw_in (by omega) (by omega)
  rw [t6]
  have t7 : uw (a + (b + d / 4294967296) / 4294967296) = a + (b + d / 4294967296) / 4294967296 := uw_in (by omega) (by omega)
  rw [t7, uw_in (by omega) (by omega)]
  omega

end
end Go.VM

/- Fixed-point numbers: exact values. -/
namespace Go.VM
open Go
noncomputable section

/-- A value as a number: too great ones are cut off, and flagged. -/
def zV (z : Int) : Int := cond (decide (z > 9223372036854775807)) 9223372036854775807 (cond (decide (z < -9223372036854775807)) (-9223372036854775807) z)
def zF (z : Int) (f : Bool) : Bool := cond (decide (z > 9223372036854775807) || decide (z < -9223372036854775807)) true f
def sgn (neg : Bool) (m : Int) : Int := cond neg (0 - m) m

theorem zV_in {z : Int} (h0 : -9223372036854775807 ≤ z) (h1 : z ≤ 9223372036854775807) : zV z = z := by
  unfold zV; rw [decide_eq_false (by omega), cond_false, decide_eq_false (by omega), cond_false]
theorem zV_hi {z : Int} (h : 9223372036854775807 < z) : zV z = 9223372036854775807 := by
  unfold zV; rw [decide_eq_true (by omega), cond_true]
theorem zV_lo {z : Int} (h : z < -9223372036854775807) : zV z = -9223372036854775807 := by
  unfold zV; rw [decide_eq_false (by omega), cond_false, decide_eq_true (by omega), cond_true]
theorem zF_in {z : Int} (h0 : -9223372036854775807 ≤ z) (h1 : z ≤ 9223372036854775807) (f : Bool) : zF z f = f := by
  unfold zF
  have a : decide (z > 9223372036854775807) = false := decide_eq_false (by omega)
  have b : decide (z < -9223372036854775807) = false := decide_eq_false (by omega)
  rw [a, b]; rfl
theorem zF_hi {z : Int} (h : 9223372036854775807 < z) (f : Bool) : zF z f = true := by
  unfold zF
  have a : decide (z > 9223372036854775807) = true := decide_eq_true (by omega)
  rw [a]; rfl
theorem zF_lo {z : Int} (h : z < -9223372036854775807) (f : Bool) : zF z f = true := by
  unfold zF
  have a : decide (z < -9223372036854775807) = true := decide_eq_true h
  rw [a, Bool.or_true]; rfl

theorem zV_range (z : Int) : -9223372036854775807 ≤ zV z ∧ zV z ≤ 9223372036854775807 := by
  by_cases h : 9223372036854775807 < z
  · rw [zV_hi h]; omega
  · by_cases k : z < -9223372036854775807
    · rw [zV_lo k]; omega
    · rw [zV_in (by omega) (by omega)]; omega

theorem fits_iff {m : Int} (h : 0 ≤ m) : fits (m % 18446744073709551616) (m / 18446744073709551616) = decide (m ≤ 9223372036854775807) := by
  unfold fits
  by_cases k : m / 18446744073709551616 = 0
  · rw [k, show ((0 : Int) == 0) = true by rfl, cond_true]
    by_cases q : m ≤ 9223372036854775807
    · rw [decide_eq_true q, decide_eq_true (by omega)]
    · rw [decide_eq_false q, decide_eq_false (by omega)]
  · have : (m / 18446744073709551616 == 0) = false := by simpa using k
    rw [this, cond_false, decide_eq_false (by omega)]

theorem fitV_z (neg : Bool) {m : Int} (h : 0 ≤ m) : fitV neg (m % 18446744073709551616) (m / 18446744073709551616) = zV (sgn neg m) := by
  unfold fitV
  rw [fits_iff h]
  by_cases q : m ≤ 9223372036854775807
  · have e : m % 18446744073709551616 = m := by omega
    rw [decide_eq_true q, cond_true, e]
    cases neg with
    | true => rw [sgn, cond_true, zV_in (by omega) (by omega)]
    | false => rw [sgn, cond_false, zV_in (by omega) (by omega)]
  · rw [decide_eq_false q, cond_false]
    cases neg with
    | true => rw [sgn, cond_true, cond_true, zV_lo (by omega)]
    | false => rw [sgn, cond_false, cond_false, zV_hi (by omega)]

theorem fitF_z (neg : Bool) {m : Int} (h : 0 ≤ m) (f : Bool) : fitF (m % 18446744073709551616) (m / 18446744073709551616) f = zF (sgn neg m) f := by
  unfold fitF
  rw [fits_iff h]
  by_cases q : m ≤ 9223372036854775807
  · rw [decide_eq_true q, cond_true]
    cases neg with
    | true => rw [sgn, cond_true, zF_in (by omega) (by omega)]
    | false => rw [sgn, cond_false, zF_in (by omega) (by omega)]
  · rw [decide_eq_false q, cond_false]
    cases neg with
    | true => rw [sgn, cond_true, zF_lo (by omega)]
    | false => rw [sgn, cond_false, zF_hi (by omega)]

/-- Exact sums, by sign and size. -/
def plusN (xn : Bool) (mx : Int) (yn : Bool) (my : Int) : Bool := cond (xn == yn) xn (cond (decide (mx < my)) yn xn)
def plusM (xn : Bool) (mx : Int) (yn : Bool) (my : Int) : Int := cond (xn == yn) (mx + my) (cond (decide (mx < my)) (my - mx) (mx - my))

theorem plus_sgn (xn : Bool) (mx : Int) (yn : Bool) (my : Int) : sgn (plusN xn mx yn my) (plusM xn mx yn my) = sgn xn mx + sgn yn my := by
  unfold plusN plusM
  by_cases h : mx < my
  · cases xn <;> cases yn <;> simp [sgn, h] <;> omega
  · cases xn <;> cases yn <;> simp [sgn, h] <;> omega

theorem plusM_nonneg {xn : Bool} {mx : Int} {yn : Bool} {my : Int} (h : 0 ≤ mx) (k : 0 ≤ my) : 0 ≤ plusM xn mx yn my ∧ plusM xn mx yn my ≤ mx + my := by
  unfold plusM
  by_cases q : mx < my
  · cases xn <;> cases yn <;> simp [q] <;> omega
  · cases xn <;> cases yn <;> simp [q] <;> omega

theorem sgn_abs (a : Int) : sgn (decide (a < 0)) (absI a) = a := by
  unfold sgn absI
  by_cases h : a < 0 <;> simp [h]

theorem cmpI_neg {a b : Int} : (cmpI a b < 0) ↔ a < b := by
  unfold cmpI
  by_cases h : a < b
  · simp [h]
  · by_cases k : a > b <;> simp [h, k] <;> omega

theorem cmpW_neg {a b c d : Int} : (cond (cmpI b d != 0) (cmpI b d) (cmpI a c) < 0) ↔ (b < d ∨ (b = d ∧ a < c)) := by
  by_cases h : b < d
  · have : cmpI b d = -1 := by simp [cmpI, h]
    simp [this, h]
  · by_cases k : b > d
    · have : cmpI b d = 1 := by simp [cmpI, h, k]
      simp [this, h]; omega
    · have e : b = d := by omega
      have : cmpI b d = 0 := by simp [cmpI, h, k]
      simp only [this]
      simp only [bne_self_eq_false, cond_false]
      rw [cmpI_neg]; omega

/-- Products in fixed point. -/
def mulZ (x y : Int) : Int := sgn (decide (x < 0) != decide (y < 0)) (absI x * absI y / 4294967296)

theorem abs_mul_nonneg (x y : Int) : 0 ≤ absI x * absI y := by
  have p : ∀ a : Int, 0 ≤ absI a := by
    intro a
    unfold absI
    by_cases h : a < 0
    · rw [decide_eq_true h, cond_true]; omega
    · rw [decide_eq_false h, cond_false]; omega
  exact Int.mul_nonneg (p x) (p y)

end
end Go.VM

