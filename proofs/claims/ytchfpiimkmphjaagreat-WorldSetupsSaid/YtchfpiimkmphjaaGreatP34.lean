/- A part of the proof: P34. No condition. -/
import Derived.Test.YtchfpiimkmphjaaGreatP33
import Derived.KernelRfl
namespace Go.VM
open Go
set_option maxRecDepth 1000000
noncomputable section
-- the bytes of numbers, of the reference
def rbR (a : Int) (s : Nat) : AV := .int .u8 (IntKind.u8.wrap ((IntKind.u64.wrap a).fdiv (2 ^ s)))
theorem rbR_eq (a : Int) (s : Nat) (hs : s = 0 ∨ s = 8 ∨ s = 16 ∨ s = 24 ∨ s = 32 ∨ s = 40 ∨ s = 48 ∨ s = 56) : rbR a s = rb a s := by
  unfold rbR rb
  congr 1
  have w8 : ∀ x : Int, IntKind.u8.wrap x = x % 256 := fun x => by rfl
  have w64 : ∀ x : Int, IntKind.u64.wrap x = x % 18446744073709551616 := fun x => by rfl
  rw [w8, w8, w64]
  rcases hs with rfl | rfl | rfl | rfl | rfl | rfl | rfl | rfl
  all_goals
    rw [Int.fdiv_eq_ediv_of_nonneg _ (by decide), Int.fdiv_eq_ediv_of_nonneg _ (by decide)]
    simp only [Int.reducePow]
    omega
def be8R (a : Int) : List AV := [rbR a 56, rbR a 48, rbR a 40, rbR a 32, rbR a 24, rbR a 16, rbR a 8, rbR a 0]
theorem be8R_eq (a : Int) : be8R a = be8 a := by
  unfold be8R be8
  rw [rbR_eq a 56 (by simp), rbR_eq a 48 (by simp), rbR_eq a 40 (by simp), rbR_eq a 32 (by simp), rbR_eq a 24 (by simp), rbR_eq a 16 (by simp), rbR_eq a 8 (by simp), rbR_eq a 0 (by simp)]
theorem bytU_be8 (a : Int) (l : List AV) : bytU (be8 a ++ l) = bytU (be8 a) ++ bytU l := rfl
theorem strB_app8 (a : Int) (l : List AV) : strB (be8 a) ++ strB l = strB (be8 a ++ l) := by
  apply ByteArray.ext
  simp [strB, bytU_be8]
theorem strB_app (m : List AV) : ∀ ns : List Int, strB (beL ns) ++ strB m = strB (beL ns ++ m) := by
  intro ns
  induction ns with
  | nil => apply ByteArray.ext; simp [strB, beL, bytU]
  | cons n ns ih =>
    simp only [beL, List.append_assoc]
    rw [← strB_app8, ← strB_app8, ByteArray.append_assoc, ih]
theorem t95 (a : Int) : kf 95 ot5 [.int .i64 a] = some (.str (strB (be8R a))) := by kernel_rfl
def S95 : List AV → Option (List Bool × AV)
  | [.int .i64 a] => some ([], .str (strB (be8 a)))
  | _ => none
theorem sum95 : SumOk Go.Proofs.Tryz.prog 95 (pureS S95) := pureOk ot5_ok (by
  intro args cs v h _
  unfold S95 at h
  split at h
  · cases h; rw [t95, be8R_eq]
  · cases h)
def ot95 : OT := ot5.set 40 95 (some (pureS S95))
theorem ot95_ok : OTok Go.Proofs.Tryz.prog ot95 := otok_set ot5_ok (hasText ftok (f := 95) (fi := fiOf Go.Proofs.Tryz.f95) (by kernel_rfl)) sum95
def cat95 (s : ByteArray) : List Int → ByteArray
  | [] => s
  | n :: ns => cat95 (s ++ strB (be8 n)) ns
theorem cat95_eq : ∀ (ns : List Int) (s : ByteArray), cat95 s ns = s ++ strB (beL ns) := by
  intro ns
  induction ns with
  | nil => intro s; apply ByteArray.ext; simp [cat95, strB, beL, bytU]
  | cons n ns ih =>
    intro s
    simp only [cat95, beL]
    rw [ih, ByteArray.append_assoc, strB_app8]
theorem t92_2 (a0 a1 : Int) : kf 92 ot95 [.list 1 [[.int .i64 a0], [.int .i64 a1]]] = some (.str (cat95 ⟨#[]⟩ [a0, a1])) := by kernel_rfl
theorem t92_7 (a0 a1 a2 a3 a4 a5 a6 : Int) : kf 92 ot95 [.list 1 [[.int .i64 a0], [.int .i64 a1], [.int .i64 a2], [.int .i64 a3], [.int .i64 a4], [.int .i64 a5], [.int .i64 a6]]] = some (.str (cat95 ⟨#[]⟩ [a0, a1, a2, a3, a4, a5, a6])) := by kernel_rfl
theorem empty_app (s : ByteArray) : (⟨#[]⟩ : ByteArray) ++ s = s := by apply ByteArray.ext; simp
def S92 : List AV → Option (List Bool × AV)
  | [.list 1 [[.int .i64 a0], [.int .i64 a1]]] => some ([], .str (strB (beL [a0, a1])))
  | [.list 1 [[.int .i64 a0], [.int .i64 a1], [.int .i64 a2], [.int .i64 a3], [.int .i64 a4], [.int .i64 a5], [.int .i64 a6]]] => some ([], .str (strB (beL [a0, a1, a2, a3, a4, a5, a6])))
  | _ => none
theorem sum92 : SumOk Go.Proofs.Tryz.prog 92 (pureS S92) := pureOk ot95_ok (by
  intro args cs v h _
  unfold S92 at h
  split at h
  · cases h; rw [t92_2, cat95_eq, empty_app]
  · cases h; rw [t92_7, cat95_eq, empty_app]
  · cases h)
def ot34 : OT := ot95.set 40 92 (some (pureS S92))
theorem ot34_ok : OTok Go.Proofs.Tryz.prog ot34 := otok_set ot95_ok (hasText ftok (f := 92) (fi := fiOf Go.Proofs.Tryz.f92) (by kernel_rfl)) sum92
def vObj (a b c n it : Int) (f g h : Bool) (N N2 : Nat) (xx yy : Bool) (bo : AV) (gens tak : List (List AV)) (o3 : AO) : List AO := [.arr 14 [[.int .i64 a, .bool f, .int .i64 b, .bool g, .int .i64 c, .bool h, .int .i64 n, .int .i64 it, .slice 1 1 0 N N2 xx, .slice 2 1 0 N N2 yy, bo, .int .i64 0, .int .i64 0, .nils]], .arr 1 gens, .arr 1 tak, o3]
def rowF : List AV := [.bool false]
def rcat (s : ByteArray) : Nat → ByteArray
  | 0 => s
  | n + 1 => rcat s n ++ strB (beL [0, 0])
def lit4 : ByteArray := ⟨#[98, 103, 108, 49]⟩
end
end Go.VM

