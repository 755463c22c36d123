/- A part of the proof: P33. No condition. -/
import Derived.Test.YtchfpiimkmphjaaGreatP85
import Derived.KernelRfl
namespace Go.VM
open Go
set_option maxRecDepth 1000000
noncomputable section
-- the bytes of a world without bodies
def bytU : List AV → List UInt8
  | .int .u8 n :: l => UInt8.ofNat n.toNat :: bytU l
  | _ => []
def strB (l : List AV) : ByteArray := ⟨⟨bytU l⟩⟩
def repB : Nat → List AV
  | 0 => beL [0]
  | n + 1 => beL [0, 0] ++ repB n
def wBytes (a b c n it : Int) (N : Nat) : List AV := [.int .u8 98, .int .u8 103, .int .u8 108, .int .u8 49] ++ (beL [a, b] ++ (beL [c, n, it, 0, 0] ++ repB N))
def row0 : List AV := [.int .i64 0]
def ot33 : OT := ot5.set 40 85 (some (heapS2 rhoA S85))
theorem ot33_ok : OTok Go.Proofs.Tryz.prog ot33 := otok_set ot5_ok (hasText ftok (f := 85) (fi := fiOf Go.Proofs.Tryz.f85) (by kernel_rfl)) sum85
def wObj (a b c n it : Int) (f g h : Bool) (N N2 : Nat) (xx : Bool) (bo : AV) (gens : List (List AV)) (o4 o5 o6 : AO) : List AO := [.arr 1 [[.ptr 1 14 0 0]], .arr 14 [[.ptr 2 2 0 0, .ptr 4 1 0 0, .int .i64 a, .bool f, .int .i64 b, .bool g, .int .i64 c, .bool h, .int .i64 n, .int .i64 it, bo, .nils, .int .i64 0, .int .i64 0]], .arr 2 [[.int .u64 0, .slice 3 1 0 N N2 xx]], .arr 1 gens, o4, o5, o6]
abbrev k33 (a b c n it : Int) (f g h : Bool) (N N2 : Nat) (xx : Bool) (bo : AV) (gens : List (List AV)) (o4 o5 o6 : AO) : Option AV := funK ftc ttg ntc ot33 1000000 30 (.fn 33) [.ptr 0 1 0 0] (heap0 (wObj a b c n it f g h N N2 xx bo gens o4 o5 o6)) (fun u H1 => readR 7 u H1)
def repR (N : Nat) : List (List AV) → Bool
  | [] => Nat.beq N 0
  | [.int .i64 x] :: l => match N with
    | 0 => false
    | N + 1 => cond (decide (x = 0)) (repR N l) false
  | _ => false
theorem repR_ok : ∀ (l : List (List AV)) (N : Nat), repR N l = true → l = rep N row0 := by
  intro l
  induction l with
  | nil => intro N h; unfold repR at h; rw [Nat.eq_of_beq_eq_true h]; rfl
  | cons e l ih =>
    intro N h
    unfold repR at h
    split at h
    · rename_i heq; cases heq
    · rename_i x l' heq
      cases heq
      split at h
      · cases h
      · rename_i N
        by_cases hx : x = 0
        · rw [decide_eq_true hx, cond_true] at h
          rw [ih N h, hx]; rfl
        · rw [decide_eq_false hx, cond_false] at h; cases h
    · cases h
end
end Go.VM

