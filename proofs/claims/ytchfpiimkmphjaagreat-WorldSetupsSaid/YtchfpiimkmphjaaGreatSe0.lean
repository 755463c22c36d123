/- A part of the proof: Se0. No condition. -/
import Derived.Test.YtchfpiimkmphjaaGreatRmb
import Derived.Test.YtchfpiimkmphjaaGreatVmPc
import Derived.KernelRfl
namespace Go.VM
open Go
noncomputable section
-- a slice that grows by single elements: newest first
def rowsS (ys : List Int) : List (List AV) := ys.reverse.map fun y => [.int .i64 y]
def outS (nb : Nat) (ys : List Int) : AV := match ys with
  | [] => .nils
  | _ :: _ => .slice (nb + 2 * ys.length - 1) 1 0 ys.length ys.length false
def addS (H : AH) (o : AO) : AH := { next := H.next + 1, tr := H.tr.set 40 H.next (some o), log := H.next :: H.log }
def hpS (nb : Nat) (H : AH) : List Int → AH
  | [] => H
  | y :: ys => match ys with
    | [] => trimH (some []) (addS (addS H (.arr 1 [[.int .i64 y]])) (.arr 1 [[.int .i64 y]]))
    | _ :: _ => trimH (some []) (addS ((addS (hpS nb H ys) (.arr 1 [[.int .i64 y]])).put (nb + 2 * ys.length - 1) none) (.arr 1 (rowsS (y :: ys))))
def roomF (s : Nat → Bool) : List AO := room (s 0) (s 1) (s 2) (s 3) (s 4) (s 5) (s 6) (s 7) (s 8) (s 9) (s 10) (s 11) (s 12) (s 13) (s 14) (s 15) (s 16)
def room2F (s : Nat → Bool) : List AO := room2 (s 0) (s 1) (s 2) (s 3) (s 4) (s 5) (s 6) (s 7) (s 8) (s 9) (s 10) (s 11) (s 12) (s 13) (s 14) (s 15) (s 16)
def seatF (b0 b1 b2 b3 b4 b5 b6 b7 b8 b9 b10 b11 b12 b13 b14 b15 b16 : Bool) : Nat → Bool
  | 0 => b0
  | 1 => b1
  | 2 => b2
  | 3 => b3
  | 4 => b4
  | 5 => b5
  | 6 => b6
  | 7 => b7
  | 8 => b8
  | 9 => b9
  | 10 => b10
  | 11 => b11
  | 12 => b12
  | 13 => b13
  | 14 => b14
  | 15 => b15
  | _ => b16
def resS (ys : List Int) : AV := match ys with
  | [] => .nils
  | _ :: _ => .list 1 (rowsS ys)
def accS : Int → List Bool → List Int → List Int
  | _, [], ys => ys
  | i, b :: bs, ys => accS (i + 1) bs (cond b (i :: ys) ys)
theorem accS_cons (i : Int) (b : Bool) (bs : List Bool) (ys : List Int) : accS i (b :: bs) ys = accS (i + 1) bs (cond b (i :: ys) ys) := rfl
theorem hpS_trim {nb : Nat} {H : AH} {l : List Nat} (h : H.log = []) (ys : List Int) : trimH (some l) (hpS nb H ys) = hpS nb H ys := by
  cases ys with
  | nil => simp only [hpS, trimH, h, dedN]; rw [← h]
  | cons y ys => cases ys with
    | nil => exact trimH_idem (some []) _
    | cons z zs => exact trimH_idem (some []) _
theorem tell_resS (ys : List Int) : tellA (resS ys) (.list 1 (rowsS ys)) := by
  cases ys with
  | nil => exact .inr ⟨rfl, 1, rfl⟩
  | cons y ys => exact .inl rfl
end
end Go.VM

