/- A part of the proof: Rmb. No condition. -/
import Derived.Test.YtchfpiimkmphjaaGreatRma
namespace Go.VM
open Go
noncomputable section
def room2 (b0 b1 b2 b3 b4 b5 b6 b7 b8 b9 b10 b11 b12 b13 b14 b15 b16 : Bool) : List AO := [.arr 19 [[.ptr 1 14 0 0, .bool b0, .bool b1, .bool b2, .bool b3, .bool b4, .bool b5, .bool b6, .bool b7, .bool b8, .bool b9, .bool b10, .bool b11, .bool b12, .bool b13, .bool b14, .bool b15, .bool b16, .nils]], .arr 1 []]
def hitF (e : Int) (i : Int) (b : Bool) : Bool := cond (decide (1 ≤ e)) (cond (decide (e ≤ 16)) (cond (decide (e = i)) false b) b) b
def closeC (e : Int) (bs : List Bool) : Int := cond (decide (e < 1)) 9 (cond (decide (e > 16)) 9 (cond (seatB e 0 bs) 0 9))
theorem hitF_out {e : Int} (h : ¬ (1 ≤ e ∧ e ≤ 16)) (i : Int) (b : Bool) : hitF e i b = b := by
  unfold hitF
  by_cases h1 : 1 ≤ e
  · rw [decide_eq_true h1, cond_true, decide_eq_false (fun h2 => h ⟨h1, h2⟩), cond_false]
  · rw [decide_eq_false h1, cond_false]
end
end Go.VM

namespace Go.VM
open Go
set_option maxRecDepth 1000000
noncomputable section
def L25 (e : Int) (b0 b1 b2 b3 b4 b5 b6 b7 b8 b9 b10 b11 b12 b13 b14 b15 b16 : Bool) : List (Option AO) := [some (.arr 19 [[.ptr 1 14 0 0, .bool (hitB e 0 b0), .bool (hitB e 1 b1), .bool (hitB e 2 b2), .bool (hitB e 3 b3), .bool (hitB e 4 b4), .bool (hitB e 5 b5), .bool (hitB e 6 b6), .bool (hitB e 7 b7), .bool (hitB e 8 b8), .bool (hitB e 9 b9), .bool (hitB e 10 b10), .bool (hitB e 11 b11), .bool (hitB e 12 b12), .bool (hitB e 13 b13), .bool (hitB e 14 b14), .bool (hitB e 15 b15), .bool (hitB e 16 b16), .nils]]), none]
abbrev ko25 (e : Int) (b0 b1 b2 b3 b4 b5 b6 b7 b8 b9 b10 b11 b12 b13 b14 b15 b16 : Bool) := funK ftc ttc ntc ot5 1000000 30 (.fn 25) [.ptr 0 19 0 0, .int .i64 e] (heap0 (room2 b0 b1 b2 b3 b4 b5 b6 b7 b8 b9 b10 b11 b12 b13 b14 b15 b16)) (fun u H1 => canonF [0] 2 2 2 u H1)
theorem o25_0 (b0 b1 b2 b3 b4 b5 b6 b7 b8 b9 b10 b11 b12 b13 b14 b15 b16 : Bool) : ko25 (.ofNat 0) b0 b1 b2 b3 b4 b5 b6 b7 b8 b9 b10 b11 b12 b13 b14 b15 b16 = some (.int .i64 3, L25 (.ofNat 0) b0 b1 b2 b3 b4 b5 b6 b7 b8 b9 b10 b11 b12 b13 b14 b15 b16) := by kernel_rfl
theorem o25_1t (b0 b2 b3 b4 b5 b6 b7 b8 b9 b10 b11 b12 b13 b14 b15 b16 : Bool) : ko25 (.ofNat 1) b0 true b2 b3 b4 b5 b6 b7 b8 b9 b10 b11 b12 b13 b14 b15 b16 = some (.int .i64 11, L25 (.ofNat 1) b0 true b2 b3 b4 b5 b6 b7 b8 b9 b10 b11 b12 b13 b14 b15 b16) := by kernel_rfl
theorem o25_1f (b0 b2 b3 b4 b5 b6 b7 b8 b9 b10 b11 b12 b13 b14 b15 b16 : Bool) : ko25 (.ofNat 1) b0 false b2 b3 b4 b5 b6 b7 b8 b9 b10 b11 b12 b13 b14 b15 b16 = some (.int .i64 0, L25 (.ofNat 1) b0 false b2 b3 b4 b5 b6 b7 b8 b9 b10 b11 b12 b13 b14 b15 b16) := by kernel_rfl
theorem o25_2t (b0 b1 b3 b4 b5 b6 b7 b8 b9 b10 b11 b12 b13 b14 b15 b16 : Bool) : ko25 (.ofNat 2) b0 b1 true b3 b4 b5 b6 b7 b8 b9 b10 b11 b12 b13 b14 b15 b16 = some (.int .i64 11, L25 (.ofNat 2) b0 b1 true b3 b4 b5 b6 b7 b8 b9 b10 b11 b12 b13 b14 b15 b16) := by kernel_rfl
theorem o25_2f (b0 b1 b3 b4 b5 b6 b7 b8 b9 b10 b11 b12 b13 b14 b15 b16 : Bool) : ko25 (.ofNat 2) b0 b1 false b3 b4 b5 b6 b7 b8 b9 b10 b11 b12 b13 b14 b15 b16 = some (.int .i64 0, L25 (.ofNat 2) b0 b1 false b3 b4 b5 b6 b7 b8 b9 b10 b11 b12 b13 b14 b15 b16) := by kernel_rfl
theorem o25_3t (b0 b1 b2 b4 b5 b6 b7 b8 b9 b10 b11 b12 b13 b14 b15 b16 : Bool) : ko25 (.ofNat 3) b0 b1 b2 true b4 b5 b6 b7 b8 b9 b10 b11 b12 b13 b14 b15 b16 = some (.int .i64 11, L25 (.ofNat 3) b0 b1 b2 true b4 b5 b6 b7 b8 b9 b10 b11 b12 b13 b14 b15 b16) := by kernel_rfl
theorem o25_3f (b0 b1 b2 b4 b5 b6 b7 b8 b9 b10 b11 b12 b13 b14 b15 b16 : Bool) : ko25 (.ofNat 3) b0 b1 b2 false b4 b5 b6 b7 b8 b9 b10 b11 b12 b13 b14 b15 b16 = some (.int .i64 0, L25 (.ofNat 3) b0 b1 b2 false b4 b5 b6 b7 b8 b9 b10 b11 b12 b13 b14 b15 b16) := by kernel_rfl
theorem o25_4t (b0 b1 b2 b3 b5 b6 b7 b8 b9 b10 b11 b12 b13 b14 b15 b16 : Bool) : ko25 (.ofNat 4) b0 b1 b2 b3 true b5 b6 b7 b8 b9 b10 b11 b12 b13 b14 b15 b16 = some (.int .i64 11, L25 (.ofNat 4) b0 b1 b2 b3 true b5 b6 b7 b8 b9 b10 b11 b12 b13 b14 b15 b16) := by kernel_rfl
theorem o25_4f (b0 b1 b2 b3 b5 b6 b7 b8 b9 b10 b11 b12 b13 b14 b15 b16 : Bool) : ko25 (.ofNat 4) b0 b1 b2 b3 false b5 b6 b7 b8 b9 b10 b11 b12 b13 b14 b15 b16 = some (.int .i64 0, L25 (.ofNat 4) b0 b1 b2 b3 false b5 b6 b7 b8 b9 b10 b11 b12 b13 b14 b15 b16) := by kernel_rfl
theorem o25_5t (b0 b1 b2 b3 b4 b6 b7 b8 b9 b10 b11 b12 b13 b14 b15 b16 : Bool) : ko25 (.ofNat 5) b0 b1 b2 b3 b4 true b6 b7 b8 b9 b10 b11 b12 b13 b14 b15 b16 = some (.int .i64 11, L25 (.ofNat 5) b0 b1 b2 b3 b4 true b6 b7 b8 b9 b10 b11 b12 b13 b14 b15 b16) := by kernel_rfl
theorem o25_5f (b0 b1 b2 b3 b4 b6 b7 b8 b9 b10 b11 b12 b13 b14 b15 b16 : Bool) : ko25 (.ofNat 5) b0 b1 b2 b3 b4 false b6 b7 b8 b9 b10 b11 b12 b13 b14 b15 b16 = some (.int .i64 0, L25 (.ofNat 5) b0 b1 b2 b3 b4 false b6 b7 b8 b9 b10 b11 b12 b13 b14 b15 b16) := by kernel_rfl
theorem o25_6t (b0 b1 b2 b3 b4 b5 b7 b8 b9 b10 b11 b12 b13 b14 b15 b16 : Bool) : ko25 (.ofNat 6) b0 b1 b2 b3 b4 b5 true b7 b8 b9 b10 b11 b12 b13 b14 b15 b16 = some (.int .i64 11, L25 (.ofNat 6) b0 b1 b2 b3 b4 b5 true b7 b8 b9 b10 b11 b12 b13 b14 b15 b16) := by kernel_rfl
theorem o25_6f (b0 b1 b2 b3 b4 b5 b7 b8 b9 b10 b11 b12 b13 b14 b15 b16 : Bool) : ko25 (.ofNat 6) b0 b1 b2 b3 b4 b5 false b7 b8 b9 b10 b11 b12 b13 b14 b15 b16 = some (.int .i64 0, L25 (.ofNat 6) b0 b1 b2 b3 b4 b5 false b7 b8 b9 b10 b11 b12 b13 b14 b15 b16) := by kernel_rfl
theorem o25_7t (b0 b1 b2 b3 b4 b5 b6 b8 b9 b10 b11 b12 b13 b14 b15 b16 : Bool) : ko25 (.ofNat 7) b0 b1 b2 b3 b4 b5 b6 true b8 b9 b10 b11 b12 b13 b14 b15 b16 = some (.int .i64 11, L25 (.ofNat 7) b0 b1 b2 b3 b4 b5 b6 true b8 b9 b10 b11 b12 b13 b14 b15 b16) := by kernel_rfl
theorem o25_7f (b0 b1 b2 b3 b4 b5 b6 b8 b9 b10 b11 b12 b13 b14 b15 b16 : Bool) : ko25 (.ofNat 7) b0 b1 b2 b3 b4 b5 b6 false b8 b9 b10 b11 b12 b13 b14 b15 b16 = some (.int .i64 0, L25 (.ofNat 7) b0 b1 b2 b3 b4 b5 b6 false b8 b9 b10 b11 b12 b13 b14 b15 b16) := by kernel_rfl
theorem o25_8t (b0 b1 b2 b3 b4 b5 b6 b7 b9 b10 b11 b12 b13 b14 b15 b16 : Bool) : ko25 (.ofNat 8) b0 b1 b2 b3 b4 b5 b6 b7 true b9 b10 b11 b12 b13 b14 b15 b16 = some (.int .i64 11, L25 (.ofNat 8) b0 b1 b2 b3 b4 b5 b6 b7 true b9 b10 b11 b12 b13 b14 b15 b16) := by kernel_rfl
theorem o25_8f (b0 b1 b2 b3 b4 b5 b6 b7 b9 b10 b11 b12 b13 b14 b15 b16 : Bool) : ko25 (.ofNat 8) b0 b1 b2 b3 b4 b5 b6 b7 false b9 b10 b11 b12 b13 b14 b15 b16 = some (.int .i64 0, L25 (.ofNat 8) b0 b1 b2 b3 b4 b5 b6 b7 false b9 b10 b11 b12 b13 b14 b15 b16) := by kernel_rfl
theorem o25_9t (b0 b1 b2 b3 b4 b5 b6 b7 b8 b10 b11 b12 b13 b14 b15 b16 : Bool) : ko25 (.ofNat 9) b0 b1 b2 b3 b4 b5 b6 b7 b8 true b10 b11 b12 b13 b14 b15 b16 = some (.int .i64 11, L25 (.ofNat 9) b0 b1 b2 b3 b4 b5 b6 b7 b8 true b10 b11 b12 b13 b14 b15 b16) := by kernel_rfl
theorem o25_9f (b0 b1 b2 b3 b4 b5 b6 b7 b8 b10 b11 b12 b13 b14 b15 b16 : Bool) : ko25 (.ofNat 9) b0 b1 b2 b3 b4 b5 b6 b7 b8 false b10 b11 b12 b13 b14 b15 b16 = some (.int .i64 0, L25 (.ofNat 9) b0 b1 b2 b3 b4 b5 b6 b7 b8 false b10 b11 b12 b13 b14 b15 b16) := by kernel_rfl
theorem o25_10t (b0 b1 b2 b3 b4 b5 b6 b7 b8 b9 b11 b12 b13 b14 b15 b16 : Bool) : ko25 (.ofNat 10) b0 b1 b2 b3 b4 b5 b6 b7 b8 b9 true b11 b12 b13 b14 b15 b16 = some (.int .i64 11, L25 (.ofNat 10) b0 b1 b2 b3 b4 b5 b6 b7 b8 b9 true b11 b12 b13 b14 b15 b16) := by kernel_rfl
theorem o25_10f (b0 b1 b2 b3 b4 b5 b6 b7 b8 b9 b11 b12 b13 b14 b15 b16 : Bool) : ko25 (.ofNat 10) b0 b1 b2 b3 b4 b5 b6 b7 b8 b9 false b11 b12 b13 b14 b15 b16 = some (.int .i64 0, L25 (.ofNat 10) b0 b1 b2 b3 b4 b5 b6 b7 b8 b9 false b11 b12 b13 b14 b15 b16) := by kernel_rfl
theorem o25_11t (b0 b1 b2 b3 b4 b5 b6 b7 b8 b9 b10 b12 b13 b14 b15 b16 : Bool) : ko25 (.ofNat 11) b0 b1 b2 b3 b4 b5 b6 b7 b8 b9 b10 true b12 b13 b14 b15 b16 = some (.int .i64 11, L25 (.ofNat 11) b0 b1 b2 b3 b4 b5 b6 b7 b8 b9 b10 true b12 b13 b14 b15 b16) := by kernel_rfl
theorem o25_11f (b0 b1 b2 b3 b4 b5 b6 b7 b8 b9 b10 b12 b13 b14 b15 b16 : Bool) : ko25 (.ofNat 11) b0 b1 b2 b3 b4 b5 b6 b7 b8 b9 b10 false b12 b13 b14 b15 b16 = some (.int .i64 0, L25 (.ofNat 11) b0 b1 b2 b3 b4 b5 b6 b7 b8 b9 b10 false b12 b13 b14 b15 b16) := by kernel_rfl
theorem o25_12t (b0 b1 b2 b3 b4 b5 b6 b7 b8 b9 b10 b11 b13 b14 b15 b16 : Bool) : ko25 (.ofNat 12) b0 b1 b2 b3 b4 b5 b6 b7 b8 b9 b10 b11 true b13 b14 b15 b16 = some (.int .i64 11, L25 (.ofNat 12) b0 b1 b2 b3 b4 b5 b6 b7 b8 b9 b10 b11 true b13 b14 b15 b16) := by kernel_rfl
theorem o25_12f (b0 b1 b2 b3 b4 b5 b6 b7 b8 b9 b10 b11 b13 b14 b15 b16 : Bool) : ko25 (.ofNat 12) b0 b1 b2 b3 b4 b5 b6 b7 b8 b9 b10 b11 false b13 b14 b15 b16 = some (.int .i64 0, L25 (.ofNat 12) b0 b1 b2 b3 b4 b5 b6 b7 b8 b9 b10 b11 false b13 b14 b15 b16) := by kernel_rfl
theorem o25_13t (b0 b1 b2 b3 b4 b5 b6 b7 b8 b9 b10 b11 b12 b14 b15 b16 : Bool) : ko25 (.ofNat 13) b0 b1 b2 b3 b4 b5 b6 b7 b8 b9 b10 b11 b12 true b14 b15 b16 = some (.int .i64 11, L25 (.ofNat 13) b0 b1 b2 b3 b4 b5 b6 b7 b8 b9 b10 b11 b12 true b14 b15 b16) := by kernel_rfl
theorem o25_13f (b0 b1 b2 b3 b4 b5 b6 b7 b8 b9 b10 b11 b12 b14 b15 b16 : Bool) : ko25 (.ofNat 13) b0 b1 b2 b3 b4 b5 b6 b7 b8 b9 b10 b11 b12 false b14 b15 b16 = some (.int .i64 0, L25 (.ofNat 13) b0 b1 b2 b3 b4 b5 b6 b7 b8 b9 b10 b11 b12 false b14 b15 b16) := by kernel_rfl
theorem o25_14t (b0 b1 b2 b3 b4 b5 b6 b7 b8 b9 b10 b11 b12 b13 b15 b16 : Bool) : ko25 (.ofNat 14) b0 b1 b2 b3 b4 b5 b6 b7 b8 b9 b10 b11 b12 b13 true b15 b16 = some (.int .i64 11, L25 (.ofNat 14) b0 b1 b2 b3 b4 b5 b6 b7 b8 b9 b10 b11 b12 b13 true b15 b16) := by kernel_rfl
theorem o25_14f (b0 b1 b2 b3 b4 b5 b6 b7 b8 b9 b10 b11 b12 b13 b15 b16 : Bool) : ko25 (.ofNat 14) b0 b1 b2 b3 b4 b5 b6 b7 b8 b9 b10 b11 b12 b13 false b15 b16 = some (.int .i64 0, L25 (.ofNat 14) b0 b1 b2 b3 b4 b5 b6 b7 b8 b9 b10 b11 b12 b13 false b15 b16) := by kernel_rfl
theorem o25_15t (b0 b1 b2 b3 b4 b5 b6 b7 b8 b9 b10 b11 b12 b13 b14 b16 : Bool) : ko25 (.ofNat 15) b0 b1 b2 b3 b4 b5 b6 b7 b8 b9 b10 b11 b12 b13 b14 true b16 = some (.int .i64 11, L25 (.ofNat 15) b0 b1 b2 b3 b4 b5 b6 b7 b8 b9 b10 b11 b12 b13 b14 true b16) := by kernel_rfl
theorem o25_15f (b0 b1 b2 b3 b4 b5 b6 b7 b8 b9 b10 b11 b12 b13 b14 b16 : Bool) : ko25 (.ofNat 15) b0 b1 b2 b3 b4 b5 b6 b7 b8 b9 b10 b11 b12 b13 b14 false b16 = some (.int .i64 0, L25 (.ofNat 15) b0 b1 b2 b3 b4 b5 b6 b7 b8 b9 b10 b11 b12 b13 b14 false b16) := by kernel_rfl
theorem o25_16t (b0 b1 b2 b3 b4 b5 b6 b7 b8 b9 b10 b11 b12 b13 b14 b15 : Bool) : ko25 (.ofNat 16) b0 b1 b2 b3 b4 b5 b6 b7 b8 b9 b10 b11 b12 b13 b14 b15 true = some (.int .i64 11, L25 (.ofNat 16) b0 b1 b2 b3 b4 b5 b6 b7 b8 b9 b10 b11 b12 b13 b14 b15 true) := by kernel_rfl
theorem o25_16f (b0 b1 b2 b3 b4 b5 b6 b7 b8 b9 b10 b11 b12 b13 b14 b15 : Bool) : ko25 (.ofNat 16) b0 b1 b2 b3 b4 b5 b6 b7 b8 b9 b10 b11 b12 b13 b14 b15 false = some (.int .i64 0, L25 (.ofNat 16) b0 b1 b2 b3 b4 b5 b6 b7 b8 b9 b10 b11 b12 b13 b14 b15 false) := by kernel_rfl
theorem o25_n (m : Nat) (b0 b1 b2 b3 b4 b5 b6 b7 b8 b9 b10 b11 b12 b13 b14 b15 b16 : Bool) : ko25 (.negSucc m) b0 b1 b2 b3 b4 b5 b6 b7 b8 b9 b10 b11 b12 b13 b14 b15 b16 = cond (decide (Int.negSucc m < 1)) (some (.int .i64 3, [some (.arr 19 [[.ptr 1 14 0 0, .bool b0, .bool b1, .bool b2, .bool b3, .bool b4, .bool b5, .bool b6, .bool b7, .bool b8, .bool b9, .bool b10, .bool b11, .bool b12, .bool b13, .bool b14, .bool b15, .bool b16, .nils]]), none])) none := by kernel_rfl
theorem o25_p (m : Nat) (b0 b1 b2 b3 b4 b5 b6 b7 b8 b9 b10 b11 b12 b13 b14 b15 b16 : Bool) : ko25 (.ofNat (m + 17)) b0 b1 b2 b3 b4 b5 b6 b7 b8 b9 b10 b11 b12 b13 b14 b15 b16 = cond (decide (Int.ofNat (m + 17) > 16)) (some (.int .i64 3, [some (.arr 19 [[.ptr 1 14 0 0, .bool b0, .bool b1, .bool b2, .bool b3, .bool b4, .bool b5, .bool b6, .bool b7, .bool b8, .bool b9, .bool b10, .bool b11, .bool b12, .bool b13, .bool b14, .bool b15, .bool b16, .nils]]), none])) none := by kernel_rfl
theorem L25_out {e : Int} (h : ¬ (1 ≤ e ∧ e ≤ 16)) (b0 b1 b2 b3 b4 b5 b6 b7 b8 b9 b10 b11 b12 b13 b14 b15 b16 : Bool) : L25 e b0 b1 b2 b3 b4 b5 b6 b7 b8 b9 b10 b11 b12 b13 b14 b15 b16 = [some (.arr 19 [[.ptr 1 14 0 0, .bool b0, .bool b1, .bool b2, .bool b3, .bool b4, .bool b5, .bool b6, .bool b7, .bool b8, .bool b9, .bool b10, .bool b11, .bool b12, .bool b13, .bool b14, .bool b15, .bool b16, .nils]]), none] := by
  unfold L25; simp only [hitB_out h]
def S25 : HS
  | [.ptr 0 19 0 0, .int .i64 e], [.arr 19 [[.ptr 1 14 0 0, .bool b0, .bool b1, .bool b2, .bool b3, .bool b4, .bool b5, .bool b6, .bool b7, .bool b8, .bool b9, .bool b10, .bool b11, .bool b12, .bool b13, .bool b14, .bool b15, .bool b16, .nils]], .arr 1 []] => some ([], .int .i64 (openC e [b0, b1, b2, b3, b4, b5, b6, b7, b8, b9, b10, b11, b12, b13, b14, b15, b16]), L25 e b0 b1 b2 b3 b4 b5 b6 b7 b8 b9 b10 b11 b12 b13 b14 b15 b16)
  | _, _ => none
theorem k25 (e : Int) (b0 b1 b2 b3 b4 b5 b6 b7 b8 b9 b10 b11 b12 b13 b14 b15 b16 : Bool) : ko25 e b0 b1 b2 b3 b4 b5 b6 b7 b8 b9 b10 b11 b12 b13 b14 b15 b16 = some (.int .i64 (openC e [b0, b1, b2, b3, b4, b5, b6, b7, b8, b9, b10, b11, b12, b13, b14, b15, b16]), L25 e b0 b1 b2 b3 b4 b5 b6 b7 b8 b9 b10 b11 b12 b13 b14 b15 b16) := by
  cases e with
  | negSucc m =>
    have h1 : Int.negSucc m < 1 := by omega
    rw [o25_n, decide_eq_true h1, cond_true, L25_out (by omega)]
    unfold openC; rw [decide_eq_true h1, cond_true]
  | ofNat n =>
    match n with
    | 0 => exact o25_0 b0 b1 b2 b3 b4 b5 b6 b7 b8 b9 b10 b11 b12 b13 b14 b15 b16
    | 1 => cases b1 with
      | true => exact o25_1t b0 b2 b3 b4 b5 b6 b7 b8 b9 b10 b11 b12 b13 b14 b15 b16
      | false => exact o25_1f b0 b2 b3 b4 b5 b6 b7 b8 b9 b10 b11 b12 b13 b14 b15 b16
    | 2 => cases b2 with
      | true => exact o25_2t b0 b1 b3 b4 b5 b6 b7 b8 b9 b10 b11 b12 b13 b14 b15 b16
      | false => exact o25_2f b0 b1 b3 b4 b5 b6 b7 b8 b9 b10 b11 b12 b13 b14 b15 b16
    | 3 => cases b3 with
      | true => exact o25_3t b0 b1 b2 b4 b5 b6 b7 b8 b9 b10 b11 b12 b13 b14 b15 b16
      | false => exact o25_3f b0 b1 b2 b4 b5 b6 b7 b8 b9 b10 b11 b12 b13 b14 b15 b16
    | 4 => cases b4 with
      | true => exact o25_4t b0 b1 b2 b3 b5 b6 b7 b8 b9 b10 b11 b12 b13 b14 b15 b16
      | false => exact o25_4f b0 b1 b2 b3 b5 b6 b7 b8 b9 b10 b11 b12 b13 b14 b15 b16
    | 5 => cases b5 with
      | true => exact o25_5t b0 b1 b2 b3 b4 b6 b7 b8 b9 b10 b11 b12 b13 b14 b15 b16
      | false => exact o25_5f b0 b1 b2 b3 b4 b6 b7 b8 b9 b10 b11 b12 b13 b14 b15 b16
    | 6 => cases b6 with
      | true => exact o25_6t b0 b1 b2 b3 b4 b5 b7 b8 b9 b10 b11 b12 b13 b14 b15 b16
      | false => exact o25_6f b0 b1 b2 b3 b4 b5 b7 b8 b9 b10 b11 b12 b13 b14 b15 b16
    | 7 => cases b7 with
      | true => exact o25_7t b0 b1 b2 b3 b4 b5 b6 b8 b9 b10 b11 b12 b13 b14 b15 b16
      | false => exact o25_7f b0 b1 b2 b3 b4 b5 b6 b8 b9 b10 b11 b12 b13 b14 b15 b16
    | 8 => cases b8 with
      | true => exact o25_8t b0 b1 b2 b3 b4 b5 b6 b7 b9 b10 b11 b12 b13 b14 b15 b16
      | false => exact o25_8f b0 b1 b2 b3 b4 b5 b6 b7 b9 b10 b11 b12 b13 b14 b15 b16
    | 9 => cases b9 with
      | true => exact o25_9t b0 b1 b2 b3 b4 b5 b6 b7 b8 b10 b11 b12 b13 b14 b15 b16
      | false => exact o25_9f b0 b1 b2 b3 b4 b5 b6 b7 b8 b10 b11 b12 b13 b14 b15 b16
    | 10 => cases b10 with
      | true => exact o25_10t b0 b1 b2 b3 b4 b5 b6 b7 b8 b9 b11 b12 b13 b14 b15 b16
      | false => exact o25_10f b0 b1 b2 b3 b4 b5 b6 b7 b8 b9 b11 b12 b13 b14 b15 b16
    | 11 => cases b11 with
      | true => exact o25_11t b0 b1 b2 b3 b4 b5 b6 b7 b8 b9 b10 b12 b13 b14 b15 b16
      | false => exact o25_11f b0 b1 b2 b3 b4 b5 b6 b7 b8 b9 b10 b12 b13 b14 b15 b16
    | 12 => cases b12 with
      | true => exact o25_12t b0 b1 b2 b3 b4 b5 b6 b7 b8 b9 b10 b11 b13 b14 b15 b16
      | false => exact o25_12f b0 b1 b2 b3 b4 b5 b6 b7 b8 b9 b10 b11 b13 b14 b15 b16
    | 13 => cases b13 with
      | true => exact o25_13t b0 b1 b2 b3 b4 b5 b6 b7 b8 b9 b10 b11 b12 b14 b15 b16
      | false => exact o25_13f b0 b1 b2 b3 b4 b5 b6 b7 b8 b9 b10 b11 b12 b14 b15 b16
    | 14 => cases b14 with
      | true => exact o25_14t b0 b1 b2 b3 b4 b5 b6 b7 b8 b9 b10 b11 b12 b13 b15 b16
      | false => exact o25_14f b0 b1 b2 b3 b4 b5 b6 b7 b8 b9 b10 b11 b12 b13 b15 b16
    | 15 => cases b15 with
      | true => exact o25_15t b0 b1 b2 b3 b4 b5 b6 b7 b8 b9 b10 b11 b12 b13 b14 b16
      | false => exact o25_15f b0 b1 b2 b3 b4 b5 b6 b7 b8 b9 b10 b11 b12 b13 b14 b16
    | 16 => cases b16 with
      | true => exact o25_16t b0 b1 b2 b3 b4 b5 b6 b7 b8 b9 b10 b11 b12 b13 b14 b15
      | false => exact o25_16f b0 b1 b2 b3 b4 b5 b6 b7 b8 b9 b10 b11 b12 b13 b14 b15
    | m + 17 =>
      have h1 : Int.ofNat (m + 17) > 16 := by rw [Int.ofNat_eq_natCast]; omega
      have h0 : ¬ Int.ofNat (m + 17) < 1 := by rw [Int.ofNat_eq_natCast]; omega
      rw [o25_p, decide_eq_true h1, cond_true, L25_out (fun k => by have := k.2; omega)]
      unfold openC; rw [decide_eq_false h0, cond_false, decide_eq_true h1, cond_true]
theorem sum25 : SumOk Go.Proofs.Tryz.prog 25 (heapS rhoA S25) := sumOk_heapF mixed ftok ttok ntok ot5_ok (lf := 1000000) (m := 30) (by
  intro a os cs v L h _
  unfold S25 at h
  split at h
  · cases h
    exact ⟨[0], 2, 2, k25 _ _ _ _ _ _ _ _ _ _ _ _ _ _ _ _ _ _⟩
  · cases h)
end
end Go.VM

namespace Go.VM
open Go
set_option maxRecDepth 1000000
noncomputable section
def L20 (e : Int) (b0 b1 b2 b3 b4 b5 b6 b7 b8 b9 b10 b11 b12 b13 b14 b15 b16 : Bool) : List (Option AO) := [none, some (.arr 19 [[.ptr 2 1 0 0, .bool (hitF e 0 b0), .bool (hitF e 1 b1), .bool (hitF e 2 b2), .bool (hitF e 3 b3), .bool (hitF e 4 b4), .bool (hitF e 5 b5), .bool (hitF e 6 b6), .bool (hitF e 7 b7), .bool (hitF e 8 b8), .bool (hitF e 9 b9), .bool (hitF e 10 b10), .bool (hitF e 11 b11), .bool (hitF e 12 b12), .bool (hitF e 13 b13), .bool (hitF e 14 b14), .bool (hitF e 15 b15), .bool (hitF e 16 b16), .nils]]), none]
abbrev ko20 (e : Int) (b0 b1 b2 b3 b4 b5 b6 b7 b8 b9 b10 b11 b12 b13 b14 b15 b16 : Bool) := funK ftc ttc ntc ot5 1000000 30 (.fn 20) [.ptr 0 1 0 0, .int .i64 e] (heap0 (room b0 b1 b2 b3 b4 b5 b6 b7 b8 b9 b10 b11 b12 b13 b14 b15 b16)) (fun u H1 => canonF [1] 3 3 3 u H1)
theorem o20_0 (b0 b1 b2 b3 b4 b5 b6 b7 b8 b9 b10 b11 b12 b13 b14 b15 b16 : Bool) : ko20 (.ofNat 0) b0 b1 b2 b3 b4 b5 b6 b7 b8 b9 b10 b11 b12 b13 b14 b15 b16 = some (.int .i64 9, L20 (.ofNat 0) b0 b1 b2 b3 b4 b5 b6 b7 b8 b9 b10 b11 b12 b13 b14 b15 b16) := by kernel_rfl
theorem o20_1t (b0 b2 b3 b4 b5 b6 b7 b8 b9 b10 b11 b12 b13 b14 b15 b16 : Bool) : ko20 (.ofNat 1) b0 true b2 b3 b4 b5 b6 b7 b8 b9 b10 b11 b12 b13 b14 b15 b16 = some (.int .i64 0, L20 (.ofNat 1) b0 true b2 b3 b4 b5 b6 b7 b8 b9 b10 b11 b12 b13 b14 b15 b16) := by kernel_rfl
theorem o20_1f (b0 b2 b3 b4 b5 b6 b7 b8 b9 b10 b11 b12 b13 b14 b15 b16 : Bool) : ko20 (.ofNat 1) b0 false b2 b3 b4 b5 b6 b7 b8 b9 b10 b11 b12 b13 b14 b15 b16 = some (.int .i64 9, L20 (.ofNat 1) b0 false b2 b3 b4 b5 b6 b7 b8 b9 b10 b11 b12 b13 b14 b15 b16) := by kernel_rfl
theorem o20_2t (b0 b1 b3 b4 b5 b6 b7 b8 b9 b10 b11 b12 b13 b14 b15 b16 : Bool) : ko20 (.ofNat 2) b0 b1 true b3 b4 b5 b6 b7 b8 b9 b10 b11 b12 b13 b14 b15 b16 = some (.int .i64 0, L20 (.ofNat 2) b0 b1 true b3 b4 b5 b6 b7 b8 b9 b10 b11 b12 b13 b14 b15 b16) := by kernel_rfl
theorem o20_2f (b0 b1 b3 b4 b5 b6 b7 b8 b9 b10 b11 b12 b13 b14 b15 b16 : Bool) : ko20 (.ofNat 2) b0 b1 false b3 b4 b5 b6 b7 b8 b9 b10 b11 b12 b13 b14 b15 b16 = some (.int .i64 9, L20 (.ofNat 2) b0 b1 false b3 b4 b5 b6 b7 b8 b9 b10 b11 b12 b13 b14 b15 b16) := by kernel_rfl
theorem o20_3t (b0 b1 b2 b4 b5 b6 b7 b8 b9 b10 b11 b12 b13 b14 b15 b16 : Bool) : ko20 (.ofNat 3) b0 b1 b2 true b4 b5 b6 b7 b8 b9 b10 b11 b12 b13 b14 b15 b16 = some (.int .i64 0, L20 (.ofNat 3) b0 b1 b2 true b4 b5 b6 b7 b8 b9 b10 b11 b12 b13 b14 b15 b16) := by kernel_rfl
theorem o20_3f (b0 b1 b2 b4 b5 b6 b7 b8 b9 b10 b11 b12 b13 b14 b15 b16 : Bool) : ko20 (.ofNat 3) b0 b1 b2 false b4 b5 b6 b7 b8 b9 b10 b11 b12 b13 b14 b15 b16 = some (.int .i64 9, L20 (.ofNat 3) b0 b1 b2 false b4 b5 b6 b7 b8 b9 b10 b11 b12 b13 b14 b15 b16) := by kernel_rfl
theorem o20_4t (b0 b1 b2 b3 b5 b6 b7 b8 b9 b10 b11 b12 b13 b14 b15 b16 : Bool) : ko20 (.ofNat 4) b0 b1 b2 b3 true b5 b6 b7 b8 b9 b10 b11 b12 b13 b14 b15 b16 = some (.int .i64 0, L20 (.ofNat 4) b0 b1 b2 b3 true b5 b6 b7 b8 b9 b10 b11 b12 b13 b14 b15 b16) := by kernel_rfl
theorem o20_4f (b0 b1 b2 b3 b5 b6 b7 b8 b9 b10 b11 b12 b13 b14 b15 b16 : Bool) : ko20 (.ofNat 4) b0 b1 b2 b3 false b5 b6 b7 b8 b9 b10 b11 b12 b13 b14 b15 b16 = some (.int .i64 9, L20 (.ofNat 4) b0 b1 b2 b3 false b5 b6 b7 b8 b9 b10 b11 b12 b13 b14 b15 b16) := by kernel_rfl
theorem o20_5t (b0 b1 b2 b3 b4 b6 b7 b8 b9 b10 b11 b12 b13 b14 b15 b16 : Bool) : ko20 (.ofNat 5) b0 b1 b2 b3 b4 true b6 b7 b8 b9 b10 b11 b12 b13 b14 b15 b16 = some (.int .i64 0, L20 (.ofNat 5) b0 b1 b2 b3 b4 true b6 b7 b8 b9 b10 b11 b12 b13 b14 b15 b16) := by kernel_rfl
theorem o20_5f (b0 b1 b2 b3 b4 b6 b7 b8 b9 b10 b11 b12 b13 b14 b15 b16 : Bool) : ko20 (.ofNat 5) b0 b1 b2 b3 b4 false b6 b7 b8 b9 b10 b11 b12 b13 b14 b15 b16 = some (.int .i64 9, L20 (.ofNat 5) b0 b1 b2 b3 b4 false b6 b7 b8 b9 b10 b11 b12 b13 b14 b15 b16) := by kernel_rfl
theorem o20_6t (b0 b1 b2 b3 b4 b5 b7 b8 b9 b10 b11 b12 b13 b14 b15 b16 : Bool) : ko20 (.ofNat 6) b0 b1 b2 b3 b4 b5 true b7 b8 b9 b10 b11 b12 b13 b14 b15 b16 = some (.int .i64 0, L20 (.ofNat 6) b0 b1 b2 b3 b4 b5 true b7 b8 b9 b10 b11 b12 b13 b14 b15 b16) := by kernel_rfl
theorem o20_6f (b0 b1 b2 b3 b4 b5 b7 b8 b9 b10 b11 b12 b13 b14 b15 b16 : Bool) : ko20 (.ofNat 6) b0 b1 b2 b3 b4 b5 false b7 b8 b9 b10 b11 b12 b13 b14 b15 b16 = some (.int .i64 9, L20 (.ofNat 6) b0 b1 b2 b3 b4 b5 false b7 b8 b9 b10 b11 b12 b13 b14 b15 b16) := by kernel_rfl
theorem o20_7t (b0 b1 b2 b3 b4 b5 b6 b8 b9 b10 b11 b12 b13 b14 b15 b16 : Bool) : ko20 (.ofNat 7) b0 b1 b2 b3 b4 b5 b6 true b8 b9 b10 b11 b12 b13 b14 b15 b16 = some (.int .i64 0, L20 (.ofNat 7) b0 b1 b2 b3 b4 b5 b6 true b8 b9 b10 b11 b12 b13 b14 b15 b16) := by kernel_rfl
theorem o20_7f (b0 b1 b2 b3 b4 b5 b6 b8 b9 b10 b11 b12 b13 b14 b15 b16 : Bool) : ko20 (.ofNat 7) b0 b1 b2 b3 b4 b5 b6 false b8 b9 b10 b11 b12 b13 b14 b15 b16 = some (.int .i64 9, L20 (.ofNat 7) b0 b1 b2 b3 b4 b5 b6 false b8 b9 b10 b11 b12 b13 b14 b15 b16) := by kernel_rfl
theorem o20_8t (b0 b1 b2 b3 b4 b5 b6 b7 b9 b10 b11 b12 b13 b14 b15 b16 : Bool) : ko20 (.ofNat 8) b0 b1 b2 b3 b4 b5 b6 b7 true b9 b10 b11 b12 b13 b14 b15 b16 = some (.int .i64 0, L20 (.ofNat 8) b0 b1 b2 b3 b4 b5 b6 b7 true b9 b10 b11 b12 b13 b14 b15 b16) := by kernel_rfl
theorem o20_8f (b0 b1 b2 b3 b4 b5 b6 b7 b9 b10 b11 b12 b13 b14 b15 b16 : Bool) : ko20 (.ofNat 8) b0 b1 b2 b3 b4 b5 b6 b7 false b9 b10 b11 b12 b13 b14 b15 b16 = some (.int .i64 9, L20 (.ofNat 8) b0 b1 b2 b3 b4 b5 b6 b7 false b9 b10 b11 b12 b13 b14 b15 b16) := by kernel_rfl
theorem o20_9t (b0 b1 b2 b3 b4 b5 b6 b7 b8 b10 b11 b12 b13 b14 b15 b16 : Bool) : ko20 (.ofNat 9) b0 b1 b2 b3 b4 b5 b6 b7 b8 true b10 b11 b12 b13 b14 b15 b16 = some (.int .i64 0, L20 (.ofNat 9) b0 b1 b2 b3 b4 b5 b6 b7 b8 true b10 b11 b12 b13 b14 b15 b16) := by kernel_rfl
theorem o20_9f (b0 b1 b2 b3 b4 b5 b6 b7 b8 b10 b11 b12 b13 b14 b15 b16 : Bool) : ko20 (.ofNat 9) b0 b1 b2 b3 b4 b5 b6 b7 b8 false b10 b11 b12 b13 b14 b15 b16 = some (.int .i64 9, L20 (.ofNat 9) b0 b1 b2 b3 b4 b5 b6 b7 b8 false b10 b11 b12 b13 b14 b15 b16) := by kernel_rfl
theorem o20_10t (b0 b1 b2 b3 b4 b5 b6 b7 b8 b9 b11 b12 b13 b14 b15 b16 : Bool) : ko20 (.ofNat 10) b0 b1 b2 b3 b4 b5 b6 b7 b8 b9 true b11 b12 b13 b14 b15 b16 = some (.int .i64 0, L20 (.ofNat 10) b0 b1 b2 b3 b4 b5 b6 b7 b8 b9 true b11 b12 b13 b14 b15 b16) := by kernel_rfl
theorem o20_10f (b0 b1 b2 b3 b4 b5 b6 b7 b8 b9 b11 b12 b13 b14 b15 b16 : Bool) : ko20 (.ofNat 10) b0 b1 b2 b3 b4 b5 b6 b7 b8 b9 false b11 b12 b13 b14 b15 b16 = some (.int .i64 9, L20 (.ofNat 10) b0 b1 b2 b3 b4 b5 b6 b7 b8 b9 false b11 b12 b13 b14 b15 b16) := by kernel_rfl
theorem o20_11t (b0 b1 b2 b3 b4 b5 b6 b7 b8 b9 b10 b12 b13 b14 b15 b16 : Bool) : ko20 (.ofNat 11) b0 b1 b2 b3 b4 b5 b6 b7 b8 b9 b10 true b12 b13 b14 b15 b16 = some (.int .i64 0, L20 (.ofNat 11) b0 b1 b2 b3 b4 b5 b6 b7 b8 b9 b10 true b12 b13 b14 b15 b16) := by kernel_rfl
theorem o20_11f (b0 b1 b2 b3 b4 b5 b6 b7 b8 b9 b10 b12 b13 b14 b15 b16 : Bool) : ko20 (.ofNat 11) b0 b1 b2 b3 b4 b5 b6 b7 b8 b9 b10 false b12 b13 b14 b15 b16 = some (.int .i64 9, L20 (.ofNat 11) b0 b1 b2 b3 b4 b5 b6 b7 b8 b9 b10 false b12 b13 b14 b15 b16) := by kernel_rfl
theorem o20_12t (b0 b1 b2 b3 b4 b5 b6 b7 b8 b9 b10 b11 b13 b14 b15 b16 : Bool) : ko20 (.ofNat 12) b0 b1 b2 b3 b4 b5 b6 b7 b8 b9 b10 b11 true b13 b14 b15 b16 = some (.int .i64 0, L20 (.ofNat 12) b0 b1 b2 b3 b4 b5 b6 b7 b8 b9 b10 b11 true b13 b14 b15 b16) := by kernel_rfl
theorem o20_12f (b0 b1 b2 b3 b4 b5 b6 b7 b8 b9 b10 b11 b13 b14 b15 b16 : Bool) : ko20 (.ofNat 12) b0 b1 b2 b3 b4 b5 b6 b7 b8 b9 b10 b11 false b13 b14 b15 b16 = some (.int .i64 9, L20 (.ofNat 12) b0 b1 b2 b3 b4 b5 b6 b7 b8 b9 b10 b11 false b13 b14 b15 b16) := by kernel_rfl
theorem o20_13t (b0 b1 b2 b3 b4 b5 b6 b7 b8 b9 b10 b11 b12 b14 b15 b16 : Bool) : ko20 (.ofNat 13) b0 b1 b2 b3 b4 b5 b6 b7 b8 b9 b10 b11 b12 true b14 b15 b16 = some (.int .i64 0, L20 (.ofNat 13) b0 b1 b2 b3 b4 b5 b6 b7 b8 b9 b10 b11 b12 true b14 b15 b16) := by kernel_rfl
theorem o20_13f (b0 b1 b2 b3 b4 b5 b6 b7 b8 b9 b10 b11 b12 b14 b15 b16 : Bool) : ko20 (.ofNat 13) b0 b1 b2 b3 b4 b5 b6 b7 b8 b9 b10 b11 b12 false b14 b15 b16 = some (.int .i64 9, L20 (.ofNat 13) b0 b1 b2 b3 b4 b5 b6 b7 b8 b9 b10 b11 b12 false b14 b15 b16) := by kernel_rfl
theorem o20_14t (b0 b1 b2 b3 b4 b5 b6 b7 b8 b9 b10 b11 b12 b13 b15 b16 : Bool) : ko20 (.ofNat 14) b0 b1 b2 b3 b4 b5 b6 b7 b8 b9 b10 b11 b12 b13 true b15 b16 = some (.int .i64 0, L20 (.ofNat 14) b0 b1 b2 b3 b4 b5 b6 b7 b8 b9 b10 b11 b12 b13 true b15 b16) := by kernel_rfl
theorem o20_14f (b0 b1 b2 b3 b4 b5 b6 b7 b8 b9 b10 b11 b12 b13 b15 b16 : Bool) : ko20 (.ofNat 14) b0 b1 b2 b3 b4 b5 b6 b7 b8 b9 b10 b11 b12 b13 false b15 b16 = some (.int .i64 9, L20 (.ofNat 14) b0 b1 b2 b3 b4 b5 b6 b7 b8 b9 b10 b11 b12 b13 false b15 b16) := by kernel_rfl
theorem o20_15t (b0 b1 b2 b3 b4 b5 b6 b7 b8 b9 b10 b11 b12 b13 b14 b16 : Bool) : ko20 (.ofNat 15) b0 b1 b2 b3 b4 b5 b6 b7 b8 b9 b10 b11 b12 b13 b14 true b16 = some (.int .i64 0, L20 (.ofNat 15) b0 b1 b2 b3 b4 b5 b6 b7 b8 b9 b10 b11 b12 b13 b14 true b16) := by kernel_rfl
theorem o20_15f (b0 b1 b2 b3 b4 b5 b6 b7 b8 b9 b10 b11 b12 b13 b14 b16 : Bool) : ko20 (.ofNat 15) b0 b1 b2 b3 b4 b5 b6 b7 b8 b9 b10 b11 b12 b13 b14 false b16 = some (.int .i64 9, L20 (.ofNat 15) b0 b1 b2 b3 b4 b5 b6 b7 b8 b9 b10 b11 b12 b13 b14 false b16) := by kernel_rfl
theorem o20_16t (b0 b1 b2 b3 b4 b5 b6 b7 b8 b9 b10 b11 b12 b13 b14 b15 : Bool) : ko20 (.ofNat 16) b0 b1 b2 b3 b4 b5 b6 b7 b8 b9 b10 b11 b12 b13 b14 b15 true = some (.int .i64 0, L20 (.ofNat 16) b0 b1 b2 b3 b4 b5 b6 b7 b8 b9 b10 b11 b12 b13 b14 b15 true) := by kernel_rfl
theorem o20_16f (b0 b1 b2 b3 b4 b5 b6 b7 b8 b9 b10 b11 b12 b13 b14 b15 : Bool) : ko20 (.ofNat 16) b0 b1 b2 b3 b4 b5 b6 b7 b8 b9 b10 b11 b12 b13 b14 b15 false = some (.int .i64 9, L20 (.ofNat 16) b0 b1 b2 b3 b4 b5 b6 b7 b8 b9 b10 b11 b12 b13 b14 b15 false) := by kernel_rfl
theorem o20_n (m : Nat) (b0 b1 b2 b3 b4 b5 b6 b7 b8 b9 b10 b11 b12 b13 b14 b15 b16 : Bool) : ko20 (.negSucc m) b0 b1 b2 b3 b4 b5 b6 b7 b8 b9 b10 b11 b12 b13 b14 b15 b16 = some (.int .i64 9, [none, some (.arr 19 [[.ptr 2 1 0 0, .bool b0, .bool b1, .bool b2, .bool b3, .bool b4, .bool b5, .bool b6, .bool b7, .bool b8, .bool b9, .bool b10, .bool b11, .bool b12, .bool b13, .bool b14, .bool b15, .bool b16, .nils]]), none]) := by kernel_rfl
theorem o20_p (m : Nat) (b0 b1 b2 b3 b4 b5 b6 b7 b8 b9 b10 b11 b12 b13 b14 b15 b16 : Bool) : ko20 (.ofNat (m + 17)) b0 b1 b2 b3 b4 b5 b6 b7 b8 b9 b10 b11 b12 b13 b14 b15 b16 = cond (decide (Int.ofNat (m + 17) > 0)) (some (.int .i64 9, [none, some (.arr 19 [[.ptr 2 1 0 0, .bool b0, .bool b1, .bool b2, .bool b3, .bool b4, .bool b5, .bool b6, .bool b7, .bool b8, .bool b9, .bool b10, .bool b11, .bool b12, .bool b13, .bool b14, .bool b15, .bool b16, .nils]]), none])) (some (.int .i64 9, [none, some (.arr 19 [[.ptr 2 1 0 0, .bool b0, .bool b1, .bool b2, .bool b3, .bool b4, .bool b5, .bool b6, .bool b7, .bool b8, .bool b9, .bool b10, .bool b11, .bool b12, .bool b13, .bool b14, .bool b15, .bool b16, .nils]]), none])) := by kernel_rfl
theorem L20_out {e : Int} (h : ¬ (1 ≤ e ∧ e ≤ 16)) (b0 b1 b2 b3 b4 b5 b6 b7 b8 b9 b10 b11 b12 b13 b14 b15 b16 : Bool) : L20 e b0 b1 b2 b3 b4 b5 b6 b7 b8 b9 b10 b11 b12 b13 b14 b15 b16 = [none, some (.arr 19 [[.ptr 2 1 0 0, .bool b0, .bool b1, .bool b2, .bool b3, .bool b4, .bool b5, .bool b6, .bool b7, .bool b8, .bool b9, .bool b10, .bool b11, .bool b12, .bool b13, .bool b14, .bool b15, .bool b16, .nils]]), none] := by
  unfold L20; simp only [hitF_out h]
def S20 : HS
  | [.ptr 0 1 0 0, .int .i64 e], [.arr 1 [[.ptr 1 19 0 0]], .arr 19 [[.ptr 2 1 0 0, .bool b0, .bool b1, .bool b2, .bool b3, .bool b4, .bool b5, .bool b6, .bool b7, .bool b8, .bool b9, .bool b10, .bool b11, .bool b12, .bool b13, .bool b14, .bool b15, .bool b16, .nils]], .arr 1 []] => some ([], .int .i64 (closeC e [b0, b1, b2, b3, b4, b5, b6, b7, b8, b9, b10, b11, b12, b13, b14, b15, b16]), L20 e b0 b1 b2 b3 b4 b5 b6 b7 b8 b9 b10 b11 b12 b13 b14 b15 b16)
  | _, _ => none
theorem k20 (e : Int) (b0 b1 b2 b3 b4 b5 b6 b7 b8 b9 b10 b11 b12 b13 b14 b15 b16 : Bool) : ko20 e b0 b1 b2 b3 b4 b5 b6 b7 b8 b9 b10 b11 b12 b13 b14 b15 b16 = some (.int .i64 (closeC e [b0, b1, b2, b3, b4, b5, b6, b7, b8, b9, b10, b11, b12, b13, b14, b15, b16]), L20 e b0 b1 b2 b3 b4 b5 b6 b7 b8 b9 b10 b11 b12 b13 b14 b15 b16) := by
  cases e with
  | negSucc m =>
    have h1 : Int.negSucc m < 1 := by omega
    rw [o20_n, L20_out (by omega)]
    unfold closeC; rw [decide_eq_true h1, cond_true]
  | ofNat n =>
    match n with
    | 0 => exact o20_0 b0 b1 b2 b3 b4 b5 b6 b7 b8 b9 b10 b11 b12 b13 b14 b15 b16
    | 1 => cases b1 with
      | true => exact o20_1t b0 b2 b3 b4 b5 b6 b7 b8 b9 b10 b11 b12 b13 b14 b15 b16
      | false => exact o20_1f b0 b2 b3 b4 b5 b6 b7 b8 b9 b10 b11 b12 b13 b14 b15 b16
    | 2 => cases b2 with
      | true => exact o20_2t b0 b1 b3 b4 b5 b6 b7 b8 b9 b10 b11 b12 b13 b14 b15 b16
      | false => exact o20_2f b0 b1 b3 b4 b5 b6 b7 b8 b9 b10 b11 b12 b13 b14 b15 b16
    | 3 => cases b3 with
      | true => exact o20_3t b0 b1 b2 b4 b5 b6 b7 b8 b9 b10 b11 b12 b13 b14 b15 b16
      | false => exact o20_3f b0 b1 b2 b4 b5 b6 b7 b8 b9 b10 b11 b12 b13 b14 b15 b16
    | 4 => cases b4 with
      | true => exact o20_4t b0 b1 b2 b3 b5 b6 b7 b8 b9 b10 b11 b12 b13 b14 b15 b16
      | false => exact o20_4f b0 b1 b2 b3 b5 b6 b7 b8 b9 b10 b11 b12 b13 b14 b15 b16
    | 5 => cases b5 with
      | true => exact o20_5t b0 b1 b2 b3 b4 b6 b7 b8 b9 b10 b11 b12 b13 b14 b15 b16
      | false => exact o20_5f b0 b1 b2 b3 b4 b6 b7 b8 b9 b10 b11 b12 b13 b14 b15 b16
    | 6 => cases b6 with
      | true => exact o20_6t b0 b1 b2 b3 b4 b5 b7 b8 b9 b10 b11 b12 b13 b14 b15 b16
      | false => exact o20_6f b0 b1 b2 b3 b4 b5 b7 b8 b9 b10 b11 b12 b13 b14 b15 b16
    | 7 => cases b7 with
      | true => exact o20_7t b0 b1 b2 b3 b4 b5 b6 b8 b9 b10 b11 b12 b13 b14 b15 b16
      | false => exact o20_7f b0 b1 b2 b3 b4 b5 b6 b8 b9 b10 b11 b12 b13 b14 b15 b16
    | 8 => cases b8 with
      | true => exact o20_8t b0 b1 b2 b3 b4 b5 b6 b7 b9 b10 b11 b12 b13 b14 b15 b16
      | false => exact o20_8f b0 b1 b2 b3 b4 b5 b6 b7 b9 b10 b11 b12 b13 b14 b15 b16
    | 9 => cases b9 with
      | true => exact o20_9t b0 b1 b2 b3 b4 b5 b6 b7 b8 b10 b11 b12 b13 b14 b15 b16
      | false => exact o20_9f b0 b1 b2 b3 b4 b5 b6 b7 b8 b10 b11 b12 b13 b14 b15 b16
    | 10 => cases b10 with
      | true => exact o20_10t b0 b1 b2 b3 b4 b5 b6 b7 b8 b9 b11 b12 b13 b14 b15 b16
      | false => exact o20_10f b0 b1 b2 b3 b4 b5 b6 b7 b8 b9 b11 b12 b13 b14 b15 b16
    | 11 => cases b11 with
      | true => exact o20_11t b0 b1 b2 b3 b4 b5 b6 b7 b8 b9 b10 b12 b13 b14 b15 b16
      | false => exact o20_11f b0 b1 b2 b3 b4 b5 b6 b7 b8 b9 b10 b12 b13 b14 b15 b16
    | 12 => cases b12 with
      | true => exact o20_12t b0 b1 b2 b3 b4 b5 b6 b7 b8 b9 b10 b11 b13 b14 b15 b16
      | false => exact o20_12f b0 b1 b2 b3 b4 b5 b6 b7 b8 b9 b10 b11 b13 b14 b15 b16
    | 13 => cases b13 with
      | true => exact o20_13t b0 b1 b2 b3 b4 b5 b6 b7 b8 b9 b10 b11 b12 b14 b15 b16
      | false => exact o20_13f b0 b1 b2 b3 b4 b5 b6 b7 b8 b9 b10 b11 b12 b14 b15 b16
    | 14 => cases b14 with
      | true => exact o20_14t b0 b1 b2 b3 b4 b5 b6 b7 b8 b9 b10 b11 b12 b13 b15 b16
      | false => exact o20_14f b0 b1 b2 b3 b4 b5 b6 b7 b8 b9 b10 b11 b12 b13 b15 b16
    | 15 => cases b15 with
      | true => exact o20_15t b0 b1 b2 b3 b4 b5 b6 b7 b8 b9 b10 b11 b12 b13 b14 b16
      | false => exact o20_15f b0 b1 b2 b3 b4 b5 b6 b7 b8 b9 b10 b11 b12 b13 b14 b16
    | 16 => cases b16 with
      | true => exact o20_16t b0 b1 b2 b3 b4 b5 b6 b7 b8 b9 b10 b11 b12 b13 b14 b15
      | false => exact o20_16f b0 b1 b2 b3 b4 b5 b6 b7 b8 b9 b10 b11 b12 b13 b14 b15
    | m + 17 =>
      have h1 : Int.ofNat (m + 17) > 16 := by rw [Int.ofNat_eq_natCast]; omega
      have h0 : ¬ Int.ofNat (m + 17) < 1 := by rw [Int.ofNat_eq_natCast]; omega
      rw [o20_p, cond_same, L20_out (fun k => by have := k.2; omega)]
      unfold closeC; rw [decide_eq_false h0, cond_false, decide_eq_true h1, cond_true]
theorem sum20 : SumOk Go.Proofs.Tryz.prog 20 (heapS rhoA S20) := sumOk_heapF mixed ftok ttok ntok ot5_ok (lf := 1000000) (m := 30) (by
  intro a os cs v L h _
  unfold S20 at h
  split at h
  · cases h
    exact ⟨[1], 3, 3, k20 _ _ _ _ _ _ _ _ _ _ _ _ _ _ _ _ _ _⟩
  · cases h)
end
end Go.VM

namespace Go.VM
open Go
set_option maxRecDepth 1000000
noncomputable section
def L23 (e : Int) (b0 b1 b2 b3 b4 b5 b6 b7 b8 b9 b10 b11 b12 b13 b14 b15 b16 : Bool) : List (Option AO) := [some (.arr 19 [[.ptr 1 14 0 0, .bool (hitF e 0 b0), .bool (hitF e 1 b1), .bool (hitF e 2 b2), .bool (hitF e 3 b3), .bool (hitF e 4 b4), .bool (hitF e 5 b5), .bool (hitF e 6 b6), .bool (hitF e 7 b7), .bool (hitF e 8 b8), .bool (hitF e 9 b9), .bool (hitF e 10 b10), .bool (hitF e 11 b11), .bool (hitF e 12 b12), .bool (hitF e 13 b13), .bool (hitF e 14 b14), .bool (hitF e 15 b15), .bool (hitF e 16 b16), .nils]]), none]
abbrev ko23 (e : Int) (b0 b1 b2 b3 b4 b5 b6 b7 b8 b9 b10 b11 b12 b13 b14 b15 b16 : Bool) := funK ftc ttc ntc ot5 1000000 30 (.fn 23) [.ptr 0 19 0 0, .int .i64 e] (heap0 (room2 b0 b1 b2 b3 b4 b5 b6 b7 b8 b9 b10 b11 b12 b13 b14 b15 b16)) (fun u H1 => canonF [0] 2 2 2 u H1)
theorem o23_0 (b0 b1 b2 b3 b4 b5 b6 b7 b8 b9 b10 b11 b12 b13 b14 b15 b16 : Bool) : ko23 (.ofNat 0) b0 b1 b2 b3 b4 b5 b6 b7 b8 b9 b10 b11 b12 b13 b14 b15 b16 = some (.int .i64 9, L23 (.ofNat 0) b0 b1 b2 b3 b4 b5 b6 b7 b8 b9 b10 b11 b12 b13 b14 b15 b16) := by kernel_rfl
theorem o23_1t (b0 b2 b3 b4 b5 b6 b7 b8 b9 b10 b11 b12 b13 b14 b15 b16 : Bool) : ko23 (.ofNat 1) b0 true b2 b3 b4 b5 b6 b7 b8 b9 b10 b11 b12 b13 b14 b15 b16 = some (.int .i64 0, L23 (.ofNat 1) b0 true b2 b3 b4 b5 b6 b7 b8 b9 b10 b11 b12 b13 b14 b15 b16) := by kernel_rfl
theorem o23_1f (b0 b2 b3 b4 b5 b6 b7 b8 b9 b10 b11 b12 b13 b14 b15 b16 : Bool) : ko23 (.ofNat 1) b0 false b2 b3 b4 b5 b6 b7 b8 b9 b10 b11 b12 b13 b14 b15 b16 = some (.int .i64 9, L23 (.ofNat 1) b0 false b2 b3 b4 b5 b6 b7 b8 b9 b10 b11 b12 b13 b14 b15 b16) := by kernel_rfl
theorem o23_2t (b0 b1 b3 b4 b5 b6 b7 b8 b9 b10 b11 b12 b13 b14 b15 b16 : Bool) : ko23 (.ofNat 2) b0 b1 true b3 b4 b5 b6 b7 b8 b9 b10 b11 b12 b13 b14 b15 b16 = some (.int .i64 0, L23 (.ofNat 2) b0 b1 true b3 b4 b5 b6 b7 b8 b9 b10 b11 b12 b13 b14 b15 b16) := by kernel_rfl
theorem o23_2f (b0 b1 b3 b4 b5 b6 b7 b8 b9 b10 b11 b12 b13 b14 b15 b16 : Bool) : ko23 (.ofNat 2) b0 b1 false b3 b4 b5 b6 b7 b8 b9 b10 b11 b12 b13 b14 b15 b16 = some (.int .i64 9, L23 (.ofNat 2) b0 b1 false b3 b4 b5 b6 b7 b8 b9 b10 b11 b12 b13 b14 b15 b16) := by kernel_rfl
theorem o23_3t (b0 b1 b2 b4 b5 b6 b7 b8 b9 b10 b11 b12 b13 b14 b15 b16 : Bool) : ko23 (.ofNat 3) b0 b1 b2 true b4 b5 b6 b7 b8 b9 b10 b11 b12 b13 b14 b15 b16 = some (.int .i64 0, L23 (.ofNat 3) b0 b1 b2 true b4 b5 b6 b7 b8 b9 b10 b11 b12 b13 b14 b15 b16) := by kernel_rfl
theorem o23_3f (b0 b1 b2 b4 b5 b6 b7 b8 b9 b10 b11 b12 b13 b14 b15 b16 : Bool) : ko23 (.ofNat 3) b0 b1 b2 false b4 b5 b6 b7 b8 b9 b10 b11 b12 b13 b14 b15 b16 = some (.int .i64 9, L23 (.ofNat 3) b0 b1 b2 false b4 b5 b6 b7 b8 b9 b10 b11 b12 b13 b14 b15 b16) := by kernel_rfl
theorem o23_4t (b0 b1 b2 b3 b5 b6 b7 b8 b9 b10 b11 b12 b13 b14 b15 b16 : Bool) : ko23 (.ofNat 4) b0 b1 b2 b3 true b5 b6 b7 b8 b9 b10 b11 b12 b13 b14 b15 b16 = some (.int .i64 0, L23 (.ofNat 4) b0 b1 b2 b3 true b5 b6 b7 b8 b9 b10 b11 b12 b13 b14 b15 b16) := by kernel_rfl
theorem o23_4f (b0 b1 b2 b3 b5 b6 b7 b8 b9 b10 b11 b12 b13 b14 b15 b16 : Bool) : ko23 (.ofNat 4) b0 b1 b2 b3 false b5 b6 b7 b8 b9 b10 b11 b12 b13 b14 b15 b16 = some (.int .i64 9, L23 (.ofNat 4) b0 b1 b2 b3 false b5 b6 b7 b8 b9 b10 b11 b12 b13 b14 b15 b16) := by kernel_rfl
theorem o23_5t (b0 b1 b2 b3 b4 b6 b7 b8 b9 b10 b11 b12 b13 b14 b15 b16 : Bool) : ko23 (.ofNat 5) b0 b1 b2 b3 b4 true b6 b7 b8 b9 b10 b11 b12 b13 b14 b15 b16 = some (.int .i64 0, L23 (.ofNat 5) b0 b1 b2 b3 b4 true b6 b7 b8 b9 b10 b11 b12 b13 b14 b15 b16) := by kernel_rfl
theorem o23_5f (b0 b1 b2 b3 b4 b6 b7 b8 b9 b10 b11 b12 b13 b14 b15 b16 : Bool) : ko23 (.ofNat 5) b0 b1 b2 b3 b4 false b6 b7 b8 b9 b10 b11 b12 b13 b14 b15 b16 = some (.int .i64 9, L23 (.ofNat 5) b0 b1 b2 b3 b4 false b6 b7 b8 b9 b10 b11 b12 b13 b14 b15 b16) := by kernel_rfl
theorem o23_6t (b0 b1 b2 b3 b4 b5 b7 b8 b9 b10 b11 b12 b13 b14 b15 b16 : Bool) : ko23 (.ofNat 6) b0 b1 b2 b3 b4 b5 true b7 b8 b9 b10 b11 b12 b13 b14 b15 b16 = some (.int .i64 0, L23 (.ofNat 6) b0 b1 b2 b3 b4 b5 true b7 b8 b9 b10 b11 b12 b13 b14 b15 b16) := by kernel_rfl
theorem o23_6f (b0 b1 b2 b3 b4 b5 b7 b8 b9 b10 b11 b12 b13 b14 b15 b16 : Bool) : ko23 (.ofNat 6) b0 b1 b2 b3 b4 b5 false b7 b8 b9 b10 b11 b12 b13 b14 b15 b16 = some (.int .i64 9, L23 (.ofNat 6) b0 b1 b2 b3 b4 b5 false b7 b8 b9 b10 b11 b12 b13 b14 b15 b16) := by kernel_rfl
theorem o23_7t (b0 b1 b2 b3 b4 b5 b6 b8 b9 b10 b11 b12 b13 b14 b15 b16 : Bool) : ko23 (.ofNat 7) b0 b1 b2 b3 b4 b5 b6 true b8 b9 b10 b11 b12 b13 b14 b15 b16 = some (.int .i64 0, L23 (.ofNat 7) b0 b1 b2 b3 b4 b5 b6 true b8 b9 b10 b11 b12 b13 b14 b15 b16) := by kernel_rfl
theorem o23_7f (b0 b1 b2 b3 b4 b5 b6 b8 b9 b10 b11 b12 b13 b14 b15 b16 : Bool) : ko23 (.ofNat 7) b0 b1 b2 b3 b4 b5 b6 false b8 b9 b10 b11 b12 b13 b14 b15 b16 = some (.int .i64 9, L23 (.ofNat 7) b0 b1 b2 b3 b4 b5 b6 false b8 b9 b10 b11 b12 b13 b14 b15 b16) := by kernel_rfl
theorem o23_8t (b0 b1 b2 b3 b4 b5 b6 b7 b9 b10 b11 b12 b13 b14 b15 b16 : Bool) : ko23 (.ofNat 8) b0 b1 b2 b3 b4 b5 b6 b7 true b9 b10 b11 b12 b13 b14 b15 b16 = some (.int .i64 0, L23 (.ofNat 8) b0 b1 b2 b3 b4 b5 b6 b7 true b9 b10 b11 b12 b13 b14 b15 b16) := by kernel_rfl
theorem o23_8f (b0 b1 b2 b3 b4 b5 b6 b7 b9 b10 b11 b12 b13 b14 b15 b16 : Bool) : ko23 (.ofNat 8) b0 b1 b2 b3 b4 b5 b6 b7 false b9 b10 b11 b12 b13 b14 b15 b16 = some (.int .i64 9, L23 (.ofNat 8) b0 b1 b2 b3 b4 b5 b6 b7 false b9 b10 b11 b12 b13 b14 b15 b16) := by kernel_rfl
theorem o23_9t (b0 b1 b2 b3 b4 b5 b6 b7 b8 b10 b11 b12 b13 b14 b15 b16 : Bool) : ko23 (.ofNat 9) b0 b1 b2 b3 b4 b5 b6 b7 b8 true b10 b11 b12 b13 b14 b15 b16 = some (.int .i64 0, L23 (.ofNat 9) b0 b1 b2 b3 b4 b5 b6 b7 b8 true b10 b11 b12 b13 b14 b15 b16) := by kernel_rfl
theorem o23_9f (b0 b1 b2 b3 b4 b5 b6 b7 b8 b10 b11 b12 b13 b14 b15 b16 : Bool) : ko23 (.ofNat 9) b0 b1 b2 b3 b4 b5 b6 b7 b8 false b10 b11 b12 b13 b14 b15 b16 = some (.int .i64 9, L23 (.ofNat 9) b0 b1 b2 b3 b4 b5 b6 b7 b8 false b10 b11 b12 b13 b14 b15 b16) := by kernel_rfl
theorem o23_10t (b0 b1 b2 b3 b4 b5 b6 b7 b8 b9 b11 b12 b13 b14 b15 b16 : Bool) : ko23 (.ofNat 10) b0 b1 b2 b3 b4 b5 b6 b7 b8 b9 true b11 b12 b13 b14 b15 b16 = some (.int .i64 0, L23 (.ofNat 10) b0 b1 b2 b3 b4 b5 b6 b7 b8 b9 true b11 b12 b13 b14 b15 b16) := by kernel_rfl
theorem o23_10f (b0 b1 b2 b3 b4 b5 b6 b7 b8 b9 b11 b12 b13 b14 b15 b16 : Bool) : ko23 (.ofNat 10) b0 b1 b2 b3 b4 b5 b6 b7 b8 b9 false b11 b12 b13 b14 b15 b16 = some (.int .i64 9, L23 (.ofNat 10) b0 b1 b2 b3 b4 b5 b6 b7 b8 b9 false b11 b12 b13 b14 b15 b16) := by kernel_rfl
theorem o23_11t (b0 b1 b2 b3 b4 b5 b6 b7 b8 b9 b10 b12 b13 b14 b15 b16 : Bool) : ko23 (.ofNat 11) b0 b1 b2 b3 b4 b5 b6 b7 b8 b9 b10 true b12 b13 b14 b15 b16 = some (.int .i64 0, L23 (.ofNat 11) b0 b1 b2 b3 b4 b5 b6 b7 b8 b9 b10 true b12 b13 b14 b15 b16) := by kernel_rfl
theorem o23_11f (b0 b1 b2 b3 b4 b5 b6 b7 b8 b9 b10 b12 b13 b14 b15 b16 : Bool) : ko23 (.ofNat 11) b0 b1 b2 b3 b4 b5 b6 b7 b8 b9 b10 false b12 b13 b14 b15 b16 = some (.int .i64 9, L23 (.ofNat 11) b0 b1 b2 b3 b4 b5 b6 b7 b8 b9 b10 false b12 b13 b14 b15 b16) := by kernel_rfl
theorem o23_12t (b0 b1 b2 b3 b4 b5 b6 b7 b8 b9 b10 b11 b13 b14 b15 b16 : Bool) : ko23 (.ofNat 12) b0 b1 b2 b3 b4 b5 b6 b7 b8 b9 b10 b11 true b13 b14 b15 b16 = some (.int .i64 0, L23 (.ofNat 12) b0 b1 b2 b3 b4 b5 b6 b7 b8 b9 b10 b11 true b13 b14 b15 b16) := by kernel_rfl
theorem o23_12f (b0 b1 b2 b3 b4 b5 b6 b7 b8 b9 b10 b11 b13 b14 b15 b16 : Bool) : ko23 (.ofNat 12) b0 b1 b2 b3 b4 b5 b6 b7 b8 b9 b10 b11 false b13 b14 b15 b16 = some (.int .i64 9, L23 (.ofNat 12) b0 b1 b2 b3 b4 b5 b6 b7 b8 b9 b10 b11 false b13 b14 b15 b16) := by kernel_rfl
theorem o23_13t (b0 b1 b2 b3 b4 b5 b6 b7 b8 b9 b10 b11 b12 b14 b15 b16 : Bool) : ko23 (.ofNat 13) b0 b1 b2 b3 b4 b5 b6 b7 b8 b9 b10 b11 b12 true b14 b15 b16 = some (.int .i64 0, L23 (.ofNat 13) b0 b1 b2 b3 b4 b5 b6 b7 b8 b9 b10 b11 b12 true b14 b15 b16) := by kernel_rfl
theorem o23_13f (b0 b1 b2 b3 b4 b5 b6 b7 b8 b9 b10 b11 b12 b14 b15 b16 : Bool) : ko23 (.ofNat 13) b0 b1 b2 b3 b4 b5 b6 b7 b8 b9 b10 b11 b12 false b14 b15 b16 = some (.int .i64 9, L23 (.ofNat 13) b0 b1 b2 b3 b4 b5 b6 b7 b8 b9 b10 b11 b12 false b14 b15 b16) := by kernel_rfl
theorem o23_14t (b0 b1 b2 b3 b4 b5 b6 b7 b8 b9 b10 b11 b12 b13 b15 b16 : Bool) : ko23 (.ofNat 14) b0 b1 b2 b3 b4 b5 b6 b7 b8 b9 b10 b11 b12 b13 true b15 b16 = some (.int .i64 0, L23 (.ofNat 14) b0 b1 b2 b3 b4 b5 b6 b7 b8 b9 b10 b11 b12 b13 true b15 b16) := by kernel_rfl
theorem o23_14f (b0 b1 b2 b3 b4 b5 b6 b7 b8 b9 b10 b11 b12 b13 b15 b16 : Bool) : ko23 (.ofNat 14) b0 b1 b2 b3 b4 b5 b6 b7 b8 b9 b10 b11 b12 b13 false b15 b16 = some (.int .i64 9, L23 (.ofNat 14) b0 b1 b2 b3 b4 b5 b6 b7 b8 b9 b10 b11 b12 b13 false b15 b16) := by kernel_rfl
theorem o23_15t (b0 b1 b2 b3 b4 b5 b6 b7 b8 b9 b10 b11 b12 b13 b14 b16 : Bool) : ko23 (.ofNat 15) b0 b1 b2 b3 b4 b5 b6 b7 b8 b9 b10 b11 b12 b13 b14 true b16 = some (.int .i64 0, L23 (.ofNat 15) b0 b1 b2 b3 b4 b5 b6 b7 b8 b9 b10 b11 b12 b13 b14 true b16) := by kernel_rfl
theorem o23_15f (b0 b1 b2 b3 b4 b5 b6 b7 b8 b9 b10 b11 b12 b13 b14 b16 : Bool) : ko23 (.ofNat 15) b0 b1 b2 b3 b4 b5 b6 b7 b8 b9 b10 b11 b12 b13 b14 false b16 = some (.int .i64 9, L23 (.ofNat 15) b0 b1 b2 b3 b4 b5 b6 b7 b8 b9 b10 b11 b12 b13 b14 false b16) := by kernel_rfl
theorem o23_16t (b0 b1 b2 b3 b4 b5 b6 b7 b8 b9 b10 b11 b12 b13 b14 b15 : Bool) : ko23 (.ofNat 16) b0 b1 b2 b3 b4 b5 b6 b7 b8 b9 b10 b11 b12 b13 b14 b15 true = some (.int .i64 0, L23 (.ofNat 16) b0 b1 b2 b3 b4 b5 b6 b7 b8 b9 b10 b11 b12 b13 b14 b15 true) := by kernel_rfl
theorem o23_16f (b0 b1 b2 b3 b4 b5 b6 b7 b8 b9 b10 b11 b12 b13 b14 b15 : Bool) : ko23 (.ofNat 16) b0 b1 b2 b3 b4 b5 b6 b7 b8 b9 b10 b11 b12 b13 b14 b15 false = some (.int .i64 9, L23 (.ofNat 16) b0 b1 b2 b3 b4 b5 b6 b7 b8 b9 b10 b11 b12 b13 b14 b15 false) := by kernel_rfl
theorem o23_n (m : Nat) (b0 b1 b2 b3 b4 b5 b6 b7 b8 b9 b10 b11 b12 b13 b14 b15 b16 : Bool) : ko23 (.negSucc m) b0 b1 b2 b3 b4 b5 b6 b7 b8 b9 b10 b11 b12 b13 b14 b15 b16 = some (.int .i64 9, [some (.arr 19 [[.ptr 1 14 0 0, .bool b0, .bool b1, .bool b2, .bool b3, .bool b4, .bool b5, .bool b6, .bool b7, .bool b8, .bool b9, .bool b10, .bool b11, .bool b12, .bool b13, .bool b14, .bool b15, .bool b16, .nils]]), none]) := by kernel_rfl
theorem o23_p (m : Nat) (b0 b1 b2 b3 b4 b5 b6 b7 b8 b9 b10 b11 b12 b13 b14 b15 b16 : Bool) : ko23 (.ofNat (m + 17)) b0 b1 b2 b3 b4 b5 b6 b7 b8 b9 b10 b11 b12 b13 b14 b15 b16 = cond (decide (Int.ofNat (m + 17) ≥ 1)) (some (.int .i64 9, [some (.arr 19 [[.ptr 1 14 0 0, .bool b0, .bool b1, .bool b2, .bool b3, .bool b4, .bool b5, .bool b6, .bool b7, .bool b8, .bool b9, .bool b10, .bool b11, .bool b12, .bool b13, .bool b14, .bool b15, .bool b16, .nils]]), none])) (some (.int .i64 9, [some (.arr 19 [[.ptr 1 14 0 0, .bool b0, .bool b1, .bool b2, .bool b3, .bool b4, .bool b5, .bool b6, .bool b7, .bool b8, .bool b9, .bool b10, .bool b11, .bool b12, .bool b13, .bool b14, .bool b15, .bool b16, .nils]]), none])) := by kernel_rfl
theorem L23_out {e : Int} (h : ¬ (1 ≤ e ∧ e ≤ 16)) (b0 b1 b2 b3 b4 b5 b6 b7 b8 b9 b10 b11 b12 b13 b14 b15 b16 : Bool) : L23 e b0 b1 b2 b3 b4 b5 b6 b7 b8 b9 b10 b11 b12 b13 b14 b15 b16 = [some (.arr 19 [[.ptr 1 14 0 0, .bool b0, .bool b1, .bool b2, .bool b3, .bool b4, .bool b5, .bool b6, .bool b7, .bool b8, .bool b9, .bool b10, .bool b11, .bool b12, .bool b13, .bool b14, .bool b15, .bool b16, .nils]]), none] := by
  unfold L23; simp only [hitF_out h]
def S23 : HS
  | [.ptr 0 19 0 0, .int .i64 e], [.arr 19 [[.ptr 1 14 0 0, .bool b0, .bool b1, .bool b2, .bool b3, .bool b4, .bool b5, .bool b6, .bool b7, .bool b8, .bool b9, .bool b10, .bool b11, .bool b12, .bool b13, .bool b14, .bool b15, .bool b16, .nils]], .arr 1 []] => some ([], .int .i64 (closeC e [b0, b1, b2, b3, b4, b5, b6, b7, b8, b9, b10, b11, b12, b13, b14, b15, b16]), L23 e b0 b1 b2 b3 b4 b5 b6 b7 b8 b9 b10 b11 b12 b13 b14 b15 b16)
  | _, _ => none
theorem k23 (e : Int) (b0 b1 b2 b3 b4 b5 b6 b7 b8 b9 b10 b11 b12 b13 b14 b15 b16 : Bool) : ko23 e b0 b1 b2 b3 b4 b5 b6 b7 b8 b9 b10 b11 b12 b13 b14 b15 b16 = some (.int .i64 (closeC e [b0, b1, b2, b3, b4, b5, b6, b7, b8, b9, b10, b11, b12, b13, b14, b15, b16]), L23 e b0 b1 b2 b3 b4 b5 b6 b7 b8 b9 b10 b11 b12 b13 b14 b15 b16) := by
  cases e with
  | negSucc m =>
    have h1 : Int.negSucc m < 1 := by omega
    rw [o23_n, L23_out (by omega)]
    unfold closeC; rw [decide_eq_true h1, cond_true]
  | ofNat n =>
    match n with
    | 0 => exact o23_0 b0 b1 b2 b3 b4 b5 b6 b7 b8 b9 b10 b11 b12 b13 b14 b15 b16
    | 1 => cases b1 with
      | true => exact o23_1t b0 b2 b3 b4 b5 b6 b7 b8 b9 b10 b11 b12 b13 b14 b15 b16
      | false => exact o23_1f b0 b2 b3 b4 b5 b6 b7 b8 b9 b10 b11 b12 b13 b14 b15 b16
    | 2 => cases b2 with
      | true => exact o23_2t b0 b1 b3 b4 b5 b6 b7 b8 b9 b10 b11 b12 b13 b14 b15 b16
      | false => exact o23_2f b0 b1 b3 b4 b5 b6 b7 b8 b9 b10 b11 b12 b13 b14 b15 b16
    | 3 => cases b3 with
      | true => exact o23_3t b0 b1 b2 b4 b5 b6 b7 b8 b9 b10 b11 b12 b13 b14 b15 b16
      | false => exact o23_3f b0 b1 b2 b4 b5 b6 b7 b8 b9 b10 b11 b12 b13 b14 b15 b16
    | 4 => cases b4 with
      | true => exact o23_4t b0 b1 b2 b3 b5 b6 b7 b8 b9 b10 b11 b12 b13 b14 b15 b16
      | false => exact o23_4f b0 b1 b2 b3 b5 b6 b7 b8 b9 b10 b11 b12 b13 b14 b15 b16
    | 5 => cases b5 with
      | true => exact o23_5t b0 b1 b2 b3 b4 b6 b7 b8 b9 b10 b11 b12 b13 b14 b15 b16
      | false => exact o23_5f b0 b1 b2 b3 b4 b6 b7 b8 b9 b10 b11 b12 b13 b14 b15 b16
    | 6 => cases b6 with
      | true => exact o23_6t b0 b1 b2 b3 b4 b5 b7 b8 b9 b10 b11 b12 b13 b14 b15 b16
      | false => exact o23_6f b0 b1 b2 b3 b4 b5 b7 b8 b9 b10 b11 b12 b13 b14 b15 b16
    | 7 => cases b7 with
      | true => exact o23_7t b0 b1 b2 b3 b4 b5 b6 b8 b9 b10 b11 b12 b13 b14 b15 b16
      | false => exact o23_7f b0 b1 b2 b3 b4 b5 b6 b8 b9 b10 b11 b12 b13 b14 b15 b16
    | 8 => cases b8 with
      | true => exact o23_8t b0 b1 b2 b3 b4 b5 b6 b7 b9 b10 b11 b12 b13 b14 b15 b16
      | false => exact o23_8f b0 b1 b2 b3 b4 b5 b6 b7 b9 b10 b11 b12 b13 b14 b15 b16
    | 9 => cases b9 with
      | true => exact o23_9t b0 b1 b2 b3 b4 b5 b6 b7 b8 b10 b11 b12 b13 b14 b15 b16
      | false => exact o23_9f b0 b1 b2 b3 b4 b5 b6 b7 b8 b10 b11 b12 b13 b14 b15 b16
    | 10 => cases b10 with
      | true => exact o23_10t b0 b1 b2 b3 b4 b5 b6 b7 b8 b9 b11 b12 b13 b14 b15 b16
      | false => exact o23_10f b0 b1 b2 b3 b4 b5 b6 b7 b8 b9 b11 b12 b13 b14 b15 b16
    | 11 => cases b11 with
      | true => exact o23_11t b0 b1 b2 b3 b4 b5 b6 b7 b8 b9 b10 b12 b13 b14 b15 b16
      | false => exact o23_11f b0 b1 b2 b3 b4 b5 b6 b7 b8 b9 b10 b12 b13 b14 b15 b16
    | 12 => cases b12 with
      | true => exact o23_12t b0 b1 b2 b3 b4 b5 b6 b7 b8 b9 b10 b11 b13 b14 b15 b16
      | false => exact o23_12f b0 b1 b2 b3 b4 b5 b6 b7 b8 b9 b10 b11 b13 b14 b15 b16
    | 13 => cases b13 with
      | true => exact o23_13t b0 b1 b2 b3 b4 b5 b6 b7 b8 b9 b10 b11 b12 b14 b15 b16
      | false => exact o23_13f b0 b1 b2 b3 b4 b5 b6 b7 b8 b9 b10 b11 b12 b14 b15 b16
    | 14 => cases b14 with
      | true => exact o23_14t b0 b1 b2 b3 b4 b5 b6 b7 b8 b9 b10 b11 b12 b13 b15 b16
      | false => exact o23_14f b0 b1 b2 b3 b4 b5 b6 b7 b8 b9 b10 b11 b12 b13 b15 b16
    | 15 => cases b15 with
      | true => exact o23_15t b0 b1 b2 b3 b4 b5 b6 b7 b8 b9 b10 b11 b12 b13 b14 b16
      | false => exact o23_15f b0 b1 b2 b3 b4 b5 b6 b7 b8 b9 b10 b11 b12 b13 b14 b16
    | 16 => cases b16 with
      | true => exact o23_16t b0 b1 b2 b3 b4 b5 b6 b7 b8 b9 b10 b11 b12 b13 b14 b15
      | false => exact o23_16f b0 b1 b2 b3 b4 b5 b6 b7 b8 b9 b10 b11 b12 b13 b14 b15
    | m + 17 =>
      have h1 : Int.ofNat (m + 17) > 16 := by rw [Int.ofNat_eq_natCast]; omega
      have h0 : ¬ Int.ofNat (m + 17) < 1 := by rw [Int.ofNat_eq_natCast]; omega
      rw [o23_p, cond_same, L23_out (fun k => by have := k.2; omega)]
      unfold closeC; rw [decide_eq_false h0, cond_false, decide_eq_true h1, cond_true]
theorem sum23 : SumOk Go.Proofs.Tryz.prog 23 (heapS rhoA S23) := sumOk_heapF mixed ftok ttok ntok ot5_ok (lf := 1000000) (m := 30) (by
  intro a os cs v L h _
  unfold S23 at h
  split at h
  · cases h
    exact ⟨[0], 2, 2, k23 _ _ _ _ _ _ _ _ _ _ _ _ _ _ _ _ _ _⟩
  · cases h)
end
end Go.VM

