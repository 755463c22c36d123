/- A part of the proof: N22. No condition. -/
import Derived.Test.YtchfpiimkmphjaaGreatN0
import Derived.KernelRfl
namespace Go.VM
open Go
set_option maxRecDepth 1000000
noncomputable section
def L22 : List (Option AO) := [some (.arr 19 [[.ptr 1 14 0 0, .bool false, .bool false, .bool false, .bool false, .bool false, .bool false, .bool false, .bool false, .bool false, .bool false, .bool false, .bool false, .bool false, .bool false, .bool false, .bool false, .bool false, .nils]]), some (.arr 1 [])]
def v22 : AV := .tup [.ptr 0 19 0 0, .int .i64 0]
abbrev kn22 (a b c n it : Int) (f g h : Bool) := funK ftc ttc ntc otY 1000000 30 (.fn 22) [.agg [.int .i64 a, .bool f, .int .i64 b, .bool g, .int .i64 c, .bool h, .int .i64 n, .int .i64 it]] (heap0 []) (fun u H1 => canonF [] 0 2 1 u H1)
abbrev cn22 (a b c n it : Int) (f g h : Bool) : List Bool := [inI a, inI b, inI c, okSt a f b g c h n it]
theorem n22_1 (a b c it : Int) (f g h : Bool) : kn22 a b c (.ofNat 1) it f g h = condAll (cn22 a b c (.ofNat 1) it f g h) (some (v22, L22)) := by kernel_rfl
theorem n22_2 (a b c it : Int) (f g h : Bool) : kn22 a b c (.ofNat 2) it f g h = condAll (cn22 a b c (.ofNat 2) it f g h) (some (v22, L22)) := by kernel_rfl
theorem n22_3 (a b c it : Int) (f g h : Bool) : kn22 a b c (.ofNat 3) it f g h = condAll (cn22 a b c (.ofNat 3) it f g h) (some (v22, L22)) := by kernel_rfl
theorem n22_4 (a b c it : Int) (f g h : Bool) : kn22 a b c (.ofNat 4) it f g h = condAll (cn22 a b c (.ofNat 4) it f g h) (some (v22, L22)) := by kernel_rfl
theorem n22_5 (a b c it : Int) (f g h : Bool) : kn22 a b c (.ofNat 5) it f g h = condAll (cn22 a b c (.ofNat 5) it f g h) (some (v22, L22)) := by kernel_rfl
theorem n22_6 (a b c it : Int) (f g h : Bool) : kn22 a b c (.ofNat 6) it f g h = condAll (cn22 a b c (.ofNat 6) it f g h) (some (v22, L22)) := by kernel_rfl
theorem n22_7 (a b c it : Int) (f g h : Bool) : kn22 a b c (.ofNat 7) it f g h = condAll (cn22 a b c (.ofNat 7) it f g h) (some (v22, L22)) := by kernel_rfl
theorem n22_8 (a b c it : Int) (f g h : Bool) : kn22 a b c (.ofNat 8) it f g h = condAll (cn22 a b c (.ofNat 8) it f g h) (some (v22, L22)) := by kernel_rfl
theorem n22_9 (a b c it : Int) (f g h : Bool) : kn22 a b c (.ofNat 9) it f g h = condAll (cn22 a b c (.ofNat 9) it f g h) (some (v22, L22)) := by kernel_rfl
theorem n22_10 (a b c it : Int) (f g h : Bool) : kn22 a b c (.ofNat 10) it f g h = condAll (cn22 a b c (.ofNat 10) it f g h) (some (v22, L22)) := by kernel_rfl
theorem n22_11 (a b c it : Int) (f g h : Bool) : kn22 a b c (.ofNat 11) it f g h = condAll (cn22 a b c (.ofNat 11) it f g h) (some (v22, L22)) := by kernel_rfl
theorem n22_12 (a b c it : Int) (f g h : Bool) : kn22 a b c (.ofNat 12) it f g h = condAll (cn22 a b c (.ofNat 12) it f g h) (some (v22, L22)) := by kernel_rfl
theorem n22_13 (a b c it : Int) (f g h : Bool) : kn22 a b c (.ofNat 13) it f g h = condAll (cn22 a b c (.ofNat 13) it f g h) (some (v22, L22)) := by kernel_rfl
theorem n22_14 (a b c it : Int) (f g h : Bool) : kn22 a b c (.ofNat 14) it f g h = condAll (cn22 a b c (.ofNat 14) it f g h) (some (v22, L22)) := by kernel_rfl
theorem n22_15 (a b c it : Int) (f g h : Bool) : kn22 a b c (.ofNat 15) it f g h = condAll (cn22 a b c (.ofNat 15) it f g h) (some (v22, L22)) := by kernel_rfl
theorem n22_16 (a b c it : Int) (f g h : Bool) : kn22 a b c (.ofNat 16) it f g h = condAll (cn22 a b c (.ofNat 16) it f g h) (some (v22, L22)) := by kernel_rfl
theorem n22_17 (a b c it : Int) (f g h : Bool) : kn22 a b c (.ofNat 17) it f g h = condAll (cn22 a b c (.ofNat 17) it f g h) (some (v22, L22)) := by kernel_rfl
theorem n22_18 (a b c it : Int) (f g h : Bool) : kn22 a b c (.ofNat 18) it f g h = condAll (cn22 a b c (.ofNat 18) it f g h) (some (v22, L22)) := by kernel_rfl
theorem n22_19 (a b c it : Int) (f g h : Bool) : kn22 a b c (.ofNat 19) it f g h = condAll (cn22 a b c (.ofNat 19) it f g h) (some (v22, L22)) := by kernel_rfl
theorem n22_20 (a b c it : Int) (f g h : Bool) : kn22 a b c (.ofNat 20) it f g h = condAll (cn22 a b c (.ofNat 20) it f g h) (some (v22, L22)) := by kernel_rfl
theorem n22_21 (a b c it : Int) (f g h : Bool) : kn22 a b c (.ofNat 21) it f g h = condAll (cn22 a b c (.ofNat 21) it f g h) (some (v22, L22)) := by kernel_rfl
theorem n22_22 (a b c it : Int) (f g h : Bool) : kn22 a b c (.ofNat 22) it f g h = condAll (cn22 a b c (.ofNat 22) it f g h) (some (v22, L22)) := by kernel_rfl
theorem n22_23 (a b c it : Int) (f g h : Bool) : kn22 a b c (.ofNat 23) it f g h = condAll (cn22 a b c (.ofNat 23) it f g h) (some (v22, L22)) := by kernel_rfl
theorem n22_24 (a b c it : Int) (f g h : Bool) : kn22 a b c (.ofNat 24) it f g h = condAll (cn22 a b c (.ofNat 24) it f g h) (some (v22, L22)) := by kernel_rfl
theorem n22_25 (a b c it : Int) (f g h : Bool) : kn22 a b c (.ofNat 25) it f g h = condAll (cn22 a b c (.ofNat 25) it f g h) (some (v22, L22)) := by kernel_rfl
theorem n22_26 (a b c it : Int) (f g h : Bool) : kn22 a b c (.ofNat 26) it f g h = condAll (cn22 a b c (.ofNat 26) it f g h) (some (v22, L22)) := by kernel_rfl
theorem n22_27 (a b c it : Int) (f g h : Bool) : kn22 a b c (.ofNat 27) it f g h = condAll (cn22 a b c (.ofNat 27) it f g h) (some (v22, L22)) := by kernel_rfl
theorem n22_28 (a b c it : Int) (f g h : Bool) : kn22 a b c (.ofNat 28) it f g h = condAll (cn22 a b c (.ofNat 28) it f g h) (some (v22, L22)) := by kernel_rfl
theorem n22_29 (a b c it : Int) (f g h : Bool) : kn22 a b c (.ofNat 29) it f g h = condAll (cn22 a b c (.ofNat 29) it f g h) (some (v22, L22)) := by kernel_rfl
theorem n22_30 (a b c it : Int) (f g h : Bool) : kn22 a b c (.ofNat 30) it f g h = condAll (cn22 a b c (.ofNat 30) it f g h) (some (v22, L22)) := by kernel_rfl
theorem n22_31 (a b c it : Int) (f g h : Bool) : kn22 a b c (.ofNat 31) it f g h = condAll (cn22 a b c (.ofNat 31) it f g h) (some (v22, L22)) := by kernel_rfl
theorem n22_32 (a b c it : Int) (f g h : Bool) : kn22 a b c (.ofNat 32) it f g h = condAll (cn22 a b c (.ofNat 32) it f g h) (some (v22, L22)) := by kernel_rfl
theorem n22_33 (a b c it : Int) (f g h : Bool) : kn22 a b c (.ofNat 33) it f g h = condAll (cn22 a b c (.ofNat 33) it f g h) (some (v22, L22)) := by kernel_rfl
theorem n22_34 (a b c it : Int) (f g h : Bool) : kn22 a b c (.ofNat 34) it f g h = condAll (cn22 a b c (.ofNat 34) it f g h) (some (v22, L22)) := by kernel_rfl
theorem n22_35 (a b c it : Int) (f g h : Bool) : kn22 a b c (.ofNat 35) it f g h = condAll (cn22 a b c (.ofNat 35) it f g h) (some (v22, L22)) := by kernel_rfl
theorem n22_36 (a b c it : Int) (f g h : Bool) : kn22 a b c (.ofNat 36) it f g h = condAll (cn22 a b c (.ofNat 36) it f g h) (some (v22, L22)) := by kernel_rfl
theorem n22_37 (a b c it : Int) (f g h : Bool) : kn22 a b c (.ofNat 37) it f g h = condAll (cn22 a b c (.ofNat 37) it f g h) (some (v22, L22)) := by kernel_rfl
theorem n22_38 (a b c it : Int) (f g h : Bool) : kn22 a b c (.ofNat 38) it f g h = condAll (cn22 a b c (.ofNat 38) it f g h) (some (v22, L22)) := by kernel_rfl
theorem n22_39 (a b c it : Int) (f g h : Bool) : kn22 a b c (.ofNat 39) it f g h = condAll (cn22 a b c (.ofNat 39) it f g h) (some (v22, L22)) := by kernel_rfl
theorem n22_40 (a b c it : Int) (f g h : Bool) : kn22 a b c (.ofNat 40) it f g h = condAll (cn22 a b c (.ofNat 40) it f g h) (some (v22, L22)) := by kernel_rfl
theorem n22_41 (a b c it : Int) (f g h : Bool) : kn22 a b c (.ofNat 41) it f g h = condAll (cn22 a b c (.ofNat 41) it f g h) (some (v22, L22)) := by kernel_rfl
theorem n22_42 (a b c it : Int) (f g h : Bool) : kn22 a b c (.ofNat 42) it f g h = condAll (cn22 a b c (.ofNat 42) it f g h) (some (v22, L22)) := by kernel_rfl
theorem n22_43 (a b c it : Int) (f g h : Bool) : kn22 a b c (.ofNat 43) it f g h = condAll (cn22 a b c (.ofNat 43) it f g h) (some (v22, L22)) := by kernel_rfl
theorem n22_44 (a b c it : Int) (f g h : Bool) : kn22 a b c (.ofNat 44) it f g h = condAll (cn22 a b c (.ofNat 44) it f g h) (some (v22, L22)) := by kernel_rfl
theorem n22_45 (a b c it : Int) (f g h : Bool) : kn22 a b c (.ofNat 45) it f g h = condAll (cn22 a b c (.ofNat 45) it f g h) (some (v22, L22)) := by kernel_rfl
theorem n22_46 (a b c it : Int) (f g h : Bool) : kn22 a b c (.ofNat 46) it f g h = condAll (cn22 a b c (.ofNat 46) it f g h) (some (v22, L22)) := by kernel_rfl
theorem n22_47 (a b c it : Int) (f g h : Bool) : kn22 a b c (.ofNat 47) it f g h = condAll (cn22 a b c (.ofNat 47) it f g h) (some (v22, L22)) := by kernel_rfl
theorem n22_48 (a b c it : Int) (f g h : Bool) : kn22 a b c (.ofNat 48) it f g h = condAll (cn22 a b c (.ofNat 48) it f g h) (some (v22, L22)) := by kernel_rfl
theorem n22_49 (a b c it : Int) (f g h : Bool) : kn22 a b c (.ofNat 49) it f g h = condAll (cn22 a b c (.ofNat 49) it f g h) (some (v22, L22)) := by kernel_rfl
theorem n22_50 (a b c it : Int) (f g h : Bool) : kn22 a b c (.ofNat 50) it f g h = condAll (cn22 a b c (.ofNat 50) it f g h) (some (v22, L22)) := by kernel_rfl
theorem n22_51 (a b c it : Int) (f g h : Bool) : kn22 a b c (.ofNat 51) it f g h = condAll (cn22 a b c (.ofNat 51) it f g h) (some (v22, L22)) := by kernel_rfl
theorem n22_52 (a b c it : Int) (f g h : Bool) : kn22 a b c (.ofNat 52) it f g h = condAll (cn22 a b c (.ofNat 52) it f g h) (some (v22, L22)) := by kernel_rfl
theorem n22_53 (a b c it : Int) (f g h : Bool) : kn22 a b c (.ofNat 53) it f g h = condAll (cn22 a b c (.ofNat 53) it f g h) (some (v22, L22)) := by kernel_rfl
theorem n22_54 (a b c it : Int) (f g h : Bool) : kn22 a b c (.ofNat 54) it f g h = condAll (cn22 a b c (.ofNat 54) it f g h) (some (v22, L22)) := by kernel_rfl
theorem n22_55 (a b c it : Int) (f g h : Bool) : kn22 a b c (.ofNat 55) it f g h = condAll (cn22 a b c (.ofNat 55) it f g h) (some (v22, L22)) := by kernel_rfl
theorem n22_56 (a b c it : Int) (f g h : Bool) : kn22 a b c (.ofNat 56) it f g h = condAll (cn22 a b c (.ofNat 56) it f g h) (some (v22, L22)) := by kernel_rfl
theorem n22_57 (a b c it : Int) (f g h : Bool) : kn22 a b c (.ofNat 57) it f g h = condAll (cn22 a b c (.ofNat 57) it f g h) (some (v22, L22)) := by kernel_rfl
theorem n22_58 (a b c it : Int) (f g h : Bool) : kn22 a b c (.ofNat 58) it f g h = condAll (cn22 a b c (.ofNat 58) it f g h) (some (v22, L22)) := by kernel_rfl
theorem n22_59 (a b c it : Int) (f g h : Bool) : kn22 a b c (.ofNat 59) it f g h = condAll (cn22 a b c (.ofNat 59) it f g h) (some (v22, L22)) := by kernel_rfl
theorem n22_60 (a b c it : Int) (f g h : Bool) : kn22 a b c (.ofNat 60) it f g h = condAll (cn22 a b c (.ofNat 60) it f g h) (some (v22, L22)) := by kernel_rfl
theorem n22_61 (a b c it : Int) (f g h : Bool) : kn22 a b c (.ofNat 61) it f g h = condAll (cn22 a b c (.ofNat 61) it f g h) (some (v22, L22)) := by kernel_rfl
theorem n22_62 (a b c it : Int) (f g h : Bool) : kn22 a b c (.ofNat 62) it f g h = condAll (cn22 a b c (.ofNat 62) it f g h) (some (v22, L22)) := by kernel_rfl
theorem n22_63 (a b c it : Int) (f g h : Bool) : kn22 a b c (.ofNat 63) it f g h = condAll (cn22 a b c (.ofNat 63) it f g h) (some (v22, L22)) := by kernel_rfl
theorem n22_64 (a b c it : Int) (f g h : Bool) : kn22 a b c (.ofNat 64) it f g h = condAll (cn22 a b c (.ofNat 64) it f g h) (some (v22, L22)) := by kernel_rfl
def S22y : HS
  | [.agg [.int .i64 a, .bool f, .int .i64 b, .bool g, .int .i64 c, .bool h, .int .i64 n, .int .i64 it]], [] => some (cn22 a b c n it f g h, v22, L22)
  | _, _ => none
theorem r22y (a b c n it : Int) (f g h : Bool) (hc : allB (cn22 a b c n it f g h) = true) : kn22 a b c n it f g h = some (v22, L22) := by
  have h0 := hc
  obtain ⟨_, h1⟩ := allB_cons h0
  obtain ⟨_, h1⟩ := allB_cons h1
  obtain ⟨_, h1⟩ := allB_cons h1
  obtain ⟨h1, _⟩ := allB_cons h1
  have h2 := (okSt_iff.1 h1).2.2.2.2.1
  clear h0 h1
  match n, h2, hc with
  | .ofNat 1, _, hc => exact (n22_1 a b c it f g h).trans (condAll_ok hc)
  | .ofNat 2, _, hc => exact (n22_2 a b c it f g h).trans (condAll_ok hc)
  | .ofNat 3, _, hc => exact (n22_3 a b c it f g h).trans (condAll_ok hc)
  | .ofNat 4, _, hc => exact (n22_4 a b c it f g h).trans (condAll_ok hc)
  | .ofNat 5, _, hc => exact (n22_5 a b c it f g h).trans (condAll_ok hc)
  | .ofNat 6, _, hc => exact (n22_6 a b c it f g h).trans (condAll_ok hc)
  | .ofNat 7, _, hc => exact (n22_7 a b c it f g h).trans (condAll_ok hc)
  | .ofNat 8, _, hc => exact (n22_8 a b c it f g h).trans (condAll_ok hc)
  | .ofNat 9, _, hc => exact (n22_9 a b c it f g h).trans (condAll_ok hc)
  | .ofNat 10, _, hc => exact (n22_10 a b c it f g h).trans (condAll_ok hc)
  | .ofNat 11, _, hc => exact (n22_11 a b c it f g h).trans (condAll_ok hc)
  | .ofNat 12, _, hc => exact (n22_12 a b c it f g h).trans (condAll_ok hc)
  | .ofNat 13, _, hc => exact (n22_13 a b c it f g h).trans (condAll_ok hc)
  | .ofNat 14, _, hc => exact (n22_14 a b c it f g h).trans (condAll_ok hc)
  | .ofNat 15, _, hc => exact (n22_15 a b c it f g h).trans (condAll_ok hc)
  | .ofNat 16, _, hc => exact (n22_16 a b c it f g h).trans (condAll_ok hc)
  | .ofNat 17, _, hc => exact (n22_17 a b c it f g h).trans (condAll_ok hc)
  | .ofNat 18, _, hc => exact (n22_18 a b c it f g h).trans (condAll_ok hc)
  | .ofNat 19, _, hc => exact (n22_19 a b c it f g h).trans (condAll_ok hc)
  | .ofNat 20, _, hc => exact (n22_20 a b c it f g h).trans (condAll_ok hc)
  | .ofNat 21, _, hc => exact (n22_21 a b c it f g h).trans (condAll_ok hc)
  | .ofNat 22, _, hc => exact (n22_22 a b c it f g h).trans (condAll_ok hc)
  | .ofNat 23, _, hc => exact (n22_23 a b c it f g h).trans (condAll_ok hc)
  | .ofNat 24, _, hc => exact (n22_24 a b c it f g h).trans (condAll_ok hc)
  | .ofNat 25, _, hc => exact (n22_25 a b c it f g h).trans (condAll_ok hc)
  | .ofNat 26, _, hc => exact (n22_26 a b c it f g h).trans (condAll_ok hc)
  | .ofNat 27, _, hc => exact (n22_27 a b c it f g h).trans (condAll_ok hc)
  | .ofNat 28, _, hc => exact (n22_28 a b c it f g h).trans (condAll_ok hc)
  | .ofNat 29, _, hc => exact (n22_29 a b c it f g h).trans (condAll_ok hc)
  | .ofNat 30, _, hc => exact (n22_30 a b c it f g h).trans (condAll_ok hc)
  | .ofNat 31, _, hc => exact (n22_31 a b c it f g h).trans (condAll_ok hc)
  | .ofNat 32, _, hc => exact (n22_32 a b c it f g h).trans (condAll_ok hc)
  | .ofNat 33, _, hc => exact (n22_33 a b c it f g h).trans (condAll_ok hc)
  | .ofNat 34, _, hc => exact (n22_34 a b c it f g h).trans (condAll_ok hc)
  | .ofNat 35, _, hc => exact (n22_35 a b c it f g h).trans (condAll_ok hc)
  | .ofNat 36, _, hc => exact (n22_36 a b c it f g h).trans (condAll_ok hc)
  | .ofNat 37, _, hc => exact (n22_37 a b c it f g h).trans (condAll_ok hc)
  | .ofNat 38, _, hc => exact (n22_38 a b c it f g h).trans (condAll_ok hc)
  | .ofNat 39, _, hc => exact (n22_39 a b c it f g h).trans (condAll_ok hc)
  | .ofNat 40, _, hc => exact (n22_40 a b c it f g h).trans (condAll_ok hc)
  | .ofNat 41, _, hc => exact (n22_41 a b c it f g h).trans (condAll_ok hc)
  | .ofNat 42, _, hc => exact (n22_42 a b c it f g h).trans (condAll_ok hc)
  | .ofNat 43, _, hc => exact (n22_43 a b c it f g h).trans (condAll_ok hc)
  | .ofNat 44, _, hc => exact (n22_44 a b c it f g h).trans (condAll_ok hc)
  | .ofNat 45, _, hc => exact (n22_45 a b c it f g h).trans (condAll_ok hc)
  | .ofNat 46, _, hc => exact (n22_46 a b c it f g h).trans (condAll_ok hc)
  | .ofNat 47, _, hc => exact (n22_47 a b c it f g h).trans (condAll_ok hc)
  | .ofNat 48, _, hc => exact (n22_48 a b c it f g h).trans (condAll_ok hc)
  | .ofNat 49, _, hc => exact (n22_49 a b c it f g h).trans (condAll_ok hc)
  | .ofNat 50, _, hc => exact (n22_50 a b c it f g h).trans (condAll_ok hc)
  | .ofNat 51, _, hc => exact (n22_51 a b c it f g h).trans (condAll_ok hc)
  | .ofNat 52, _, hc => exact (n22_52 a b c it f g h).trans (condAll_ok hc)
  | .ofNat 53, _, hc => exact (n22_53 a b c it f g h).trans (condAll_ok hc)
  | .ofNat 54, _, hc => exact (n22_54 a b c it f g h).trans (condAll_ok hc)
  | .ofNat 55, _, hc => exact (n22_55 a b c it f g h).trans (condAll_ok hc)
  | .ofNat 56, _, hc => exact (n22_56 a b c it f g h).trans (condAll_ok hc)
  | .ofNat 57, _, hc => exact (n22_57 a b c it f g h).trans (condAll_ok hc)
  | .ofNat 58, _, hc => exact (n22_58 a b c it f g h).trans (condAll_ok hc)
  | .ofNat 59, _, hc => exact (n22_59 a b c it f g h).trans (condAll_ok hc)
  | .ofNat 60, _, hc => exact (n22_60 a b c it f g h).trans (condAll_ok hc)
  | .ofNat 61, _, hc => exact (n22_61 a b c it f g h).trans (condAll_ok hc)
  | .ofNat 62, _, hc => exact (n22_62 a b c it f g h).trans (condAll_ok hc)
  | .ofNat 63, _, hc => exact (n22_63 a b c it f g h).trans (condAll_ok hc)
  | .ofNat 64, _, hc => exact (n22_64 a b c it f g h).trans (condAll_ok hc)
  | .ofNat 0, h2, _ => exact absurd h2.1 (by decide)
  | .ofNat (m + 65), h2, _ => have h3 := h2.2; rw [Int.ofNat_eq_natCast] at h3; omega
  | .negSucc m, h2, _ => have := h2.1; omega
theorem sum22y : SumOk Go.Proofs.Tryz.prog 22 (heapS rhoA S22y) := sumOk_heapF mixed ftok ttok ntok otY_ok (lf := 1000000) (m := 30) (by
  intro a os cs v L h hcs
  unfold S22y at h
  split at h
  · cases h
    exact ⟨[], 2, 1, r22y _ _ _ _ _ _ _ _ hcs⟩
  · cases h)
abbrev cx22 (a b c n it : Int) (f g h : Bool) : List Bool := [inI a, inI b, inI c, !okSt a f b g c h n it]
theorem x22 (a b c n it : Int) (f g h : Bool) : funK ftc ttc ntc otN 1000000 30 (.fn 22) [.agg [.int .i64 a, .bool f, .int .i64 b, .bool g, .int .i64 c, .bool h, .int .i64 n, .int .i64 it]] (heap0 []) (fun u H1 => canonF [] 0 0 0 u H1) = condAll (cx22 a b c n it f g h) (some (.tup [.nilp, .int .i64 3], [])) := by kernel_rfl
def S22n : HS
  | [.agg [.int .i64 a, .bool f, .int .i64 b, .bool g, .int .i64 c, .bool h, .int .i64 n, .int .i64 it]], [] => some (cx22 a b c n it f g h, .tup [.nilp, .int .i64 3], [])
  | _, _ => none
theorem sum22n : SumOk Go.Proofs.Tryz.prog 22 (heapS rhoA S22n) := sumOk_heapF mixed ftok ttok ntok otN_ok (lf := 1000000) (m := 30) (by
  intro a os cs v L h hcs
  unfold S22n at h
  split at h
  · cases h
    exact ⟨[], 0, 0, (x22 _ _ _ _ _ _ _ _).trans (condAll_ok hcs)⟩
  · cases h)
end
end Go.VM

