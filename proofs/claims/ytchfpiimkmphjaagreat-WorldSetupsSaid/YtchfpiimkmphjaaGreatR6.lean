/- A part of the proof: R6. No condition. -/
import Derived.Test.YtchfpiimkmphjaaGreatO6
namespace Go.VM
open Go
set_option maxRecDepth 1000000
noncomputable section
abbrev c6 (a b c n it : Int) (f g h : Bool) : List Bool := [inI a, inI b, inI c, okSt a f b g c h n it]
abbrev x6 (a b c n it : Int) (f g h : Bool) : List Bool := [inI a, inI b, inI c, !okSt a f b g c h n it]
abbrev WT := Int → Int → Int → Int → Int → ByteArray
def fin6 (W : WT) (a b c n it : Int) (f g h : Bool) : Option AV := cond ((W a b c n it).toList == (W a b c n it).toList) (cond (((a == a && (f == f && true)) && ((b == b && (g == g && true)) && true)) && ((c == c && (h == h && true)) && (n == n && (it == it && true)))) (some (.bool true)) (some (.bool false))) (some (.bool false))
theorem fin6_eq (W : WT) (a b c n it : Int) (f g h : Bool) : fin6 W a b c n it f g h = some (.bool true) := by
  unfold fin6
  simp
abbrev k6 (W : WT) (a b c n it : Int) (f g h : Bool) : Option AV := funK ftc ttc ntc (ot6L W) 1000000 200 (.fn 6) [.agg [.int .i64 a, .bool f, .int .i64 b, .bool g, .int .i64 c, .bool h, .int .i64 n, .int .i64 it]] H0 (fun v _ => some v)
abbrev t6 (W : WT) (a b c n it : Int) (f g h : Bool) : Option AV := condAll (c6 a b c n it f g h) (condAll (c6 a b c n it f g h) (condAll (c6 a b c n it f g h) (condAll (c6 a b c n it f g h) (fin6 W a b c n it f g h))))
theorem r6_1 (W : WT) (a b c it : Int) (f g h : Bool) : k6 W a b c (.ofNat 1) it f g h = t6 W a b c (.ofNat 1) it f g h := by kernel_rfl
theorem r6_2 (W : WT) (a b c it : Int) (f g h : Bool) : k6 W a b c (.ofNat 2) it f g h = t6 W a b c (.ofNat 2) it f g h := by kernel_rfl
theorem r6_3 (W : WT) (a b c it : Int) (f g h : Bool) : k6 W a b c (.ofNat 3) it f g h = t6 W a b c (.ofNat 3) it f g h := by kernel_rfl
theorem r6_4 (W : WT) (a b c it : Int) (f g h : Bool) : k6 W a b c (.ofNat 4) it f g h = t6 W a b c (.ofNat 4) it f g h := by kernel_rfl
theorem r6_5 (W : WT) (a b c it : Int) (f g h : Bool) : k6 W a b c (.ofNat 5) it f g h = t6 W a b c (.ofNat 5) it f g h := by kernel_rfl
theorem r6_6 (W : WT) (a b c it : Int) (f g h : Bool) : k6 W a b c (.ofNat 6) it f g h = t6 W a b c (.ofNat 6) it f g h := by kernel_rfl
theorem r6_7 (W : WT) (a b c it : Int) (f g h : Bool) : k6 W a b c (.ofNat 7) it f g h = t6 W a b c (.ofNat 7) it f g h := by kernel_rfl
theorem r6_8 (W : WT) (a b c it : Int) (f g h : Bool) : k6 W a b c (.ofNat 8) it f g h = t6 W a b c (.ofNat 8) it f g h := by kernel_rfl
theorem r6_9 (W : WT) (a b c it : Int) (f g h : Bool) : k6 W a b c (.ofNat 9) it f g h = t6 W a b c (.ofNat 9) it f g h := by kernel_rfl
theorem r6_10 (W : WT) (a b c it : Int) (f g h : Bool) : k6 W a b c (.ofNat 10) it f g h = t6 W a b c (.ofNat 10) it f g h := by kernel_rfl
theorem r6_11 (W : WT) (a b c it : Int) (f g h : Bool) : k6 W a b c (.ofNat 11) it f g h = t6 W a b c (.ofNat 11) it f g h := by kernel_rfl
theorem r6_12 (W : WT) (a b c it : Int) (f g h : Bool) : k6 W a b c (.ofNat 12) it f g h = t6 W a b c (.ofNat 12) it f g h := by kernel_rfl
theorem r6_13 (W : WT) (a b c it : Int) (f g h : Bool) : k6 W a b c (.ofNat 13) it f g h = t6 W a b c (.ofNat 13) it f g h := by kernel_rfl
theorem r6_14 (W : WT) (a b c it : Int) (f g h : Bool) : k6 W a b c (.ofNat 14) it f g h = t6 W a b c (.ofNat 14) it f g h := by kernel_rfl
theorem r6_15 (W : WT) (a b c it : Int) (f g h : Bool) : k6 W a b c (.ofNat 15) it f g h = t6 W a b c (.ofNat 15) it f g h := by kernel_rfl
theorem r6_16 (W : WT) (a b c it : Int) (f g h : Bool) : k6 W a b c (.ofNat 16) it f g h = t6 W a b c (.ofNat 16) it f g h := by kernel_rfl
theorem r6_17 (W : WT) (a b c it : Int) (f g h : Bool) : k6 W a b c (.ofNat 17) it f g h = t6 W a b c (.ofNat 17) it f g h := by kernel_rfl
theorem r6_18 (W : WT) (a b c it : Int) (f g h : Bool) : k6 W a b c (.ofNat 18) it f g h = t6 W a b c (.ofNat 18) it f g h := by kernel_rfl
theorem r6_19 (W : WT) (a b c it : Int) (f g h : Bool) : k6 W a b c (.ofNat 19) it f g h = t6 W a b c (.ofNat 19) it f g h := by kernel_rfl
theorem r6_20 (W : WT) (a b c it : Int) (f g h : Bool) : k6 W a b c (.ofNat 20) it f g h = t6 W a b c (.ofNat 20) it f g h := by kernel_rfl
theorem r6_21 (W : WT) (a b c it : Int) (f g h : Bool) : k6 W a b c (.ofNat 21) it f g h = t6 W a b c (.ofNat 21) it f g h := by kernel_rfl
theorem r6_22 (W : WT) (a b c it : Int) (f g h : Bool) : k6 W a b c (.ofNat 22) it f g h = t6 W a b c (.ofNat 22) it f g h := by kernel_rfl
theorem r6_23 (W : WT) (a b c it : Int) (f g h : Bool) : k6 W a b c (.ofNat 23) it f g h = t6 W a b c (.ofNat 23) it f g h := by kernel_rfl
theorem r6_24 (W : WT) (a b c it : Int) (f g h : Bool) : k6 W a b c (.ofNat 24) it f g h = t6 W a b c (.ofNat 24) it f g h := by kernel_rfl
theorem r6_25 (W : WT) (a b c it : Int) (f g h : Bool) : k6 W a b c (.ofNat 25) it f g h = t6 W a b c (.ofNat 25) it f g h := by kernel_rfl
theorem r6_26 (W : WT) (a b c it : Int) (f g h : Bool) : k6 W a b c (.ofNat 26) it f g h = t6 W a b c (.ofNat 26) it f g h := by kernel_rfl
theorem r6_27 (W : WT) (a b c it : Int) (f g h : Bool) : k6 W a b c (.ofNat 27) it f g h = t6 W a b c (.ofNat 27) it f g h := by kernel_rfl
theorem r6_28 (W : WT) (a b c it : Int) (f g h : Bool) : k6 W a b c (.ofNat 28) it f g h = t6 W a b c (.ofNat 28) it f g h := by kernel_rfl
theorem r6_29 (W : WT) (a b c it : Int) (f g h : Bool) : k6 W a b c (.ofNat 29) it f g h = t6 W a b c (.ofNat 29) it f g h := by kernel_rfl
theorem r6_30 (W : WT) (a b c it : Int) (f g h : Bool) : k6 W a b c (.ofNat 30) it f g h = t6 W a b c (.ofNat 30) it f g h := by kernel_rfl
theorem r6_31 (W : WT) (a b c it : Int) (f g h : Bool) : k6 W a b c (.ofNat 31) it f g h = t6 W a b c (.ofNat 31) it f g h := by kernel_rfl
theorem r6_32 (W : WT) (a b c it : Int) (f g h : Bool) : k6 W a b c (.ofNat 32) it f g h = t6 W a b c (.ofNat 32) it f g h := by kernel_rfl
theorem r6_33 (W : WT) (a b c it : Int) (f g h : Bool) : k6 W a b c (.ofNat 33) it f g h = t6 W a b c (.ofNat 33) it f g h := by kernel_rfl
theorem r6_34 (W : WT) (a b c it : Int) (f g h : Bool) : k6 W a b c (.ofNat 34) it f g h = t6 W a b c (.ofNat 34) it f g h := by kernel_rfl
theorem r6_35 (W : WT) (a b c it : Int) (f g h : Bool) : k6 W a b c (.ofNat 35) it f g h = t6 W a b c (.ofNat 35) it f g h := by kernel_rfl
theorem r6_36 (W : WT) (a b c it : Int) (f g h : Bool) : k6 W a b c (.ofNat 36) it f g h = t6 W a b c (.ofNat 36) it f g h := by kernel_rfl
theorem r6_37 (W : WT) (a b c it : Int) (f g h : Bool) : k6 W a b c (.ofNat 37) it f g h = t6 W a b c (.ofNat 37) it f g h := by kernel_rfl
theorem r6_38 (W : WT) (a b c it : Int) (f g h : Bool) : k6 W a b c (.ofNat 38) it f g h = t6 W a b c (.ofNat 38) it f g h := by kernel_rfl
theorem r6_39 (W : WT) (a b c it : Int) (f g h : Bool) : k6 W a b c (.ofNat 39) it f g h = t6 W a b c (.ofNat 39) it f g h := by kernel_rfl
theorem r6_40 (W : WT) (a b c it : Int) (f g h : Bool) : k6 W a b c (.ofNat 40) it f g h = t6 W a b c (.ofNat 40) it f g h := by kernel_rfl
theorem r6_41 (W : WT) (a b c it : Int) (f g h : Bool) : k6 W a b c (.ofNat 41) it f g h = t6 W a b c (.ofNat 41) it f g h := by kernel_rfl
theorem r6_42 (W : WT) (a b c it : Int) (f g h : Bool) : k6 W a b c (.ofNat 42) it f g h = t6 W a b c (.ofNat 42) it f g h := by kernel_rfl
theorem r6_43 (W : WT) (a b c it : Int) (f g h : Bool) : k6 W a b c (.ofNat 43) it f g h = t6 W a b c (.ofNat 43) it f g h := by kernel_rfl
theorem r6_44 (W : WT) (a b c it : Int) (f g h : Bool) : k6 W a b c (.ofNat 44) it f g h = t6 W a b c (.ofNat 44) it f g h := by kernel_rfl
theorem r6_45 (W : WT) (a b c it : Int) (f g h : Bool) : k6 W a b c (.ofNat 45) it f g h = t6 W a b c (.ofNat 45) it f g h := by kernel_rfl
theorem r6_46 (W : WT) (a b c it : Int) (f g h : Bool) : k6 W a b c (.ofNat 46) it f g h = t6 W a b c (.ofNat 46) it f g h := by kernel_rfl
theorem r6_47 (W : WT) (a b c it : Int) (f g h : Bool) : k6 W a b c (.ofNat 47) it f g h = t6 W a b c (.ofNat 47) it f g h := by kernel_rfl
theorem r6_48 (W : WT) (a b c it : Int) (f g h : Bool) : k6 W a b c (.ofNat 48) it f g h = t6 W a b c (.ofNat 48) it f g h := by kernel_rfl
theorem r6_49 (W : WT) (a b c it : Int) (f g h : Bool) : k6 W a b c (.ofNat 49) it f g h = t6 W a b c (.ofNat 49) it f g h := by kernel_rfl
theorem r6_50 (W : WT) (a b c it : Int) (f g h : Bool) : k6 W a b c (.ofNat 50) it f g h = t6 W a b c (.ofNat 50) it f g h := by kernel_rfl
theorem r6_51 (W : WT) (a b c it : Int) (f g h : Bool) : k6 W a b c (.ofNat 51) it f g h = t6 W a b c (.ofNat 51) it f g h := by kernel_rfl
theorem r6_52 (W : WT) (a b c it : Int) (f g h : Bool) : k6 W a b c (.ofNat 52) it f g h = t6 W a b c (.ofNat 52) it f g h := by kernel_rfl
theorem r6_53 (W : WT) (a b c it : Int) (f g h : Bool) : k6 W a b c (.ofNat 53) it f g h = t6 W a b c (.ofNat 53) it f g h := by kernel_rfl
theorem r6_54 (W : WT) (a b c it : Int) (f g h : Bool) : k6 W a b c (.ofNat 54) it f g h = t6 W a b c (.ofNat 54) it f g h := by kernel_rfl
theorem r6_55 (W : WT) (a b c it : Int) (f g h : Bool) : k6 W a b c (.ofNat 55) it f g h = t6 W a b c (.ofNat 55) it f g h := by kernel_rfl
theorem r6_56 (W : WT) (a b c it : Int) (f g h : Bool) : k6 W a b c (.ofNat 56) it f g h = t6 W a b c (.ofNat 56) it f g h := by kernel_rfl
theorem r6_57 (W : WT) (a b c it : Int) (f g h : Bool) : k6 W a b c (.ofNat 57) it f g h = t6 W a b c (.ofNat 57) it f g h := by kernel_rfl
theorem r6_58 (W : WT) (a b c it : Int) (f g h : Bool) : k6 W a b c (.ofNat 58) it f g h = t6 W a b c (.ofNat 58) it f g h := by kernel_rfl
theorem r6_59 (W : WT) (a b c it : Int) (f g h : Bool) : k6 W a b c (.ofNat 59) it f g h = t6 W a b c (.ofNat 59) it f g h := by kernel_rfl
theorem r6_60 (W : WT) (a b c it : Int) (f g h : Bool) : k6 W a b c (.ofNat 60) it f g h = t6 W a b c (.ofNat 60) it f g h := by kernel_rfl
theorem r6_61 (W : WT) (a b c it : Int) (f g h : Bool) : k6 W a b c (.ofNat 61) it f g h = t6 W a b c (.ofNat 61) it f g h := by kernel_rfl
theorem r6_62 (W : WT) (a b c it : Int) (f g h : Bool) : k6 W a b c (.ofNat 62) it f g h = t6 W a b c (.ofNat 62) it f g h := by kernel_rfl
theorem r6_63 (W : WT) (a b c it : Int) (f g h : Bool) : k6 W a b c (.ofNat 63) it f g h = t6 W a b c (.ofNat 63) it f g h := by kernel_rfl
theorem r6_64 (W : WT) (a b c it : Int) (f g h : Bool) : k6 W a b c (.ofNat 64) it f g h = t6 W a b c (.ofNat 64) it f g h := by kernel_rfl
theorem run6y (W : WT) (a b c n it : Int) (f g h : Bool) (hc : allB (c6 a b c n it f g h) = true) : k6 W a b c n it f g h = some (.bool true) := by
  have go : ∀ y, y = t6 W a b c n it f g h → y = some (.bool true) := fun y hy => by rw [hy]; unfold t6; rw [condAll_ok hc, condAll_ok hc, condAll_ok hc, condAll_ok hc, fin6_eq]
  have h0 := hc
  obtain ⟨_, h1⟩ := allB_cons h0
  obtain ⟨_, h1⟩ := allB_cons h1
  obtain ⟨_, h1⟩ := allB_cons h1
  obtain ⟨h1, _⟩ := allB_cons h1
  have h2 := (okSt_iff.1 h1).2.2.2.2.1
  clear h0 h1 hc
  refine go _ ?_
  clear go
  match n, h2 with
  | .ofNat 1, _ => exact r6_1 W a b c it f g h
  | .ofNat 2, _ => exact r6_2 W a b c it f g h
  | .ofNat 3, _ => exact r6_3 W a b c it f g h
  | .ofNat 4, _ => exact r6_4 W a b c it f g h
  | .ofNat 5, _ => exact r6_5 W a b c it f g h
  | .ofNat 6, _ => exact r6_6 W a b c it f g h
  | .ofNat 7, _ => exact r6_7 W a b c it f g h
  | .ofNat 8, _ => exact r6_8 W a b c it f g h
  | .ofNat 9, _ => exact r6_9 W a b c it f g h
  | .ofNat 10, _ => exact r6_10 W a b c it f g h
  | .ofNat 11, _ => exact r6_11 W a b c it f g h
  | .ofNat 12, _ => exact r6_12 W a b c it f g h
  | .ofNat 13, _ => exact r6_13 W a b c it f g h
  | .ofNat 14, _ => exact r6_14 W a b c it f g h
  | .ofNat 15, _ => exact r6_15 W a b c it f g h
  | .ofNat 16, _ => exact r6_16 W a b c it f g h
  | .ofNat 17, _ => exact r6_17 W a b c it f g h
  | .ofNat 18, _ => exact r6_18 W a b c it f g h
  | .ofNat 19, _ => exact r6_19 W a b c it f g h
  | .ofNat 20, _ => exact r6_20 W a b c it f g h
  | .ofNat 21, _ => exact r6_21 W a b c it f g h
  | .ofNat 22, _ => exact r6_22 W a b c it f g h
  | .ofNat 23, _ => exact r6_23 W a b c it f g h
  | .ofNat 24, _ => exact r6_24 W a b c it f g h
  | .ofNat 25, _ => exact r6_25 W a b c it f g h
  | .ofNat 26, _ => exact r6_26 W a b c it f g h
  | .ofNat 27, _ => exact r6_27 W a b c it f g h
  | .ofNat 28, _ => exact r6_28 W a b c it f g h
  | .ofNat 29, _ => exact r6_29 W a b c it f g h
  | .ofNat 30, _ => exact r6_30 W a b c it f g h
  | .ofNat 31, _ => exact r6_31 W a b c it f g h
  | .ofNat 32, _ => exact r6_32 W a b c it f g h
  | .ofNat 33, _ => exact r6_33 W a b c it f g h
  | .ofNat 34, _ => exact r6_34 W a b c it f g h
  | .ofNat 35, _ => exact r6_35 W a b c it f g h
  | .ofNat 36, _ => exact r6_36 W a b c it f g h
  | .ofNat 37, _ => exact r6_37 W a b c it f g h
  | .ofNat 38, _ => exact r6_38 W a b c it f g h
  | .ofNat 39, _ => exact r6_39 W a b c it f g h
  | .ofNat 40, _ => exact r6_40 W a b c it f g h
  | .ofNat 41, _ => exact r6_41 W a b c it f g h
  | .ofNat 42, _ => exact r6_42 W a b c it f g h
  | .ofNat 43, _ => exact r6_43 W a b c it f g h
  | .ofNat 44, _ => exact r6_44 W a b c it f g h
  | .ofNat 45, _ => exact r6_45 W a b c it f g h
  | .ofNat 46, _ => exact r6_46 W a b c it f g h
  | .ofNat 47, _ => exact r6_47 W a b c it f g h
  | .ofNat 48, _ => exact r6_48 W a b c it f g h
  | .ofNat 49, _ => exact r6_49 W a b c it f g h
  | .ofNat 50, _ => exact r6_50 W a b c it f g h
  | .ofNat 51, _ => exact r6_51 W a b c it f g h
  | .ofNat 52, _ => exact r6_52 W a b c it f g h
  | .ofNat 53, _ => exact r6_53 W a b c it f g h
  | .ofNat 54, _ => exact r6_54 W a b c it f g h
  | .ofNat 55, _ => exact r6_55 W a b c it f g h
  | .ofNat 56, _ => exact r6_56 W a b c it f g h
  | .ofNat 57, _ => exact r6_57 W a b c it f g h
  | .ofNat 58, _ => exact r6_58 W a b c it f g h
  | .ofNat 59, _ => exact r6_59 W a b c it f g h
  | .ofNat 60, _ => exact r6_60 W a b c it f g h
  | .ofNat 61, _ => exact r6_61 W a b c it f g h
  | .ofNat 62, _ => exact r6_62 W a b c it f g h
  | .ofNat 63, _ => exact r6_63 W a b c it f g h
  | .ofNat 64, _ => exact r6_64 W a b c it f g h
  | .ofNat 0, h2 => exact absurd h2.1 (by decide)
  | .ofNat (m + 65), h2 => have h3 := h2.2; rw [Int.ofNat_eq_natCast] at h3; omega
  | .negSucc m, h2 => have := h2.1; omega
theorem run6n (a b c n it : Int) (f g h : Bool) (hc : allB (x6 a b c n it f g h) = true) : funK ftc ttc ntc ot6n 1000000 200 (.fn 6) [.agg [.int .i64 a, .bool f, .int .i64 b, .bool g, .int .i64 c, .bool h, .int .i64 n, .int .i64 it]] H0 (fun v _ => some v) = some (.bool true) := by
  have h1 : funK ftc ttc ntc ot6n 1000000 200 (.fn 6) [.agg [.int .i64 a, .bool f, .int .i64 b, .bool g, .int .i64 c, .bool h, .int .i64 n, .int .i64 it]] H0 (fun v _ => some v) = condAll (x6 a b c n it f g h) (condAll (x6 a b c n it f g h) (condAll (x6 a b c n it f g h) (condAll (x6 a b c n it f g h) (some (.bool true))))) := by kernel_rfl
  rw [h1, condAll_ok hc, condAll_ok hc, condAll_ok hc, condAll_ok hc]
end
end Go.VM

