/- A part of the proof: Se28. No condition. -/
import Derived.Test.YtchfpiimkmphjaaGreatSe0
namespace Go.VM
open Go
set_option maxRecDepth 1000000
noncomputable section
def fi28 : FI := { fiOf Go.Proofs.Tryz.f28 with trim := trimAt 3 [0, 3, 4] }
def ft28 : Tr FI := ftc.set 40 28 (some fi28)
def fr28 (out : AV) (i : Int) : AF := { tmps := ((Tr.nil.set 40 4 (some (.int .i64 i))).set 40 3 (some out)).set 40 0 (some (.ptr 0 19 0 0)), sz := 17, marks := [], rnd := none }
abbrev ca28 : CallK AV := funK ft28 ttc ntc ot5 1000000 29
def lp28 (m : Nat) (ys : List Int) (i : Int) (k : Ex → AF → AH → Option AV) (s : Nat → Bool) := loopK (fi28.trim (keyC (loopAt fi28 0))) (codeK ttc ntc ca28 1000000 fi28.trim (loopAt fi28 0)) m (fr28 (outS 2 ys) i) (hpS 2 (heap0 (room2F s)) ys) k
def rd28 (ys : List Int) (i : Int) (G : Ex → AF → AH → Option AV) (s : Nat → Bool) := rndK ttc ntc ca28 1000000 fi28.trim (loopAt fi28 0) (fr28 (outS 2 ys) i) (hpS 2 (heap0 (room2F s)) ys) G
def ke28 (s : Nat → Bool) : Ex → AF → AH → Option AV := contH ttc ntc ca28 1000000 fi28.trim (loopLP ttc ntc ca28 1000000 fi28.trim) fi28.body 0 (kendK ttc fi28 fun u H => readR (room2F s).length u H)
theorem key28 : fi28.trim (keyC (loopAt fi28 0)) = some [0, 3, 4] := by kernel_rfl
theorem trim28 : TrimB fi28.trim := by
  intro key l h
  have : cond (Nat.beq key 3) (some [0, 3, 4]) none = some l := h
  cases hb : Nat.beq key 3 with
  | false => rw [hb] at this; cases this
  | true =>
    rw [hb] at this
    cases this
    intro x hx
    simp at hx
    omega
def gk28 (m : Nat) (k : Ex → AF → AH → Option AV) : Ex → AF → AH → Option AV := gK (fi28.trim (keyC (loopAt fi28 0))) (codeK ttc ntc ca28 1000000 fi28.trim (loopAt fi28 0)) m k
theorem gn28 (m : Nat) (ys : List Int) (i : Int) (k : Ex → AF → AH → Option AV) (s : Nat → Bool) : gk28 m k .norm (fr28 (outS 2 ys) i) (hpS 2 (heap0 (room2F s)) ys) = lp28 m ys i k s := rfl
theorem gx28 (m : Nat) (k : Ex → AF → AH → Option AV) (fr : AF) (H : AH) : gk28 m k (.exit 0) fr H = k (.exit 0) fr H := rfl
theorem st28 (m : Nat) (ys : List Int) (i : Int) (k : Ex → AF → AH → Option AV) (s : Nat → Bool) : lp28 (m + 1) ys i k s = rd28 ys i (gk28 m k) s :=
  loopK_round trim28 m (by rw [key28]; rfl) (by rw [key28]; exact hpS_trim (by rfl) _) k
theorem q28_0_0 (G : Ex → AF → AH → Option AV) (s : Nat → Bool) : rd28 [] 1 G s = cond (s 1) (G .norm (fr28 (outS 2 [1]) 2) (hpS 2 (heap0 (room2F s)) [1])) (G .norm (fr28 (outS 2 []) 2) (hpS 2 (heap0 (room2F s)) [])) := by kernel_rfl
theorem q28_1_0 (G : Ex → AF → AH → Option AV) (s : Nat → Bool) : rd28 [] 2 G s = cond (s 2) (G .norm (fr28 (outS 2 [2]) 3) (hpS 2 (heap0 (room2F s)) [2])) (G .norm (fr28 (outS 2 []) 3) (hpS 2 (heap0 (room2F s)) [])) := by kernel_rfl
theorem q28_1_1 (G : Ex → AF → AH → Option AV) (y1 : Int) (s : Nat → Bool) : rd28 [y1] 2 G s = cond (s 2) (G .norm (fr28 (outS 2 [2, y1]) 3) (hpS 2 (heap0 (room2F s)) [2, y1])) (G .norm (fr28 (outS 2 [y1]) 3) (hpS 2 (heap0 (room2F s)) [y1])) := by kernel_rfl
theorem q28_2_0 (G : Ex → AF → AH → Option AV) (s : Nat → Bool) : rd28 [] 3 G s = cond (s 3) (G .norm (fr28 (outS 2 [3]) 4) (hpS 2 (heap0 (room2F s)) [3])) (G .norm (fr28 (outS 2 []) 4) (hpS 2 (heap0 (room2F s)) [])) := by kernel_rfl
theorem q28_2_1 (G : Ex → AF → AH → Option AV) (y1 : Int) (s : Nat → Bool) : rd28 [y1] 3 G s = cond (s 3) (G .norm (fr28 (outS 2 [3, y1]) 4) (hpS 2 (heap0 (room2F s)) [3, y1])) (G .norm (fr28 (outS 2 [y1]) 4) (hpS 2 (heap0 (room2F s)) [y1])) := by kernel_rfl
theorem q28_2_2 (G : Ex → AF → AH → Option AV) (y2 y1 : Int) (s : Nat → Bool) : rd28 [y2, y1] 3 G s = cond (s 3) (G .norm (fr28 (outS 2 [3, y2, y1]) 4) (hpS 2 (heap0 (room2F s)) [3, y2, y1])) (G .norm (fr28 (outS 2 [y2, y1]) 4) (hpS 2 (heap0 (room2F s)) [y2, y1])) := by kernel_rfl
theorem q28_3_0 (G : Ex → AF → AH → Option AV) (s : Nat → Bool) : rd28 [] 4 G s = cond (s 4) (G .norm (fr28 (outS 2 [4]) 5) (hpS 2 (heap0 (room2F s)) [4])) (G .norm (fr28 (outS 2 []) 5) (hpS 2 (heap0 (room2F s)) [])) := by kernel_rfl
theorem q28_3_1 (G : Ex → AF → AH → Option AV) (y1 : Int) (s : Nat → Bool) : rd28 [y1] 4 G s = cond (s 4) (G .norm (fr28 (outS 2 [4, y1]) 5) (hpS 2 (heap0 (room2F s)) [4, y1])) (G .norm (fr28 (outS 2 [y1]) 5) (hpS 2 (heap0 (room2F s)) [y1])) := by kernel_rfl
theorem q28_3_2 (G : Ex → AF → AH → Option AV) (y2 y1 : Int) (s : Nat → Bool) : rd28 [y2, y1] 4 G s = cond (s 4) (G .norm (fr28 (outS 2 [4, y2, y1]) 5) (hpS 2 (heap0 (room2F s)) [4, y2, y1])) (G .norm (fr28 (outS 2 [y2, y1]) 5) (hpS 2 (heap0 (room2F s)) [y2, y1])) := by kernel_rfl
theorem q28_3_3 (G : Ex → AF → AH → Option AV) (y3 y2 y1 : Int) (s : Nat → Bool) : rd28 [y3, y2, y1] 4 G s = cond (s 4) (G .norm (fr28 (outS 2 [4, y3, y2, y1]) 5) (hpS 2 (heap0 (room2F s)) [4, y3, y2, y1])) (G .norm (fr28 (outS 2 [y3, y2, y1]) 5) (hpS 2 (heap0 (room2F s)) [y3, y2, y1])) := by kernel_rfl
theorem q28_4_0 (G : Ex → AF → AH → Option AV) (s : Nat → Bool) : rd28 [] 5 G s = cond (s 5) (G .norm (fr28 (outS 2 [5]) 6) (hpS 2 (heap0 (room2F s)) [5])) (G .norm (fr28 (outS 2 []) 6) (hpS 2 (heap0 (room2F s)) [])) := by kernel_rfl
theorem q28_4_1 (G : Ex → AF → AH → Option AV) (y1 : Int) (s : Nat → Bool) : rd28 [y1] 5 G s = cond (s 5) (G .norm (fr28 (outS 2 [5, y1]) 6) (hpS 2 (heap0 (room2F s)) [5, y1])) (G .norm (fr28 (outS 2 [y1]) 6) (hpS 2 (heap0 (room2F s)) [y1])) := by kernel_rfl
theorem q28_4_2 (G : Ex → AF → AH → Option AV) (y2 y1 : Int) (s : Nat → Bool) : rd28 [y2, y1] 5 G s = cond (s 5) (G .norm (fr28 (outS 2 [5, y2, y1]) 6) (hpS 2 (heap0 (room2F s)) [5, y2, y1])) (G .norm (fr28 (outS 2 [y2, y1]) 6) (hpS 2 (heap0 (room2F s)) [y2, y1])) := by kernel_rfl
theorem q28_4_3 (G : Ex → AF → AH → Option AV) (y3 y2 y1 : Int) (s : Nat → Bool) : rd28 [y3, y2, y1] 5 G s = cond (s 5) (G .norm (fr28 (outS 2 [5, y3, y2, y1]) 6) (hpS 2 (heap0 (room2F s)) [5, y3, y2, y1])) (G .norm (fr28 (outS 2 [y3, y2, y1]) 6) (hpS 2 (heap0 (room2F s)) [y3, y2, y1])) := by kernel_rfl
theorem q28_4_4 (G : Ex → AF → AH → Option AV) (y4 y3 y2 y1 : Int) (s : Nat → Bool) : rd28 [y4, y3, y2, y1] 5 G s = cond (s 5) (G .norm (fr28 (outS 2 [5, y4, y3, y2, y1]) 6) (hpS 2 (heap0 (room2F s)) [5, y4, y3, y2, y1])) (G .norm (fr28 (outS 2 [y4, y3, y2, y1]) 6) (hpS 2 (heap0 (room2F s)) [y4, y3, y2, y1])) := by kernel_rfl
theorem q28_5_0 (G : Ex → AF → AH → Option AV) (s : Nat → Bool) : rd28 [] 6 G s = cond (s 6) (G .norm (fr28 (outS 2 [6]) 7) (hpS 2 (heap0 (room2F s)) [6])) (G .norm (fr28 (outS 2 []) 7) (hpS 2 (heap0 (room2F s)) [])) := by kernel_rfl
theorem q28_5_1 (G : Ex → AF → AH → Option AV) (y1 : Int) (s : Nat → Bool) : rd28 [y1] 6 G s = cond (s 6) (G .norm (fr28 (outS 2 [6, y1]) 7) (hpS 2 (heap0 (room2F s)) [6, y1])) (G .norm (fr28 (outS 2 [y1]) 7) (hpS 2 (heap0 (room2F s)) [y1])) := by kernel_rfl
theorem q28_5_2 (G : Ex → AF → AH → Option AV) (y2 y1 : Int) (s : Nat → Bool) : rd28 [y2, y1] 6 G s = cond (s 6) (G .norm (fr28 (outS 2 [6, y2, y1]) 7) (hpS 2 (heap0 (room2F s)) [6, y2, y1])) (G .norm (fr28 (outS 2 [y2, y1]) 7) (hpS 2 (heap0 (room2F s)) [y2, y1])) := by kernel_rfl
theorem q28_5_3 (G : Ex → AF → AH → Option AV) (y3 y2 y1 : Int) (s : Nat → Bool) : rd28 [y3, y2, y1] 6 G s = cond (s 6) (G .norm (fr28 (outS 2 [6, y3, y2, y1]) 7) (hpS 2 (heap0 (room2F s)) [6, y3, y2, y1])) (G .norm (fr28 (outS 2 [y3, y2, y1]) 7) (hpS 2 (heap0 (room2F s)) [y3, y2, y1])) := by kernel_rfl
theorem q28_5_4 (G : Ex → AF → AH → Option AV) (y4 y3 y2 y1 : Int) (s : Nat → Bool) : rd28 [y4, y3, y2, y1] 6 G s = cond (s 6) (G .norm (fr28 (outS 2 [6, y4, y3, y2, y1]) 7) (hpS 2 (heap0 (room2F s)) [6, y4, y3, y2, y1])) (G .norm (fr28 (outS 2 [y4, y3, y2, y1]) 7) (hpS 2 (heap0 (room2F s)) [y4, y3, y2, y1])) := by kernel_rfl
theorem q28_5_5 (G : Ex → AF → AH → Option AV) (y5 y4 y3 y2 y1 : Int) (s : Nat → Bool) : rd28 [y5, y4, y3, y2, y1] 6 G s = cond (s 6) (G .norm (fr28 (outS 2 [6, y5, y4, y3, y2, y1]) 7) (hpS 2 (heap0 (room2F s)) [6, y5, y4, y3, y2, y1])) (G .norm (fr28 (outS 2 [y5, y4, y3, y2, y1]) 7) (hpS 2 (heap0 (room2F s)) [y5, y4, y3, y2, y1])) := by kernel_rfl
theorem q28_6_0 (G : Ex → AF → AH → Option AV) (s : Nat → Bool) : rd28 [] 7 G s = cond (s 7) (G .norm (fr28 (outS 2 [7]) 8) (hpS 2 (heap0 (room2F s)) [7])) (G .norm (fr28 (outS 2 []) 8) (hpS 2 (heap0 (room2F s)) [])) := by kernel_rfl
theorem q28_6_1 (G : Ex → AF → AH → Option AV) (y1 : Int) (s : Nat → Bool) : rd28 [y1] 7 G s = cond (s 7) (G .norm (fr28 (outS 2 [7, y1]) 8) (hpS 2 (heap0 (room2F s)) [7, y1])) (G .norm (fr28 (outS 2 [y1]) 8) (hpS 2 (heap0 (room2F s)) [y1])) := by kernel_rfl
theorem q28_6_2 (G : Ex → AF → AH → Option AV) (y2 y1 : Int) (s : Nat → Bool) : rd28 [y2, y1] 7 G s = cond (s 7) (G .norm (fr28 (outS 2 [7, y2, y1]) 8) (hpS 2 (heap0 (room2F s)) [7, y2, y1])) (G .norm (fr28 (outS 2 [y2, y1]) 8) (hpS 2 (heap0 (room2F s)) [y2, y1])) := by kernel_rfl
theorem q28_6_3 (G : Ex → AF → AH → Option AV) (y3 y2 y1 : Int) (s : Nat → Bool) : rd28 [y3, y2, y1] 7 G s = cond (s 7) (G .norm (fr28 (outS 2 [7, y3, y2, y1]) 8) (hpS 2 (heap0 (room2F s)) [7, y3, y2, y1])) (G .norm (fr28 (outS 2 [y3, y2, y1]) 8) (hpS 2 (heap0 (room2F s)) [y3, y2, y1])) := by kernel_rfl
theorem q28_6_4 (G : Ex → AF → AH → Option AV) (y4 y3 y2 y1 : Int) (s : Nat → Bool) : rd28 [y4, y3, y2, y1] 7 G s = cond (s 7) (G .norm (fr28 (outS 2 [7, y4, y3, y2, y1]) 8) (hpS 2 (heap0 (room2F s)) [7, y4, y3, y2, y1])) (G .norm (fr28 (outS 2 [y4, y3, y2, y1]) 8) (hpS 2 (heap0 (room2F s)) [y4, y3, y2, y1])) := by kernel_rfl
theorem q28_6_5 (G : Ex → AF → AH → Option AV) (y5 y4 y3 y2 y1 : Int) (s : Nat → Bool) : rd28 [y5, y4, y3, y2, y1] 7 G s = cond (s 7) (G .norm (fr28 (outS 2 [7, y5, y4, y3, y2, y1]) 8) (hpS 2 (heap0 (room2F s)) [7, y5, y4, y3, y2, y1])) (G .norm (fr28 (outS 2 [y5, y4, y3, y2, y1]) 8) (hpS 2 (heap0 (room2F s)) [y5, y4, y3, y2, y1])) := by kernel_rfl
theorem q28_6_6 (G : Ex → AF → AH → Option AV) (y6 y5 y4 y3 y2 y1 : Int) (s : Nat → Bool) : rd28 [y6, y5, y4, y3, y2, y1] 7 G s = cond (s 7) (G .norm (fr28 (outS 2 [7, y6, y5, y4, y3, y2, y1]) 8) (hpS 2 (heap0 (room2F s)) [7, y6, y5, y4, y3, y2, y1])) (G .norm (fr28 (outS 2 [y6, y5, y4, y3, y2, y1]) 8) (hpS 2 (heap0 (room2F s)) [y6, y5, y4, y3, y2, y1])) := by kernel_rfl
theorem q28_7_0 (G : Ex → AF → AH → Option AV) (s : Nat → Bool) : rd28 [] 8 G s = cond (s 8) (G .norm (fr28 (outS 2 [8]) 9) (hpS 2 (heap0 (room2F s)) [8])) (G .norm (fr28 (outS 2 []) 9) (hpS 2 (heap0 (room2F s)) [])) := by kernel_rfl
theorem q28_7_1 (G : Ex → AF → AH → Option AV) (y1 : Int) (s : Nat → Bool) : rd28 [y1] 8 G s = cond (s 8) (G .norm (fr28 (outS 2 [8, y1]) 9) (hpS 2 (heap0 (room2F s)) [8, y1])) (G .norm (fr28 (outS 2 [y1]) 9) (hpS 2 (heap0 (room2F s)) [y1])) := by kernel_rfl
theorem q28_7_2 (G : Ex → AF → AH → Option AV) (y2 y1 : Int) (s : Nat → Bool) : rd28 [y2, y1] 8 G s = cond (s 8) (G .norm (fr28 (outS 2 [8, y2, y1]) 9) (hpS 2 (heap0 (room2F s)) [8, y2, y1])) (G .norm (fr28 (outS 2 [y2, y1]) 9) (hpS 2 (heap0 (room2F s)) [y2, y1])) := by kernel_rfl
theorem q28_7_3 (G : Ex → AF → AH → Option AV) (y3 y2 y1 : Int) (s : Nat → Bool) : rd28 [y3, y2, y1] 8 G s = cond (s 8) (G .norm (fr28 (outS 2 [8, y3, y2, y1]) 9) (hpS 2 (heap0 (room2F s)) [8, y3, y2, y1])) (G .norm (fr28 (outS 2 [y3, y2, y1]) 9) (hpS 2 (heap0 (room2F s)) [y3, y2, y1])) := by kernel_rfl
theorem q28_7_4 (G : Ex → AF → AH → Option AV) (y4 y3 y2 y1 : Int) (s : Nat → Bool) : rd28 [y4, y3, y2, y1] 8 G s = cond (s 8) (G .norm (fr28 (outS 2 [8, y4, y3, y2, y1]) 9) (hpS 2 (heap0 (room2F s)) [8, y4, y3, y2, y1])) (G .norm (fr28 (outS 2 [y4, y3, y2, y1]) 9) (hpS 2 (heap0 (room2F s)) [y4, y3, y2, y1])) := by kernel_rfl
theorem q28_7_5 (G : Ex → AF → AH → Option AV) (y5 y4 y3 y2 y1 : Int) (s : Nat → Bool) : rd28 [y5, y4, y3, y2, y1] 8 G s = cond (s 8) (G .norm (fr28 (outS 2 [8, y5, y4, y3, y2, y1]) 9) (hpS 2 (heap0 (room2F s)) [8, y5, y4, y3, y2, y1])) (G .norm (fr28 (outS 2 [y5, y4, y3, y2, y1]) 9) (hpS 2 (heap0 (room2F s)) [y5, y4, y3, y2, y1])) := by kernel_rfl
theorem q28_7_6 (G : Ex → AF → AH → Option AV) (y6 y5 y4 y3 y2 y1 : Int) (s : Nat → Bool) : rd28 [y6, y5, y4, y3, y2, y1] 8 G s = cond (s 8) (G .norm (fr28 (outS 2 [8, y6, y5, y4, y3, y2, y1]) 9) (hpS 2 (heap0 (room2F s)) [8, y6, y5, y4, y3, y2, y1])) (G .norm (fr28 (outS 2 [y6, y5, y4, y3, y2, y1]) 9) (hpS 2 (heap0 (room2F s)) [y6, y5, y4, y3, y2, y1])) := by kernel_rfl
theorem q28_7_7 (G : Ex → AF → AH → Option AV) (y7 y6 y5 y4 y3 y2 y1 : Int) (s : Nat → Bool) : rd28 [y7, y6, y5, y4, y3, y2, y1] 8 G s = cond (s 8) (G .norm (fr28 (outS 2 [8, y7, y6, y5, y4, y3, y2, y1]) 9) (hpS 2 (heap0 (room2F s)) [8, y7, y6, y5, y4, y3, y2, y1])) (G .norm (fr28 (outS 2 [y7, y6, y5, y4, y3, y2, y1]) 9) (hpS 2 (heap0 (room2F s)) [y7, y6, y5, y4, y3, y2, y1])) := by kernel_rfl
theorem q28_8_0 (G : Ex → AF → AH → Option AV) (s : Nat → Bool) : rd28 [] 9 G s = cond (s 9) (G .norm (fr28 (outS 2 [9]) 10) (hpS 2 (heap0 (room2F s)) [9])) (G .norm (fr28 (outS 2 []) 10) (hpS 2 (heap0 (room2F s)) [])) := by kernel_rfl
theorem q28_8_1 (G : Ex → AF → AH → Option AV) (y1 : Int) (s : Nat → Bool) : rd28 [y1] 9 G s = cond (s 9) (G .norm (fr28 (outS 2 [9, y1]) 10) (hpS 2 (heap0 (room2F s)) [9, y1])) (G .norm (fr28 (outS 2 [y1]) 10) (hpS 2 (heap0 (room2F s)) [y1])) := by kernel_rfl
theorem q28_8_2 (G : Ex → AF → AH → Option AV) (y2 y1 : Int) (s : Nat → Bool) : rd28 [y2, y1] 9 G s = cond (s 9) (G .norm (fr28 (outS 2 [9, y2, y1]) 10) (hpS 2 (heap0 (room2F s)) [9, y2, y1])) (G .norm (fr28 (outS 2 [y2, y1]) 10) (hpS 2 (heap0 (room2F s)) [y2, y1])) := by kernel_rfl
theorem q28_8_3 (G : Ex → AF → AH → Option AV) (y3 y2 y1 : Int) (s : Nat → Bool) : rd28 [y3, y2, y1] 9 G s = cond (s 9) (G .norm (fr28 (outS 2 [9, y3, y2, y1]) 10) (hpS 2 (heap0 (room2F s)) [9, y3, y2, y1])) (G .norm (fr28 (outS 2 [y3, y2, y1]) 10) (hpS 2 (heap0 (room2F s)) [y3, y2, y1])) := by kernel_rfl
theorem q28_8_4 (G : Ex → AF → AH → Option AV) (y4 y3 y2 y1 : Int) (s : Nat → Bool) : rd28 [y4, y3, y2, y1] 9 G s = cond (s 9) (G .norm (fr28 (outS 2 [9, y4, y3, y2, y1]) 10) (hpS 2 (heap0 (room2F s)) [9, y4, y3, y2, y1])) (G .norm (fr28 (outS 2 [y4, y3, y2, y1]) 10) (hpS 2 (heap0 (room2F s)) [y4, y3, y2, y1])) := by kernel_rfl
theorem q28_8_5 (G : Ex → AF → AH → Option AV) (y5 y4 y3 y2 y1 : Int) (s : Nat → Bool) : rd28 [y5, y4, y3, y2, y1] 9 G s = cond (s 9) (G .norm (fr28 (outS 2 [9, y5, y4, y3, y2, y1]) 10) (hpS 2 (heap0 (room2F s)) [9, y5, y4, y3, y2, y1])) (G .norm (fr28 (outS 2 [y5, y4, y3, y2, y1]) 10) (hpS 2 (heap0 (room2F s)) [y5, y4, y3, y2, y1])) := by kernel_rfl
theorem q28_8_6 (G : Ex → AF → AH → Option AV) (y6 y5 y4 y3 y2 y1 : Int) (s : Nat → Bool) : rd28 [y6, y5, y4, y3, y2, y1] 9 G s = cond (s 9) (G .norm (fr28 (outS 2 [9, y6, y5, y4, y3, y2, y1]) 10) (hpS 2 (heap0 (room2F s)) [9, y6, y5, y4, y3, y2, y1])) (G .norm (fr28 (outS 2 [y6, y5, y4, y3, y2, y1]) 10) (hpS 2 (heap0 (room2F s)) [y6, y5, y4, y3, y2, y1])) := by kernel_rfl
theorem q28_8_7 (G : Ex → AF → AH → Option AV) (y7 y6 y5 y4 y3 y2 y1 : Int) (s : Nat → Bool) : rd28 [y7, y6, y5, y4, y3, y2, y1] 9 G s = cond (s 9) (G .norm (fr28 (outS 2 [9, y7, y6, y5, y4, y3, y2, y1]) 10) (hpS 2 (heap0 (room2F s)) [9, y7, y6, y5, y4, y3, y2, y1])) (G .norm (fr28 (outS 2 [y7, y6, y5, y4, y3, y2, y1]) 10) (hpS 2 (heap0 (room2F s)) [y7, y6, y5, y4, y3, y2, y1])) := by kernel_rfl
theorem q28_8_8 (G : Ex → AF → AH → Option AV) (y8 y7 y6 y5 y4 y3 y2 y1 : Int) (s : Nat → Bool) : rd28 [y8, y7, y6, y5, y4, y3, y2, y1] 9 G s = cond (s 9) (G .norm (fr28 (outS 2 [9, y8, y7, y6, y5, y4, y3, y2, y1]) 10) (hpS 2 (heap0 (room2F s)) [9, y8, y7, y6, y5, y4, y3, y2, y1])) (G .norm (fr28 (outS 2 [y8, y7, y6, y5, y4, y3, y2, y1]) 10) (hpS 2 (heap0 (room2F s)) [y8, y7, y6, y5, y4, y3, y2, y1])) := by kernel_rfl
theorem q28_9_0 (G : Ex → AF → AH → Option AV) (s : Nat → Bool) : rd28 [] 10 G s = cond (s 10) (G .norm (fr28 (outS 2 [10]) 11) (hpS 2 (heap0 (room2F s)) [10])) (G .norm (fr28 (outS 2 []) 11) (hpS 2 (heap0 (room2F s)) [])) := by kernel_rfl
theorem q28_9_1 (G : Ex → AF → AH → Option AV) (y1 : Int) (s : Nat → Bool) : rd28 [y1] 10 G s = cond (s 10) (G .norm (fr28 (outS 2 [10, y1]) 11) (hpS 2 (heap0 (room2F s)) [10, y1])) (G .norm (fr28 (outS 2 [y1]) 11) (hpS 2 (heap0 (room2F s)) [y1])) := by kernel_rfl
theorem q28_9_2 (G : Ex → AF → AH → Option AV) (y2 y1 : Int) (s : Nat → Bool) : rd28 [y2, y1] 10 G s = cond (s 10) (G .norm (fr28 (outS 2 [10, y2, y1]) 11) (hpS 2 (heap0 (room2F s)) [10, y2, y1])) (G .norm (fr28 (outS 2 [y2, y1]) 11) (hpS 2 (heap0 (room2F s)) [y2, y1])) := by kernel_rfl
theorem q28_9_3 (G : Ex → AF → AH → Option AV) (y3 y2 y1 : Int) (s : Nat → Bool) : rd28 [y3, y2, y1] 10 G s = cond (s 10) (G .norm (fr28 (outS 2 [10, y3, y2, y1]) 11) (hpS 2 (heap0 (room2F s)) [10, y3, y2, y1])) (G .norm (fr28 (outS 2 [y3, y2, y1]) 11) (hpS 2 (heap0 (room2F s)) [y3, y2, y1])) := by kernel_rfl
theorem q28_9_4 (G : Ex → AF → AH → Option AV) (y4 y3 y2 y1 : Int) (s : Nat → Bool) : rd28 [y4, y3, y2, y1] 10 G s = cond (s 10) (G .norm (fr28 (outS 2 [10, y4, y3, y2, y1]) 11) (hpS 2 (heap0 (room2F s)) [10, y4, y3, y2, y1])) (G .norm (fr28 (outS 2 [y4, y3, y2, y1]) 11) (hpS 2 (heap0 (room2F s)) [y4, y3, y2, y1])) := by kernel_rfl
theorem q28_9_5 (G : Ex → AF → AH → Option AV) (y5 y4 y3 y2 y1 : Int) (s : Nat → Bool) : rd28 [y5, y4, y3, y2, y1] 10 G s = cond (s 10) (G .norm (fr28 (outS 2 [10, y5, y4, y3, y2, y1]) 11) (hpS 2 (heap0 (room2F s)) [10, y5, y4, y3, y2, y1])) (G .norm (fr28 (outS 2 [y5, y4, y3, y2, y1]) 11) (hpS 2 (heap0 (room2F s)) [y5, y4, y3, y2, y1])) := by kernel_rfl
theorem q28_9_6 (G : Ex → AF → AH → Option AV) (y6 y5 y4 y3 y2 y1 : Int) (s : Nat → Bool) : rd28 [y6, y5, y4, y3, y2, y1] 10 G s = cond (s 10) (G .norm (fr28 (outS 2 [10, y6, y5, y4, y3, y2, y1]) 11) (hpS 2 (heap0 (room2F s)) [10, y6, y5, y4, y3, y2, y1])) (G .norm (fr28 (outS 2 [y6, y5, y4, y3, y2, y1]) 11) (hpS 2 (heap0 (room2F s)) [y6, y5, y4, y3, y2, y1])) := by kernel_rfl
theorem q28_9_7 (G : Ex → AF → AH → Option AV) (y7 y6 y5 y4 y3 y2 y1 : Int) (s : Nat → Bool) : rd28 [y7, y6, y5, y4, y3, y2, y1] 10 G s = cond (s 10) (G .norm (fr28 (outS 2 [10, y7, y6, y5, y4, y3, y2, y1]) 11) (hpS 2 (heap0 (room2F s)) [10, y7, y6, y5, y4, y3, y2, y1])) (G .norm (fr28 (outS 2 [y7, y6, y5, y4, y3, y2, y1]) 11) (hpS 2 (heap0 (room2F s)) [y7, y6, y5, y4, y3, y2, y1])) := by kernel_rfl
theorem q28_9_8 (G : Ex → AF → AH → Option AV) (y8 y7 y6 y5 y4 y3 y2 y1 : Int) (s : Nat → Bool) : rd28 [y8, y7, y6, y5, y4, y3, y2, y1] 10 G s = cond (s 10) (G .norm (fr28 (outS 2 [10, y8, y7, y6, y5, y4, y3, y2, y1]) 11) (hpS 2 (heap0 (room2F s)) [10, y8, y7, y6, y5, y4, y3, y2, y1])) (G .norm (fr28 (outS 2 [y8, y7, y6, y5, y4, y3, y2, y1]) 11) (hpS 2 (heap0 (room2F s)) [y8, y7, y6, y5, y4, y3, y2, y1])) := by kernel_rfl
theorem q28_9_9 (G : Ex → AF → AH → Option AV) (y9 y8 y7 y6 y5 y4 y3 y2 y1 : Int) (s : Nat → Bool) : rd28 [y9, y8, y7, y6, y5, y4, y3, y2, y1] 10 G s = cond (s 10) (G .norm (fr28 (outS 2 [10, y9, y8, y7, y6, y5, y4, y3, y2, y1]) 11) (hpS 2 (heap0 (room2F s)) [10, y9, y8, y7, y6, y5, y4, y3, y2, y1])) (G .norm (fr28 (outS 2 [y9, y8, y7, y6, y5, y4, y3, y2, y1]) 11) (hpS 2 (heap0 (room2F s)) [y9, y8, y7, y6, y5, y4, y3, y2, y1])) := by kernel_rfl
theorem q28_10_0 (G : Ex → AF → AH → Option AV) (s : Nat → Bool) : rd28 [] 11 G s = cond (s 11) (G .norm (fr28 (outS 2 [11]) 12) (hpS 2 (heap0 (room2F s)) [11])) (G .norm (fr28 (outS 2 []) 12) (hpS 2 (heap0 (room2F s)) [])) := by kernel_rfl
theorem q28_10_1 (G : Ex → AF → AH → Option AV) (y1 : Int) (s : Nat → Bool) : rd28 [y1] 11 G s = cond (s 11) (G .norm (fr28 (outS 2 [11, y1]) 12) (hpS 2 (heap0 (room2F s)) [11, y1])) (G .norm (fr28 (outS 2 [y1]) 12) (hpS 2 (heap0 (room2F s)) [y1])) := by kernel_rfl
theorem q28_10_2 (G : Ex → AF → AH → Option AV) (y2 y1 : Int) (s : Nat → Bool) : rd28 [y2, y1] 11 G s = cond (s 11) (G .norm (fr28 (outS 2 [11, y2, y1]) 12) (hpS 2 (heap0 (room2F s)) [11, y2, y1])) (G .norm (fr28 (outS 2 [y2, y1]) 12) (hpS 2 (heap0 (room2F s)) [y2, y1])) := by kernel_rfl
theorem q28_10_3 (G : Ex → AF → AH → Option AV) (y3 y2 y1 : Int) (s : Nat → Bool) : rd28 [y3, y2, y1] 11 G s = cond (s 11) (G .norm (fr28 (outS 2 [11, y3, y2, y1]) 12) (hpS 2 (heap0 (room2F s)) [11, y3, y2, y1])) (G .norm (fr28 (outS 2 [y3, y2, y1]) 12) (hpS 2 (heap0 (room2F s)) [y3, y2, y1])) := by kernel_rfl
theorem q28_10_4 (G : Ex → AF → AH → Option AV) (y4 y3 y2 y1 : Int) (s : Nat → Bool) : rd28 [y4, y3, y2, y1] 11 G s = cond (s 11) (G .norm (fr28 (outS 2 [11, y4, y3, y2, y1]) 12) (hpS 2 (heap0 (room2F s)) [11, y4, y3, y2, y1])) (G .norm (fr28 (outS 2 [y4, y3, y2, y1]) 12) (hpS 2 (heap0 (room2F s)) [y4, y3, y2, y1])) := by kernel_rfl
theorem q28_10_5 (G : Ex → AF → AH → Option AV) (y5 y4 y3 y2 y1 : Int) (s : Nat → Bool) : rd28 [y5, y4, y3, y2, y1] 11 G s = cond (s 11) (G .norm (fr28 (outS 2 [11, y5, y4, y3, y2, y1]) 12) (hpS 2 (heap0 (room2F s)) [11, y5, y4, y3, y2, y1])) (G .norm (fr28 (outS 2 [y5, y4, y3, y2, y1]) 12) (hpS 2 (heap0 (room2F s)) [y5, y4, y3, y2, y1])) := by kernel_rfl
theorem q28_10_6 (G : Ex → AF → AH → Option AV) (y6 y5 y4 y3 y2 y1 : Int) (s : Nat → Bool) : rd28 [y6, y5, y4, y3, y2, y1] 11 G s = cond (s 11) (G .norm (fr28 (outS 2 [11, y6, y5, y4, y3, y2, y1]) 12) (hpS 2 (heap0 (room2F s)) [11, y6, y5, y4, y3, y2, y1])) (G .norm (fr28 (outS 2 [y6, y5, y4, y3, y2, y1]) 12) (hpS 2 (heap0 (room2F s)) [y6, y5, y4, y3, y2, y1])) := by kernel_rfl
theorem q28_10_7 (G : Ex → AF → AH → Option AV) (y7 y6 y5 y4 y3 y2 y1 : Int) (s : Nat → Bool) : rd28 [y7, y6, y5, y4, y3, y2, y1] 11 G s = cond (s 11) (G .norm (fr28 (outS 2 [11, y7, y6, y5, y4, y3, y2, y1]) 12) (hpS 2 (heap0 (room2F s)) [11, y7, y6, y5, y4, y3, y2, y1])) (G .norm (fr28 (outS 2 [y7, y6, y5, y4, y3, y2, y1]) 12) (hpS 2 (heap0 (room2F s)) [y7, y6, y5, y4, y3, y2, y1])) := by kernel_rfl
theorem q28_10_8 (G : Ex → AF → AH → Option AV) (y8 y7 y6 y5 y4 y3 y2 y1 : Int) (s : Nat → Bool) : rd28 [y8, y7, y6, y5, y4, y3, y2, y1] 11 G s = cond (s 11) (G .norm (fr28 (outS 2 [11, y8, y7, y6, y5, y4, y3, y2, y1]) 12) (hpS 2 (heap0 (room2F s)) [11, y8, y7, y6, y5, y4, y3, y2, y1])) (G .norm (fr28 (outS 2 [y8, y7, y6, y5, y4, y3, y2, y1]) 12) (hpS 2 (heap0 (room2F s)) [y8, y7, y6, y5, y4, y3, y2, y1])) := by kernel_rfl
theorem q28_10_9 (G : Ex → AF → AH → Option AV) (y9 y8 y7 y6 y5 y4 y3 y2 y1 : Int) (s : Nat → Bool) : rd28 [y9, y8, y7, y6, y5, y4, y3, y2, y1] 11 G s = cond (s 11) (G .norm (fr28 (outS 2 [11, y9, y8, y7, y6, y5, y4, y3, y2, y1]) 12) (hpS 2 (heap0 (room2F s)) [11, y9, y8, y7, y6, y5, y4, y3, y2, y1])) (G .norm (fr28 (outS 2 [y9, y8, y7, y6, y5, y4, y3, y2, y1]) 12) (hpS 2 (heap0 (room2F s)) [y9, y8, y7, y6, y5, y4, y3, y2, y1])) := by kernel_rfl
theorem q28_10_10 (G : Ex → AF → AH → Option AV) (y10 y9 y8 y7 y6 y5 y4 y3 y2 y1 : Int) (s : Nat → Bool) : rd28 [y10, y9, y8, y7, y6, y5, y4, y3, y2, y1] 11 G s = cond (s 11) (G .norm (fr28 (outS 2 [11, y10, y9, y8, y7, y6, y5, y4, y3, y2, y1]) 12) (hpS 2 (heap0 (room2F s)) [11, y10, y9, y8, y7, y6, y5, y4, y3, y2, y1])) (G .norm (fr28 (outS 2 [y10, y9, y8, y7, y6, y5, y4, y3, y2, y1]) 12) (hpS 2 (heap0 (room2F s)) [y10, y9, y8, y7, y6, y5, y4, y3, y2, y1])) := by kernel_rfl
theorem q28_11_0 (G : Ex → AF → AH → Option AV) (s : Nat → Bool) : rd28 [] 12 G s = cond (s 12) (G .norm (fr28 (outS 2 [12]) 13) (hpS 2 (heap0 (room2F s)) [12])) (G .norm (fr28 (outS 2 []) 13) (hpS 2 (heap0 (room2F s)) [])) := by kernel_rfl
theorem q28_11_1 (G : Ex → AF → AH → Option AV) (y1 : Int) (s : Nat → Bool) : rd28 [y1] 12 G s = cond (s 12) (G .norm (fr28 (outS 2 [12, y1]) 13) (hpS 2 (heap0 (room2F s)) [12, y1])) (G .norm (fr28 (outS 2 [y1]) 13) (hpS 2 (heap0 (room2F s)) [y1])) := by kernel_rfl
theorem q28_11_2 (G : Ex → AF → AH → Option AV) (y2 y1 : Int) (s : Nat → Bool) : rd28 [y2, y1] 12 G s = cond (s 12) (G .norm (fr28 (outS 2 [12, y2, y1]) 13) (hpS 2 (heap0 (room2F s)) [12, y2, y1])) (G .norm (fr28 (outS 2 [y2, y1]) 13) (hpS 2 (heap0 (room2F s)) [y2, y1])) := by kernel_rfl
theorem q28_11_3 (G : Ex → AF → AH → Option AV) (y3 y2 y1 : Int) (s : Nat → Bool) : rd28 [y3, y2, y1] 12 G s = cond (s 12) (G .norm (fr28 (outS 2 [12, y3, y2, y1]) 13) (hpS 2 (heap0 (room2F s)) [12, y3, y2, y1])) (G .norm (fr28 (outS 2 [y3, y2, y1]) 13) (hpS 2 (heap0 (room2F s)) [y3, y2, y1])) := by kernel_rfl
theorem q28_11_4 (G : Ex → AF → AH → Option AV) (y4 y3 y2 y1 : Int) (s : Nat → Bool) : rd28 [y4, y3, y2, y1] 12 G s = cond (s 12) (G .norm (fr28 (outS 2 [12, y4, y3, y2, y1]) 13) (hpS 2 (heap0 (room2F s)) [12, y4, y3, y2, y1])) (G .norm (fr28 (outS 2 [y4, y3, y2, y1]) 13) (hpS 2 (heap0 (room2F s)) [y4, y3, y2, y1])) := by kernel_rfl
theorem q28_11_5 (G : Ex → AF → AH → Option AV) (y5 y4 y3 y2 y1 : Int) (s : Nat → Bool) : rd28 [y5, y4, y3, y2, y1] 12 G s = cond (s 12) (G .norm (fr28 (outS 2 [12, y5, y4, y3, y2, y1]) 13) (hpS 2 (heap0 (room2F s)) [12, y5, y4, y3, y2, y1])) (G .norm (fr28 (outS 2 [y5, y4, y3, y2, y1]) 13) (hpS 2 (heap0 (room2F s)) [y5, y4, y3, y2, y1])) := by kernel_rfl
theorem q28_11_6 (G : Ex → AF → AH → Option AV) (y6 y5 y4 y3 y2 y1 : Int) (s : Nat → Bool) : rd28 [y6, y5, y4, y3, y2, y1] 12 G s = cond (s 12) (G .norm (fr28 (outS 2 [12, y6, y5, y4, y3, y2, y1]) 13) (hpS 2 (heap0 (room2F s)) [12, y6, y5, y4, y3, y2, y1])) (G .norm (fr28 (outS 2 [y6, y5, y4, y3, y2, y1]) 13) (hpS 2 (heap0 (room2F s)) [y6, y5, y4, y3, y2, y1])) := by kernel_rfl
theorem q28_11_7 (G : Ex → AF → AH → Option AV) (y7 y6 y5 y4 y3 y2 y1 : Int) (s : Nat → Bool) : rd28 [y7, y6, y5, y4, y3, y2, y1] 12 G s = cond (s 12) (G .norm (fr28 (outS 2 [12, y7, y6, y5, y4, y3, y2, y1]) 13) (hpS 2 (heap0 (room2F s)) [12, y7, y6, y5, y4, y3, y2, y1])) (G .norm (fr28 (outS 2 [y7, y6, y5, y4, y3, y2, y1]) 13) (hpS 2 (heap0 (room2F s)) [y7, y6, y5, y4, y3, y2, y1])) := by kernel_rfl
theorem q28_11_8 (G : Ex → AF → AH → Option AV) (y8 y7 y6 y5 y4 y3 y2 y1 : Int) (s : Nat → Bool) : rd28 [y8, y7, y6, y5, y4, y3, y2, y1] 12 G s = cond (s 12) (G .norm (fr28 (outS 2 [12, y8, y7, y6, y5, y4, y3, y2, y1]) 13) (hpS 2 (heap0 (room2F s)) [12, y8, y7, y6, y5, y4, y3, y2, y1])) (G .norm (fr28 (outS 2 [y8, y7, y6, y5, y4, y3, y2, y1]) 13) (hpS 2 (heap0 (room2F s)) [y8, y7, y6, y5, y4, y3, y2, y1])) := by kernel_rfl
theorem q28_11_9 (G : Ex → AF → AH → Option AV) (y9 y8 y7 y6 y5 y4 y3 y2 y1 : Int) (s : Nat → Bool) : rd28 [y9, y8, y7, y6, y5, y4, y3, y2, y1] 12 G s = cond (s 12) (G .norm (fr28 (outS 2 [12, y9, y8, y7, y6, y5, y4, y3, y2, y1]) 13) (hpS 2 (heap0 (room2F s)) [12, y9, y8, y7, y6, y5, y4, y3, y2, y1])) (G .norm (fr28 (outS 2 [y9, y8, y7, y6, y5, y4, y3, y2, y1]) 13) (hpS 2 (heap0 (room2F s)) [y9, y8, y7, y6, y5, y4, y3, y2, y1])) := by kernel_rfl
theorem q28_11_10 (G : Ex → AF → AH → Option AV) (y10 y9 y8 y7 y6 y5 y4 y3 y2 y1 : Int) (s : Nat → Bool) : rd28 [y10, y9, y8, y7, y6, y5, y4, y3, y2, y1] 12 G s = cond (s 12) (G .norm (fr28 (outS 2 [12, y10, y9, y8, y7, y6, y5, y4, y3, y2, y1]) 13) (hpS 2 (heap0 (room2F s)) [12, y10, y9, y8, y7, y6, y5, y4, y3, y2, y1])) (G .norm (fr28 (outS 2 [y10, y9, y8, y7, y6, y5, y4, y3, y2, y1]) 13) (hpS 2 (heap0 (room2F s)) [y10, y9, y8, y7, y6, y5, y4, y3, y2, y1])) := by kernel_rfl
theorem q28_11_11 (G : Ex → AF → AH → Option AV) (y11 y10 y9 y8 y7 y6 y5 y4 y3 y2 y1 : Int) (s : Nat → Bool) : rd28 [y11, y10, y9, y8, y7, y6, y5, y4, y3, y2, y1] 12 G s = cond (s 12) (G .norm (fr28 (outS 2 [12, y11, y10, y9, y8, y7, y6, y5, y4, y3, y2, y1]) 13) (hpS 2 (heap0 (room2F s)) [12, y11, y10, y9, y8, y7, y6, y5, y4, y3, y2, y1])) (G .norm (fr28 (outS 2 [y11, y10, y9, y8, y7, y6, y5, y4, y3, y2, y1]) 13) (hpS 2 (heap0 (room2F s)) [y11, y10, y9, y8, y7, y6, y5, y4, y3, y2, y1])) := by kernel_rfl
theorem q28_12_0 (G : Ex → AF → AH → Option AV) (s : Nat → Bool) : rd28 [] 13 G s = cond (s 13) (G .norm (fr28 (outS 2 [13]) 14) (hpS 2 (heap0 (room2F s)) [13])) (G .norm (fr28 (outS 2 []) 14) (hpS 2 (heap0 (room2F s)) [])) := by kernel_rfl
theorem q28_12_1 (G : Ex → AF → AH → Option AV) (y1 : Int) (s : Nat → Bool) : rd28 [y1] 13 G s = cond (s 13) (G .norm (fr28 (outS 2 [13, y1]) 14) (hpS 2 (heap0 (room2F s)) [13, y1])) (G .norm (fr28 (outS 2 [y1]) 14) (hpS 2 (heap0 (room2F s)) [y1])) := by kernel_rfl
theorem q28_12_2 (G : Ex → AF → AH → Option AV) (y2 y1 : Int) (s : Nat → Bool) : rd28 [y2, y1] 13 G s = cond (s 13) (G .norm (fr28 (outS 2 [13, y2, y1]) 14) (hpS 2 (heap0 (room2F s)) [13, y2, y1])) (G .norm (fr28 (outS 2 [y2, y1]) 14) (hpS 2 (heap0 (room2F s)) [y2, y1])) := by kernel_rfl
theorem q28_12_3 (G : Ex → AF → AH → Option AV) (y3 y2 y1 : Int) (s : Nat → Bool) : rd28 [y3, y2, y1] 13 G s = cond (s 13) (G .norm (fr28 (outS 2 [13, y3, y2, y1]) 14) (hpS 2 (heap0 (room2F s)) [13, y3, y2, y1])) (G .norm (fr28 (outS 2 [y3, y2, y1]) 14) (hpS 2 (heap0 (room2F s)) [y3, y2, y1])) := by kernel_rfl
theorem q28_12_4 (G : Ex → AF → AH → Option AV) (y4 y3 y2 y1 : Int) (s : Nat → Bool) : rd28 [y4, y3, y2, y1] 13 G s = cond (s 13) (G .norm (fr28 (outS 2 [13, y4, y3, y2, y1]) 14) (hpS 2 (heap0 (room2F s)) [13, y4, y3, y2, y1])) (G .norm (fr28 (outS 2 [y4, y3, y2, y1]) 14) (hpS 2 (heap0 (room2F s)) [y4, y3, y2, y1])) := by kernel_rfl
theorem q28_12_5 (G : Ex → AF → AH → Option AV) (y5 y4 y3 y2 y1 : Int) (s : Nat → Bool) : rd28 [y5, y4, y3, y2, y1] 13 G s = cond (s 13) (G .norm (fr28 (outS 2 [13, y5, y4, y3, y2, y1]) 14) (hpS 2 (heap0 (room2F s)) [13, y5, y4, y3, y2, y1])) (G .norm (fr28 (outS 2 [y5, y4, y3, y2, y1]) 14) (hpS 2 (heap0 (room2F s)) [y5, y4, y3, y2, y1])) := by kernel_rfl
theorem q28_12_6 (G : Ex → AF → AH → Option AV) (y6 y5 y4 y3 y2 y1 : Int) (s : Nat → Bool) : rd28 [y6, y5, y4, y3, y2, y1] 13 G s = cond (s 13) (G .norm (fr28 (outS 2 [13, y6, y5, y4, y3, y2, y1]) 14) (hpS 2 (heap0 (room2F s)) [13, y6, y5, y4, y3, y2, y1])) (G .norm (fr28 (outS 2 [y6, y5, y4, y3, y2, y1]) 14) (hpS 2 (heap0 (room2F s)) [y6, y5, y4, y3, y2, y1])) := by kernel_rfl
theorem q28_12_7 (G : Ex → AF → AH → Option AV) (y7 y6 y5 y4 y3 y2 y1 : Int) (s : Nat → Bool) : rd28 [y7, y6, y5, y4, y3, y2, y1] 13 G s = cond (s 13) (G .norm (fr28 (outS 2 [13, y7, y6, y5, y4, y3, y2, y1]) 14) (hpS 2 (heap0 (room2F s)) [13, y7, y6, y5, y4, y3, y2, y1])) (G .norm (fr28 (outS 2 [y7, y6, y5, y4, y3, y2, y1]) 14) (hpS 2 (heap0 (room2F s)) [y7, y6, y5, y4, y3, y2, y1])) := by kernel_rfl
theorem q28_12_8 (G : Ex → AF → AH → Option AV) (y8 y7 y6 y5 y4 y3 y2 y1 : Int) (s : Nat → Bool) : rd28 [y8, y7, y6, y5, y4, y3, y2, y1] 13 G s = cond (s 13) (G .norm (fr28 (outS 2 [13, y8, y7, y6, y5, y4, y3, y2, y1]) 14) (hpS 2 (heap0 (room2F s)) [13, y8, y7, y6, y5, y4, y3, y2, y1])) (G .norm (fr28 (outS 2 [y8, y7, y6, y5, y4, y3, y2, y1]) 14) (hpS 2 (heap0 (room2F s)) [y8, y7, y6, y5, y4, y3, y2, y1])) := by kernel_rfl
theorem q28_12_9 (G : Ex → AF → AH → Option AV) (y9 y8 y7 y6 y5 y4 y3 y2 y1 : Int) (s : Nat → Bool) : rd28 [y9, y8, y7, y6, y5, y4, y3, y2, y1] 13 G s = cond (s 13) (G .norm (fr28 (outS 2 [13, y9, y8, y7, y6, y5, y4, y3, y2, y1]) 14) (hpS 2 (heap0 (room2F s)) [13, y9, y8, y7, y6, y5, y4, y3, y2, y1])) (G .norm (fr28 (outS 2 [y9, y8, y7, y6, y5, y4, y3, y2, y1]) 14) (hpS 2 (heap0 (room2F s)) [y9, y8, y7, y6, y5, y4, y3, y2, y1])) := by kernel_rfl
theorem q28_12_10 (G : Ex → AF → AH → Option AV) (y10 y9 y8 y7 y6 y5 y4 y3 y2 y1 : Int) (s : Nat → Bool) : rd28 [y10, y9, y8, y7, y6, y5, y4, y3, y2, y1] 13 G s = cond (s 13) (G .norm (fr28 (outS 2 [13, y10, y9, y8, y7, y6, y5, y4, y3, y2, y1]) 14) (hpS 2 (heap0 (room2F s)) [13, y10, y9, y8, y7, y6, y5, y4, y3, y2, y1])) (G .norm (fr28 (outS 2 [y10, y9, y8, y7, y6, y5, y4, y3, y2, y1]) 14) (hpS 2 (heap0 (room2F s)) [y10, y9, y8, y7, y6, y5, y4, y3, y2, y1])) := by kernel_rfl
theorem q28_12_11 (G : Ex → AF → AH → Option AV) (y11 y10 y9 y8 y7 y6 y5 y4 y3 y2 y1 : Int) (s : Nat → Bool) : rd28 [y11, y10, y9, y8, y7, y6, y5, y4, y3, y2, y1] 13 G s = cond (s 13) (G .norm (fr28 (outS 2 [13, y11, y10, y9, y8, y7, y6, y5, y4, y3, y2, y1]) 14) (hpS 2 (heap0 (room2F s)) [13, y11, y10, y9, y8, y7, y6, y5, y4, y3, y2, y1])) (G .norm (fr28 (outS 2 [y11, y10, y9, y8, y7, y6, y5, y4, y3, y2, y1]) 14) (hpS 2 (heap0 (room2F s)) [y11, y10, y9, y8, y7, y6, y5, y4, y3, y2, y1])) := by kernel_rfl
theorem q28_12_12 (G : Ex → AF → AH → Option AV) (y12 y11 y10 y9 y8 y7 y6 y5 y4 y3 y2 y1 : Int) (s : Nat → Bool) : rd28 [y12, y11, y10, y9, y8, y7, y6, y5, y4, y3, y2, y1] 13 G s = cond (s 13) (G .norm (fr28 (outS 2 [13, y12, y11, y10, y9, y8, y7, y6, y5, y4, y3, y2, y1]) 14) (hpS 2 (heap0 (room2F s)) [13, y12, y11, y10, y9, y8, y7, y6, y5, y4, y3, y2, y1])) (G .norm (fr28 (outS 2 [y12, y11, y10, y9, y8, y7, y6, y5, y4, y3, y2, y1]) 14) (hpS 2 (heap0 (room2F s)) [y12, y11, y10, y9, y8, y7, y6, y5, y4, y3, y2, y1])) := by kernel_rfl
theorem q28_13_0 (G : Ex → AF → AH → Option AV) (s : Nat → Bool) : rd28 [] 14 G s = cond (s 14) (G .norm (fr28 (outS 2 [14]) 15) (hpS 2 (heap0 (room2F s)) [14])) (G .norm (fr28 (outS 2 []) 15) (hpS 2 (heap0 (room2F s)) [])) := by kernel_rfl
theorem q28_13_1 (G : Ex → AF → AH → Option AV) (y1 : Int) (s : Nat → Bool) : rd28 [y1] 14 G s = cond (s 14) (G .norm (fr28 (outS 2 [14, y1]) 15) (hpS 2 (heap0 (room2F s)) [14, y1])) (G .norm (fr28 (outS 2 [y1]) 15) (hpS 2 (heap0 (room2F s)) [y1])) := by kernel_rfl
theorem q28_13_2 (G : Ex → AF → AH → Option AV) (y2 y1 : Int) (s : Nat → Bool) : rd28 [y2, y1] 14 G s = cond (s 14) (G .norm (fr28 (outS 2 [14, y2, y1]) 15) (hpS 2 (heap0 (room2F s)) [14, y2, y1])) (G .norm (fr28 (outS 2 [y2, y1]) 15) (hpS 2 (heap0 (room2F s)) [y2, y1])) := by kernel_rfl
theorem q28_13_3 (G : Ex → AF → AH → Option AV) (y3 y2 y1 : Int) (s : Nat → Bool) : rd28 [y3, y2, y1] 14 G s = cond (s 14) (G .norm (fr28 (outS 2 [14, y3, y2, y1]) 15) (hpS 2 (heap0 (room2F s)) [14, y3, y2, y1])) (G .norm (fr28 (outS 2 [y3, y2, y1]) 15) (hpS 2 (heap0 (room2F s)) [y3, y2, y1])) := by kernel_rfl
theorem q28_13_4 (G : Ex → AF → AH → Option AV) (y4 y3 y2 y1 : Int) (s : Nat → Bool) : rd28 [y4, y3, y2, y1] 14 G s = cond (s 14) (G .norm (fr28 (outS 2 [14, y4, y3, y2, y1]) 15) (hpS 2 (heap0 (room2F s)) [14, y4, y3, y2, y1])) (G .norm (fr28 (outS 2 [y4, y3, y2, y1]) 15) (hpS 2 (heap0 (room2F s)) [y4, y3, y2, y1])) := by kernel_rfl
theorem q28_13_5 (G : Ex → AF → AH → Option AV) (y5 y4 y3 y2 y1 : Int) (s : Nat → Bool) : rd28 [y5, y4, y3, y2, y1] 14 G s = cond (s 14) (G .norm (fr28 (outS 2 [14, y5, y4, y3, y2, y1]) 15) (hpS 2 (heap0 (room2F s)) [14, y5, y4, y3, y2, y1])) (G .norm (fr28 (outS 2 [y5, y4, y3, y2, y1]) 15) (hpS 2 (heap0 (room2F s)) [y5, y4, y3, y2, y1])) := by kernel_rfl
theorem q28_13_6 (G : Ex → AF → AH → Option AV) (y6 y5 y4 y3 y2 y1 : Int) (s : Nat → Bool) : rd28 [y6, y5, y4, y3, y2, y1] 14 G s = cond (s 14) (G .norm (fr28 (outS 2 [14, y6, y5, y4, y3, y2, y1]) 15) (hpS 2 (heap0 (room2F s)) [14, y6, y5, y4, y3, y2, y1])) (G .norm (fr28 (outS 2 [y6, y5, y4, y3, y2, y1]) 15) (hpS 2 (heap0 (room2F s)) [y6, y5, y4, y3, y2, y1])) := by kernel_rfl
theorem q28_13_7 (G : Ex → AF → AH → Option AV) (y7 y6 y5 y4 y3 y2 y1 : Int) (s : Nat → Bool) : rd28 [y7, y6, y5, y4, y3, y2, y1] 14 G s = cond (s 14) (G .norm (fr28 (outS 2 [14, y7, y6, y5, y4, y3, y2, y1]) 15) (hpS 2 (heap0 (room2F s)) [14, y7, y6, y5, y4, y3, y2, y1])) (G .norm (fr28 (outS 2 [y7, y6, y5, y4, y3, y2, y1]) 15) (hpS 2 (heap0 (room2F s)) [y7, y6, y5, y4, y3, y2, y1])) := by kernel_rfl
theorem q28_13_8 (G : Ex → AF → AH → Option AV) (y8 y7 y6 y5 y4 y3 y2 y1 : Int) (s : Nat → Bool) : rd28 [y8, y7, y6, y5, y4, y3, y2, y1] 14 G s = cond (s 14) (G .norm (fr28 (outS 2 [14, y8, y7, y6, y5, y4, y3, y2, y1]) 15) (hpS 2 (heap0 (room2F s)) [14, y8, y7, y6, y5, y4, y3, y2, y1])) (G .norm (fr28 (outS 2 [y8, y7, y6, y5, y4, y3, y2, y1]) 15) (hpS 2 (heap0 (room2F s)) [y8, y7, y6, y5, y4, y3, y2, y1])) := by kernel_rfl
theorem q28_13_9 (G : Ex → AF → AH → Option AV) (y9 y8 y7 y6 y5 y4 y3 y2 y1 : Int) (s : Nat → Bool) : rd28 [y9, y8, y7, y6, y5, y4, y3, y2, y1] 14 G s = cond (s 14) (G .norm (fr28 (outS 2 [14, y9, y8, y7, y6, y5, y4, y3, y2, y1]) 15) (hpS 2 (heap0 (room2F s)) [14, y9, y8, y7, y6, y5, y4, y3, y2, y1])) (G .norm (fr28 (outS 2 [y9, y8, y7, y6, y5, y4, y3, y2, y1]) 15) (hpS 2 (heap0 (room2F s)) [y9, y8, y7, y6, y5, y4, y3, y2, y1])) := by kernel_rfl
theorem q28_13_10 (G : Ex → AF → AH → Option AV) (y10 y9 y8 y7 y6 y5 y4 y3 y2 y1 : Int) (s : Nat → Bool) : rd28 [y10, y9, y8, y7, y6, y5, y4, y3, y2, y1] 14 G s = cond (s 14) (G .norm (fr28 (outS 2 [14, y10, y9, y8, y7, y6, y5, y4, y3, y2, y1]) 15) (hpS 2 (heap0 (room2F s)) [14, y10, y9, y8, y7, y6, y5, y4, y3, y2, y1])) (G .norm (fr28 (outS 2 [y10, y9, y8, y7, y6, y5, y4, y3, y2, y1]) 15) (hpS 2 (heap0 (room2F s)) [y10, y9, y8, y7, y6, y5, y4, y3, y2, y1])) := by kernel_rfl
theorem q28_13_11 (G : Ex → AF → AH → Option AV) (y11 y10 y9 y8 y7 y6 y5 y4 y3 y2 y1 : Int) (s : Nat → Bool) : rd28 [y11, y10, y9, y8, y7, y6, y5, y4, y3, y2, y1] 14 G s = cond (s 14) (G .norm (fr28 (outS 2 [14, y11, y10, y9, y8, y7, y6, y5, y4, y3, y2, y1]) 15) (hpS 2 (heap0 (room2F s)) [14, y11, y10, y9, y8, y7, y6, y5, y4, y3, y2, y1])) (G .norm (fr28 (outS 2 [y11, y10, y9, y8, y7, y6, y5, y4, y3, y2, y1]) 15) (hpS 2 (heap0 (room2F s)) [y11, y10, y9, y8, y7, y6, y5, y4, y3, y2, y1])) := by kernel_rfl
theorem q28_13_12 (G : Ex → AF → AH → Option AV) (y12 y11 y10 y9 y8 y7 y6 y5 y4 y3 y2 y1 : Int) (s : Nat → Bool) : rd28 [y12, y11, y10, y9, y8, y7, y6, y5, y4, y3, y2, y1] 14 G s = cond (s 14) (G .norm (fr28 (outS 2 [14, y12, y11, y10, y9, y8, y7, y6, y5, y4, y3, y2, y1]) 15) (hpS 2 (heap0 (room2F s)) [14, y12, y11, y10, y9, y8, y7, y6, y5, y4, y3, y2, y1])) (G .norm (fr28 (outS 2 [y12, y11, y10, y9, y8, y7, y6, y5, y4, y3, y2, y1]) 15) (hpS 2 (heap0 (room2F s)) [y12, y11, y10, y9, y8, y7, y6, y5, y4, y3, y2, y1])) := by kernel_rfl
theorem q28_13_13 (G : Ex → AF → AH → Option AV) (y13 y12 y11 y10 y9 y8 y7 y6 y5 y4 y3 y2 y1 : Int) (s : Nat → Bool) : rd28 [y13, y12, y11, y10, y9, y8, y7, y6, y5, y4, y3, y2, y1] 14 G s = cond (s 14) (G .norm (fr28 (outS 2 [14, y13, y12, y11, y10, y9, y8, y7, y6, y5, y4, y3, y2, y1]) 15) (hpS 2 (heap0 (room2F s)) [14, y13, y12, y11, y10, y9, y8, y7, y6, y5, y4, y3, y2, y1])) (G .norm (fr28 (outS 2 [y13, y12, y11, y10, y9, y8, y7, y6, y5, y4, y3, y2, y1]) 15) (hpS 2 (heap0 (room2F s)) [y13, y12, y11, y10, y9, y8, y7, y6, y5, y4, y3, y2, y1])) := by kernel_rfl
theorem q28_14_0 (G : Ex → AF → AH → Option AV) (s : Nat → Bool) : rd28 [] 15 G s = cond (s 15) (G .norm (fr28 (outS 2 [15]) 16) (hpS 2 (heap0 (room2F s)) [15])) (G .norm (fr28 (outS 2 []) 16) (hpS 2 (heap0 (room2F s)) [])) := by kernel_rfl
theorem q28_14_1 (G : Ex → AF → AH → Option AV) (y1 : Int) (s : Nat → Bool) : rd28 [y1] 15 G s = cond (s 15) (G .norm (fr28 (outS 2 [15, y1]) 16) (hpS 2 (heap0 (room2F s)) [15, y1])) (G .norm (fr28 (outS 2 [y1]) 16) (hpS 2 (heap0 (room2F s)) [y1])) := by kernel_rfl
theorem q28_14_2 (G : Ex → AF → AH → Option AV) (y2 y1 : Int) (s : Nat → Bool) : rd28 [y2, y1] 15 G s = cond (s 15) (G .norm (fr28 (outS 2 [15, y2, y1]) 16) (hpS 2 (heap0 (room2F s)) [15, y2, y1])) (G .norm (fr28 (outS 2 [y2, y1]) 16) (hpS 2 (heap0 (room2F s)) [y2, y1])) := by kernel_rfl
theorem q28_14_3 (G : Ex → AF → AH → Option AV) (y3 y2 y1 : Int) (s : Nat → Bool) : rd28 [y3, y2, y1] 15 G s = cond (s 15) (G .norm (fr28 (outS 2 [15, y3, y2, y1]) 16) (hpS 2 (heap0 (room2F s)) [15, y3, y2, y1])) (G .norm (fr28 (outS 2 [y3, y2, y1]) 16) (hpS 2 (heap0 (room2F s)) [y3, y2, y1])) := by kernel_rfl
theorem q28_14_4 (G : Ex → AF → AH → Option AV) (y4 y3 y2 y1 : Int) (s : Nat → Bool) : rd28 [y4, y3, y2, y1] 15 G s = cond (s 15) (G .norm (fr28 (outS 2 [15, y4, y3, y2, y1]) 16) (hpS 2 (heap0 (room2F s)) [15, y4, y3, y2, y1])) (G .norm (fr28 (outS 2 [y4, y3, y2, y1]) 16) (hpS 2 (heap0 (room2F s)) [y4, y3, y2, y1])) := by kernel_rfl
theorem q28_14_5 (G : Ex → AF → AH → Option AV) (y5 y4 y3 y2 y1 : Int) (s : Nat → Bool) : rd28 [y5, y4, y3, y2, y1] 15 G s = cond (s 15) (G .norm (fr28 (outS 2 [15, y5, y4, y3, y2, y1]) 16) (hpS 2 (heap0 (room2F s)) [15, y5, y4, y3, y2, y1])) (G .norm (fr28 (outS 2 [y5, y4, y3, y2, y1]) 16) (hpS 2 (heap0 (room2F s)) [y5, y4, y3, y2, y1])) := by kernel_rfl
theorem q28_14_6 (G : Ex → AF → AH → Option AV) (y6 y5 y4 y3 y2 y1 : Int) (s : Nat → Bool) : rd28 [y6, y5, y4, y3, y2, y1] 15 G s = cond (s 15) (G .norm (fr28 (outS 2 [15, y6, y5, y4, y3, y2, y1]) 16) (hpS 2 (heap0 (room2F s)) [15, y6, y5, y4, y3, y2, y1])) (G .norm (fr28 (outS 2 [y6, y5, y4, y3, y2, y1]) 16) (hpS 2 (heap0 (room2F s)) [y6, y5, y4, y3, y2, y1])) := by kernel_rfl
theorem q28_14_7 (G : Ex → AF → AH → Option AV) (y7 y6 y5 y4 y3 y2 y1 : Int) (s : Nat → Bool) : rd28 [y7, y6, y5, y4, y3, y2, y1] 15 G s = cond (s 15) (G .norm (fr28 (outS 2 [15, y7, y6, y5, y4, y3, y2, y1]) 16) (hpS 2 (heap0 (room2F s)) [15, y7, y6, y5, y4, y3, y2, y1])) (G .norm (fr28 (outS 2 [y7, y6, y5, y4, y3, y2, y1]) 16) (hpS 2 (heap0 (room2F s)) [y7, y6, y5, y4, y3, y2, y1])) := by kernel_rfl
theorem q28_14_8 (G : Ex → AF → AH → Option AV) (y8 y7 y6 y5 y4 y3 y2 y1 : Int) (s : Nat → Bool) : rd28 [y8, y7, y6, y5, y4, y3, y2, y1] 15 G s = cond (s 15) (G .norm (fr28 (outS 2 [15, y8, y7, y6, y5, y4, y3, y2, y1]) 16) (hpS 2 (heap0 (room2F s)) [15, y8, y7, y6, y5, y4, y3, y2, y1])) (G .norm (fr28 (outS 2 [y8, y7, y6, y5, y4, y3, y2, y1]) 16) (hpS 2 (heap0 (room2F s)) [y8, y7, y6, y5, y4, y3, y2, y1])) := by kernel_rfl
theorem q28_14_9 (G : Ex → AF → AH → Option AV) (y9 y8 y7 y6 y5 y4 y3 y2 y1 : Int) (s : Nat → Bool) : rd28 [y9, y8, y7, y6, y5, y4, y3, y2, y1] 15 G s = cond (s 15) (G .norm (fr28 (outS 2 [15, y9, y8, y7, y6, y5, y4, y3, y2, y1]) 16) (hpS 2 (heap0 (room2F s)) [15, y9, y8, y7, y6, y5, y4, y3, y2, y1])) (G .norm (fr28 (outS 2 [y9, y8, y7, y6, y5, y4, y3, y2, y1]) 16) (hpS 2 (heap0 (room2F s)) [y9, y8, y7, y6, y5, y4, y3, y2, y1])) := by kernel_rfl
theorem q28_14_10 (G : Ex → AF → AH → Option AV) (y10 y9 y8 y7 y6 y5 y4 y3 y2 y1 : Int) (s : Nat → Bool) : rd28 [y10, y9, y8, y7, y6, y5, y4, y3, y2, y1] 15 G s = cond (s 15) (G .norm (fr28 (outS 2 [15, y10, y9, y8, y7, y6, y5, y4, y3, y2, y1]) 16) (hpS 2 (heap0 (room2F s)) [15, y10, y9, y8, y7, y6, y5, y4, y3, y2, y1])) (G .norm (fr28 (outS 2 [y10, y9, y8, y7, y6, y5, y4, y3, y2, y1]) 16) (hpS 2 (heap0 (room2F s)) [y10, y9, y8, y7, y6, y5, y4, y3, y2, y1])) := by kernel_rfl
theorem q28_14_11 (G : Ex → AF → AH → Option AV) (y11 y10 y9 y8 y7 y6 y5 y4 y3 y2 y1 : Int) (s : Nat → Bool) : rd28 [y11, y10, y9, y8, y7, y6, y5, y4, y3, y2, y1] 15 G s = cond (s 15) (G .norm (fr28 (outS 2 [15, y11, y10, y9, y8, y7, y6, y5, y4, y3, y2, y1]) 16) (hpS 2 (heap0 (room2F s)) [15, y11, y10, y9, y8, y7, y6, y5, y4, y3, y2, y1])) (G .norm (fr28 (outS 2 [y11, y10, y9, y8, y7, y6, y5, y4, y3, y2, y1]) 16) (hpS 2 (heap0 (room2F s)) [y11, y10, y9, y8, y7, y6, y5, y4, y3, y2, y1])) := by kernel_rfl
theorem q28_14_12 (G : Ex → AF → AH → Option AV) (y12 y11 y10 y9 y8 y7 y6 y5 y4 y3 y2 y1 : Int) (s : Nat → Bool) : rd28 [y12, y11, y10, y9, y8, y7, y6, y5, y4, y3, y2, y1] 15 G s = cond (s 15) (G .norm (fr28 (outS 2 [15, y12, y11, y10, y9, y8, y7, y6, y5, y4, y3, y2, y1]) 16) (hpS 2 (heap0 (room2F s)) [15, y12, y11, y10, y9, y8, y7, y6, y5, y4, y3, y2, y1])) (G .norm (fr28 (outS 2 [y12, y11, y10, y9, y8, y7, y6, y5, y4, y3, y2, y1]) 16) (hpS 2 (heap0 (room2F s)) [y12, y11, y10, y9, y8, y7, y6, y5, y4, y3, y2, y1])) := by kernel_rfl
theorem q28_14_13 (G : Ex → AF → AH → Option AV) (y13 y12 y11 y10 y9 y8 y7 y6 y5 y4 y3 y2 y1 : Int) (s : Nat → Bool) : rd28 [y13, y12, y11, y10, y9, y8, y7, y6, y5, y4, y3, y2, y1] 15 G s = cond (s 15) (G .norm (fr28 (outS 2 [15, y13, y12, y11, y10, y9, y8, y7, y6, y5, y4, y3, y2, y1]) 16) (hpS 2 (heap0 (room2F s)) [15, y13, y12, y11, y10, y9, y8, y7, y6, y5, y4, y3, y2, y1])) (G .norm (fr28 (outS 2 [y13, y12, y11, y10, y9, y8, y7, y6, y5, y4, y3, y2, y1]) 16) (hpS 2 (heap0 (room2F s)) [y13, y12, y11, y10, y9, y8, y7, y6, y5, y4, y3, y2, y1])) := by kernel_rfl
theorem q28_14_14 (G : Ex → AF → AH → Option AV) (y14 y13 y12 y11 y10 y9 y8 y7 y6 y5 y4 y3 y2 y1 : Int) (s : Nat → Bool) : rd28 [y14, y13, y12, y11, y10, y9, y8, y7, y6, y5, y4, y3, y2, y1] 15 G s = cond (s 15) (G .norm (fr28 (outS 2 [15, y14, y13, y12, y11, y10, y9, y8, y7, y6, y5, y4, y3, y2, y1]) 16) (hpS 2 (heap0 (room2F s)) [15, y14, y13, y12, y11, y10, y9, y8, y7, y6, y5, y4, y3, y2, y1])) (G .norm (fr28 (outS 2 [y14, y13, y12, y11, y10, y9, y8, y7, y6, y5, y4, y3, y2, y1]) 16) (hpS 2 (heap0 (room2F s)) [y14, y13, y12, y11, y10, y9, y8, y7, y6, y5, y4, y3, y2, y1])) := by kernel_rfl
theorem q28_15_0 (G : Ex → AF → AH → Option AV) (s : Nat → Bool) : rd28 [] 16 G s = cond (s 16) (G .norm (fr28 (outS 2 [16]) 17) (hpS 2 (heap0 (room2F s)) [16])) (G .norm (fr28 (outS 2 []) 17) (hpS 2 (heap0 (room2F s)) [])) := by kernel_rfl
theorem q28_15_1 (G : Ex → AF → AH → Option AV) (y1 : Int) (s : Nat → Bool) : rd28 [y1] 16 G s = cond (s 16) (G .norm (fr28 (outS 2 [16, y1]) 17) (hpS 2 (heap0 (room2F s)) [16, y1])) (G .norm (fr28 (outS 2 [y1]) 17) (hpS 2 (heap0 (room2F s)) [y1])) := by kernel_rfl
theorem q28_15_2 (G : Ex → AF → AH → Option AV) (y2 y1 : Int) (s : Nat → Bool) : rd28 [y2, y1] 16 G s = cond (s 16) (G .norm (fr28 (outS 2 [16, y2, y1]) 17) (hpS 2 (heap0 (room2F s)) [16, y2, y1])) (G .norm (fr28 (outS 2 [y2, y1]) 17) (hpS 2 (heap0 (room2F s)) [y2, y1])) := by kernel_rfl
theorem q28_15_3 (G : Ex → AF → AH → Option AV) (y3 y2 y1 : Int) (s : Nat → Bool) : rd28 [y3, y2, y1] 16 G s = cond (s 16) (G .norm (fr28 (outS 2 [16, y3, y2, y1]) 17) (hpS 2 (heap0 (room2F s)) [16, y3, y2, y1])) (G .norm (fr28 (outS 2 [y3, y2, y1]) 17) (hpS 2 (heap0 (room2F s)) [y3, y2, y1])) := by kernel_rfl
theorem q28_15_4 (G : Ex → AF → AH → Option AV) (y4 y3 y2 y1 : Int) (s : Nat → Bool) : rd28 [y4, y3, y2, y1] 16 G s = cond (s 16) (G .norm (fr28 (outS 2 [16, y4, y3, y2, y1]) 17) (hpS 2 (heap0 (room2F s)) [16, y4, y3, y2, y1])) (G .norm (fr28 (outS 2 [y4, y3, y2, y1]) 17) (hpS 2 (heap0 (room2F s)) [y4, y3, y2, y1])) := by kernel_rfl
theorem q28_15_5 (G : Ex → AF → AH → Option AV) (y5 y4 y3 y2 y1 : Int) (s : Nat → Bool) : rd28 [y5, y4, y3, y2, y1] 16 G s = cond (s 16) (G .norm (fr28 (outS 2 [16, y5, y4, y3, y2, y1]) 17) (hpS 2 (heap0 (room2F s)) [16, y5, y4, y3, y2, y1])) (G .norm (fr28 (outS 2 [y5, y4, y3, y2, y1]) 17) (hpS 2 (heap0 (room2F s)) [y5, y4, y3, y2, y1])) := by kernel_rfl
theorem q28_15_6 (G : Ex → AF → AH → Option AV) (y6 y5 y4 y3 y2 y1 : Int) (s : Nat → Bool) : rd28 [y6, y5, y4, y3, y2, y1] 16 G s = cond (s 16) (G .norm (fr28 (outS 2 [16, y6, y5, y4, y3, y2, y1]) 17) (hpS 2 (heap0 (room2F s)) [16, y6, y5, y4, y3, y2, y1])) (G .norm (fr28 (outS 2 [y6, y5, y4, y3, y2, y1]) 17) (hpS 2 (heap0 (room2F s)) [y6, y5, y4, y3, y2, y1])) := by kernel_rfl
theorem q28_15_7 (G : Ex → AF → AH → Option AV) (y7 y6 y5 y4 y3 y2 y1 : Int) (s : Nat → Bool) : rd28 [y7, y6, y5, y4, y3, y2, y1] 16 G s = cond (s 16) (G .norm (fr28 (outS 2 [16, y7, y6, y5, y4, y3, y2, y1]) 17) (hpS 2 (heap0 (room2F s)) [16, y7, y6, y5, y4, y3, y2, y1])) (G .norm (fr28 (outS 2 [y7, y6, y5, y4, y3, y2, y1]) 17) (hpS 2 (heap0 (room2F s)) [y7, y6, y5, y4, y3, y2, y1])) := by kernel_rfl
theorem q28_15_8 (G : Ex → AF → AH → Option AV) (y8 y7 y6 y5 y4 y3 y2 y1 : Int) (s : Nat → Bool) : rd28 [y8, y7, y6, y5, y4, y3, y2, y1] 16 G s = cond (s 16) (G .norm (fr28 (outS 2 [16, y8, y7, y6, y5, y4, y3, y2, y1]) 17) (hpS 2 (heap0 (room2F s)) [16, y8, y7, y6, y5, y4, y3, y2, y1])) (G .norm (fr28 (outS 2 [y8, y7, y6, y5, y4, y3, y2, y1]) 17) (hpS 2 (heap0 (room2F s)) [y8, y7, y6, y5, y4, y3, y2, y1])) := by kernel_rfl
theorem q28_15_9 (G : Ex → AF → AH → Option AV) (y9 y8 y7 y6 y5 y4 y3 y2 y1 : Int) (s : Nat → Bool) : rd28 [y9, y8, y7, y6, y5, y4, y3, y2, y1] 16 G s = cond (s 16) (G .norm (fr28 (outS 2 [16, y9, y8, y7, y6, y5, y4, y3, y2, y1]) 17) (hpS 2 (heap0 (room2F s)) [16, y9, y8, y7, y6, y5, y4, y3, y2, y1])) (G .norm (fr28 (outS 2 [y9, y8, y7, y6, y5, y4, y3, y2, y1]) 17) (hpS 2 (heap0 (room2F s)) [y9, y8, y7, y6, y5, y4, y3, y2, y1])) := by kernel_rfl
theorem q28_15_10 (G : Ex → AF → AH → Option AV) (y10 y9 y8 y7 y6 y5 y4 y3 y2 y1 : Int) (s : Nat → Bool) : rd28 [y10, y9, y8, y7, y6, y5, y4, y3, y2, y1] 16 G s = cond (s 16) (G .norm (fr28 (outS 2 [16, y10, y9, y8, y7, y6, y5, y4, y3, y2, y1]) 17) (hpS 2 (heap0 (room2F s)) [16, y10, y9, y8, y7, y6, y5, y4, y3, y2, y1])) (G .norm (fr28 (outS 2 [y10, y9, y8, y7, y6, y5, y4, y3, y2, y1]) 17) (hpS 2 (heap0 (room2F s)) [y10, y9, y8, y7, y6, y5, y4, y3, y2, y1])) := by kernel_rfl
theorem q28_15_11 (G : Ex → AF → AH → Option AV) (y11 y10 y9 y8 y7 y6 y5 y4 y3 y2 y1 : Int) (s : Nat → Bool) : rd28 [y11, y10, y9, y8, y7, y6, y5, y4, y3, y2, y1] 16 G s = cond (s 16) (G .norm (fr28 (outS 2 [16, y11, y10, y9, y8, y7, y6, y5, y4, y3, y2, y1]) 17) (hpS 2 (heap0 (room2F s)) [16, y11, y10, y9, y8, y7, y6, y5, y4, y3, y2, y1])) (G .norm (fr28 (outS 2 [y11, y10, y9, y8, y7, y6, y5, y4, y3, y2, y1]) 17) (hpS 2 (heap0 (room2F s)) [y11, y10, y9, y8, y7, y6, y5, y4, y3, y2, y1])) := by kernel_rfl
theorem q28_15_12 (G : Ex → AF → AH → Option AV) (y12 y11 y10 y9 y8 y7 y6 y5 y4 y3 y2 y1 : Int) (s : Nat → Bool) : rd28 [y12, y11, y10, y9, y8, y7, y6, y5, y4, y3, y2, y1] 16 G s = cond (s 16) (G .norm (fr28 (outS 2 [16, y12, y11, y10, y9, y8, y7, y6, y5, y4, y3, y2, y1]) 17) (hpS 2 (heap0 (room2F s)) [16, y12, y11, y10, y9, y8, y7, y6, y5, y4, y3, y2, y1])) (G .norm (fr28 (outS 2 [y12, y11, y10, y9, y8, y7, y6, y5, y4, y3, y2, y1]) 17) (hpS 2 (heap0 (room2F s)) [y12, y11, y10, y9, y8, y7, y6, y5, y4, y3, y2, y1])) := by kernel_rfl
theorem q28_15_13 (G : Ex → AF → AH → Option AV) (y13 y12 y11 y10 y9 y8 y7 y6 y5 y4 y3 y2 y1 : Int) (s : Nat → Bool) : rd28 [y13, y12, y11, y10, y9, y8, y7, y6, y5, y4, y3, y2, y1] 16 G s = cond (s 16) (G .norm (fr28 (outS 2 [16, y13, y12, y11, y10, y9, y8, y7, y6, y5, y4, y3, y2, y1]) 17) (hpS 2 (heap0 (room2F s)) [16, y13, y12, y11, y10, y9, y8, y7, y6, y5, y4, y3, y2, y1])) (G .norm (fr28 (outS 2 [y13, y12, y11, y10, y9, y8, y7, y6, y5, y4, y3, y2, y1]) 17) (hpS 2 (heap0 (room2F s)) [y13, y12, y11, y10, y9, y8, y7, y6, y5, y4, y3, y2, y1])) := by kernel_rfl
theorem q28_15_14 (G : Ex → AF → AH → Option AV) (y14 y13 y12 y11 y10 y9 y8 y7 y6 y5 y4 y3 y2 y1 : Int) (s : Nat → Bool) : rd28 [y14, y13, y12, y11, y10, y9, y8, y7, y6, y5, y4, y3, y2, y1] 16 G s = cond (s 16) (G .norm (fr28 (outS 2 [16, y14, y13, y12, y11, y10, y9, y8, y7, y6, y5, y4, y3, y2, y1]) 17) (hpS 2 (heap0 (room2F s)) [16, y14, y13, y12, y11, y10, y9, y8, y7, y6, y5, y4, y3, y2, y1])) (G .norm (fr28 (outS 2 [y14, y13, y12, y11, y10, y9, y8, y7, y6, y5, y4, y3, y2, y1]) 17) (hpS 2 (heap0 (room2F s)) [y14, y13, y12, y11, y10, y9, y8, y7, y6, y5, y4, y3, y2, y1])) := by kernel_rfl
theorem q28_15_15 (G : Ex → AF → AH → Option AV) (y15 y14 y13 y12 y11 y10 y9 y8 y7 y6 y5 y4 y3 y2 y1 : Int) (s : Nat → Bool) : rd28 [y15, y14, y13, y12, y11, y10, y9, y8, y7, y6, y5, y4, y3, y2, y1] 16 G s = cond (s 16) (G .norm (fr28 (outS 2 [16, y15, y14, y13, y12, y11, y10, y9, y8, y7, y6, y5, y4, y3, y2, y1]) 17) (hpS 2 (heap0 (room2F s)) [16, y15, y14, y13, y12, y11, y10, y9, y8, y7, y6, y5, y4, y3, y2, y1])) (G .norm (fr28 (outS 2 [y15, y14, y13, y12, y11, y10, y9, y8, y7, y6, y5, y4, y3, y2, y1]) 17) (hpS 2 (heap0 (room2F s)) [y15, y14, y13, y12, y11, y10, y9, y8, y7, y6, y5, y4, y3, y2, y1])) := by kernel_rfl
theorem q28_16_0 (G : Ex → AF → AH → Option AV) (s : Nat → Bool) : rd28 [] 17 G s = G (.exit 0) (fr28 (outS 2 []) 17) (hpS 2 (heap0 (room2F s)) []) := by kernel_rfl
theorem e28_0 (s : Nat → Bool) : ke28 s (.exit 0) (fr28 (outS 2 []) 17) (hpS 2 (heap0 (room2F s)) []) = some (resS []) := by kernel_rfl
theorem q28_16_1 (G : Ex → AF → AH → Option AV) (y1 : Int) (s : Nat → Bool) : rd28 [y1] 17 G s = G (.exit 0) (fr28 (outS 2 [y1]) 17) (hpS 2 (heap0 (room2F s)) [y1]) := by kernel_rfl
theorem e28_1 (y1 : Int) (s : Nat → Bool) : ke28 s (.exit 0) (fr28 (outS 2 [y1]) 17) (hpS 2 (heap0 (room2F s)) [y1]) = some (resS [y1]) := by kernel_rfl
theorem q28_16_2 (G : Ex → AF → AH → Option AV) (y2 y1 : Int) (s : Nat → Bool) : rd28 [y2, y1] 17 G s = G (.exit 0) (fr28 (outS 2 [y2, y1]) 17) (hpS 2 (heap0 (room2F s)) [y2, y1]) := by kernel_rfl
theorem e28_2 (y2 y1 : Int) (s : Nat → Bool) : ke28 s (.exit 0) (fr28 (outS 2 [y2, y1]) 17) (hpS 2 (heap0 (room2F s)) [y2, y1]) = some (resS [y2, y1]) := by kernel_rfl
theorem q28_16_3 (G : Ex → AF → AH → Option AV) (y3 y2 y1 : Int) (s : Nat → Bool) : rd28 [y3, y2, y1] 17 G s = G (.exit 0) (fr28 (outS 2 [y3, y2, y1]) 17) (hpS 2 (heap0 (room2F s)) [y3, y2, y1]) := by kernel_rfl
theorem e28_3 (y3 y2 y1 : Int) (s : Nat → Bool) : ke28 s (.exit 0) (fr28 (outS 2 [y3, y2, y1]) 17) (hpS 2 (heap0 (room2F s)) [y3, y2, y1]) = some (resS [y3, y2, y1]) := by kernel_rfl
theorem q28_16_4 (G : Ex → AF → AH → Option AV) (y4 y3 y2 y1 : Int) (s : Nat → Bool) : rd28 [y4, y3, y2, y1] 17 G s = G (.exit 0) (fr28 (outS 2 [y4, y3, y2, y1]) 17) (hpS 2 (heap0 (room2F s)) [y4, y3, y2, y1]) := by kernel_rfl
theorem e28_4 (y4 y3 y2 y1 : Int) (s : Nat → Bool) : ke28 s (.exit 0) (fr28 (outS 2 [y4, y3, y2, y1]) 17) (hpS 2 (heap0 (room2F s)) [y4, y3, y2, y1]) = some (resS [y4, y3, y2, y1]) := by kernel_rfl
theorem q28_16_5 (G : Ex → AF → AH → Option AV) (y5 y4 y3 y2 y1 : Int) (s : Nat → Bool) : rd28 [y5, y4, y3, y2, y1] 17 G s = G (.exit 0) (fr28 (outS 2 [y5, y4, y3, y2, y1]) 17) (hpS 2 (heap0 (room2F s)) [y5, y4, y3, y2, y1]) := by kernel_rfl
theorem e28_5 (y5 y4 y3 y2 y1 : Int) (s : Nat → Bool) : ke28 s (.exit 0) (fr28 (outS 2 [y5, y4, y3, y2, y1]) 17) (hpS 2 (heap0 (room2F s)) [y5, y4, y3, y2, y1]) = some (resS [y5, y4, y3, y2, y1]) := by kernel_rfl
theorem q28_16_6 (G : Ex → AF → AH → Option AV) (y6 y5 y4 y3 y2 y1 : Int) (s : Nat → Bool) : rd28 [y6, y5, y4, y3, y2, y1] 17 G s = G (.exit 0) (fr28 (outS 2 [y6, y5, y4, y3, y2, y1]) 17) (hpS 2 (heap0 (room2F s)) [y6, y5, y4, y3, y2, y1]) := by kernel_rfl
theorem e28_6 (y6 y5 y4 y3 y2 y1 : Int) (s : Nat → Bool) : ke28 s (.exit 0) (fr28 (outS 2 [y6, y5, y4, y3, y2, y1]) 17) (hpS 2 (heap0 (room2F s)) [y6, y5, y4, y3, y2, y1]) = some (resS [y6, y5, y4, y3, y2, y1]) := by kernel_rfl
theorem q28_16_7 (G : Ex → AF → AH → Option AV) (y7 y6 y5 y4 y3 y2 y1 : Int) (s : Nat → Bool) : rd28 [y7, y6, y5, y4, y3, y2, y1] 17 G s = G (.exit 0) (fr28 (outS 2 [y7, y6, y5, y4, y3, y2, y1]) 17) (hpS 2 (heap0 (room2F s)) [y7, y6, y5, y4, y3, y2, y1]) := by kernel_rfl
theorem e28_7 (y7 y6 y5 y4 y3 y2 y1 : Int) (s : Nat → Bool) : ke28 s (.exit 0) (fr28 (outS 2 [y7, y6, y5, y4, y3, y2, y1]) 17) (hpS 2 (heap0 (room2F s)) [y7, y6, y5, y4, y3, y2, y1]) = some (resS [y7, y6, y5, y4, y3, y2, y1]) := by kernel_rfl
theorem q28_16_8 (G : Ex → AF → AH → Option AV) (y8 y7 y6 y5 y4 y3 y2 y1 : Int) (s : Nat → Bool) : rd28 [y8, y7, y6, y5, y4, y3, y2, y1] 17 G s = G (.exit 0) (fr28 (outS 2 [y8, y7, y6, y5, y4, y3, y2, y1]) 17) (hpS 2 (heap0 (room2F s)) [y8, y7, y6, y5, y4, y3, y2, y1]) := by kernel_rfl
theorem e28_8 (y8 y7 y6 y5 y4 y3 y2 y1 : Int) (s : Nat → Bool) : ke28 s (.exit 0) (fr28 (outS 2 [y8, y7, y6, y5, y4, y3, y2, y1]) 17) (hpS 2 (heap0 (room2F s)) [y8, y7, y6, y5, y4, y3, y2, y1]) = some (resS [y8, y7, y6, y5, y4, y3, y2, y1]) := by kernel_rfl
theorem q28_16_9 (G : Ex → AF → AH → Option AV) (y9 y8 y7 y6 y5 y4 y3 y2 y1 : Int) (s : Nat → Bool) : rd28 [y9, y8, y7, y6, y5, y4, y3, y2, y1] 17 G s = G (.exit 0) (fr28 (outS 2 [y9, y8, y7, y6, y5, y4, y3, y2, y1]) 17) (hpS 2 (heap0 (room2F s)) [y9, y8, y7, y6, y5, y4, y3, y2, y1]) := by kernel_rfl
theorem e28_9 (y9 y8 y7 y6 y5 y4 y3 y2 y1 : Int) (s : Nat → Bool) : ke28 s (.exit 0) (fr28 (outS 2 [y9, y8, y7, y6, y5, y4, y3, y2, y1]) 17) (hpS 2 (heap0 (room2F s)) [y9, y8, y7, y6, y5, y4, y3, y2, y1]) = some (resS [y9, y8, y7, y6, y5, y4, y3, y2, y1]) := by kernel_rfl
theorem q28_16_10 (G : Ex → AF → AH → Option AV) (y10 y9 y8 y7 y6 y5 y4 y3 y2 y1 : Int) (s : Nat → Bool) : rd28 [y10, y9, y8, y7, y6, y5, y4, y3, y2, y1] 17 G s = G (.exit 0) (fr28 (outS 2 [y10, y9, y8, y7, y6, y5, y4, y3, y2, y1]) 17) (hpS 2 (heap0 (room2F s)) [y10, y9, y8, y7, y6, y5, y4, y3, y2, y1]) := by kernel_rfl
theorem e28_10 (y10 y9 y8 y7 y6 y5 y4 y3 y2 y1 : Int) (s : Nat → Bool) : ke28 s (.exit 0) (fr28 (outS 2 [y10, y9, y8, y7, y6, y5, y4, y3, y2, y1]) 17) (hpS 2 (heap0 (room2F s)) [y10, y9, y8, y7, y6, y5, y4, y3, y2, y1]) = some (resS [y10, y9, y8, y7, y6, y5, y4, y3, y2, y1]) := by kernel_rfl
theorem q28_16_11 (G : Ex → AF → AH → Option AV) (y11 y10 y9 y8 y7 y6 y5 y4 y3 y2 y1 : Int) (s : Nat → Bool) : rd28 [y11, y10, y9, y8, y7, y6, y5, y4, y3, y2, y1] 17 G s = G (.exit 0) (fr28 (outS 2 [y11, y10, y9, y8, y7, y6, y5, y4, y3, y2, y1]) 17) (hpS 2 (heap0 (room2F s)) [y11, y10, y9, y8, y7, y6, y5, y4, y3, y2, y1]) := by kernel_rfl
theorem e28_11 (y11 y10 y9 y8 y7 y6 y5 y4 y3 y2 y1 : Int) (s : Nat → Bool) : ke28 s (.exit 0) (fr28 (outS 2 [y11, y10, y9, y8, y7, y6, y5, y4, y3, y2, y1]) 17) (hpS 2 (heap0 (room2F s)) [y11, y10, y9, y8, y7, y6, y5, y4, y3, y2, y1]) = some (resS [y11, y10, y9, y8, y7, y6, y5, y4, y3, y2, y1]) := by kernel_rfl
theorem q28_16_12 (G : Ex → AF → AH → Option AV) (y12 y11 y10 y9 y8 y7 y6 y5 y4 y3 y2 y1 : Int) (s : Nat → Bool) : rd28 [y12, y11, y10, y9, y8, y7, y6, y5, y4, y3, y2, y1] 17 G s = G (.exit 0) (fr28 (outS 2 [y12, y11, y10, y9, y8, y7, y6, y5, y4, y3, y2, y1]) 17) (hpS 2 (heap0 (room2F s)) [y12, y11, y10, y9, y8, y7, y6, y5, y4, y3, y2, y1]) := by kernel_rfl
theorem e28_12 (y12 y11 y10 y9 y8 y7 y6 y5 y4 y3 y2 y1 : Int) (s : Nat → Bool) : ke28 s (.exit 0) (fr28 (outS 2 [y12, y11, y10, y9, y8, y7, y6, y5, y4, y3, y2, y1]) 17) (hpS 2 (heap0 (room2F s)) [y12, y11, y10, y9, y8, y7, y6, y5, y4, y3, y2, y1]) = some (resS [y12, y11, y10, y9, y8, y7, y6, y5, y4, y3, y2, y1]) := by kernel_rfl
theorem q28_16_13 (G : Ex → AF → AH → Option AV) (y13 y12 y11 y10 y9 y8 y7 y6 y5 y4 y3 y2 y1 : Int) (s : Nat → Bool) : rd28 [y13, y12, y11, y10, y9, y8, y7, y6, y5, y4, y3, y2, y1] 17 G s = G (.exit 0) (fr28 (outS 2 [y13, y12, y11, y10, y9, y8, y7, y6, y5, y4, y3, y2, y1]) 17) (hpS 2 (heap0 (room2F s)) [y13, y12, y11, y10, y9, y8, y7, y6, y5, y4, y3, y2, y1]) := by kernel_rfl
theorem e28_13 (y13 y12 y11 y10 y9 y8 y7 y6 y5 y4 y3 y2 y1 : Int) (s : Nat → Bool) : ke28 s (.exit 0) (fr28 (outS 2 [y13, y12, y11, y10, y9, y8, y7, y6, y5, y4, y3, y2, y1]) 17) (hpS 2 (heap0 (room2F s)) [y13, y12, y11, y10, y9, y8, y7, y6, y5, y4, y3, y2, y1]) = some (resS [y13, y12, y11, y10, y9, y8, y7, y6, y5, y4, y3, y2, y1]) := by kernel_rfl
theorem q28_16_14 (G : Ex → AF → AH → Option AV) (y14 y13 y12 y11 y10 y9 y8 y7 y6 y5 y4 y3 y2 y1 : Int) (s : Nat → Bool) : rd28 [y14, y13, y12, y11, y10, y9, y8, y7, y6, y5, y4, y3, y2, y1] 17 G s = G (.exit 0) (fr28 (outS 2 [y14, y13, y12, y11, y10, y9, y8, y7, y6, y5, y4, y3, y2, y1]) 17) (hpS 2 (heap0 (room2F s)) [y14, y13, y12, y11, y10, y9, y8, y7, y6, y5, y4, y3, y2, y1]) := by kernel_rfl
theorem e28_14 (y14 y13 y12 y11 y10 y9 y8 y7 y6 y5 y4 y3 y2 y1 : Int) (s : Nat → Bool) : ke28 s (.exit 0) (fr28 (outS 2 [y14, y13, y12, y11, y10, y9, y8, y7, y6, y5, y4, y3, y2, y1]) 17) (hpS 2 (heap0 (room2F s)) [y14, y13, y12, y11, y10, y9, y8, y7, y6, y5, y4, y3, y2, y1]) = some (resS [y14, y13, y12, y11, y10, y9, y8, y7, y6, y5, y4, y3, y2, y1]) := by kernel_rfl
theorem q28_16_15 (G : Ex → AF → AH → Option AV) (y15 y14 y13 y12 y11 y10 y9 y8 y7 y6 y5 y4 y3 y2 y1 : Int) (s : Nat → Bool) : rd28 [y15, y14, y13, y12, y11, y10, y9, y8, y7, y6, y5, y4, y3, y2, y1] 17 G s = G (.exit 0) (fr28 (outS 2 [y15, y14, y13, y12, y11, y10, y9, y8, y7, y6, y5, y4, y3, y2, y1]) 17) (hpS 2 (heap0 (room2F s)) [y15, y14, y13, y12, y11, y10, y9, y8, y7, y6, y5, y4, y3, y2, y1]) := by kernel_rfl
theorem e28_15 (y15 y14 y13 y12 y11 y10 y9 y8 y7 y6 y5 y4 y3 y2 y1 : Int) (s : Nat → Bool) : ke28 s (.exit 0) (fr28 (outS 2 [y15, y14, y13, y12, y11, y10, y9, y8, y7, y6, y5, y4, y3, y2, y1]) 17) (hpS 2 (heap0 (room2F s)) [y15, y14, y13, y12, y11, y10, y9, y8, y7, y6, y5, y4, y3, y2, y1]) = some (resS [y15, y14, y13, y12, y11, y10, y9, y8, y7, y6, y5, y4, y3, y2, y1]) := by kernel_rfl
theorem q28_16_16 (G : Ex → AF → AH → Option AV) (y16 y15 y14 y13 y12 y11 y10 y9 y8 y7 y6 y5 y4 y3 y2 y1 : Int) (s : Nat → Bool) : rd28 [y16, y15, y14, y13, y12, y11, y10, y9, y8, y7, y6, y5, y4, y3, y2, y1] 17 G s = G (.exit 0) (fr28 (outS 2 [y16, y15, y14, y13, y12, y11, y10, y9, y8, y7, y6, y5, y4, y3, y2, y1]) 17) (hpS 2 (heap0 (room2F s)) [y16, y15, y14, y13, y12, y11, y10, y9, y8, y7, y6, y5, y4, y3, y2, y1]) := by kernel_rfl
theorem e28_16 (y16 y15 y14 y13 y12 y11 y10 y9 y8 y7 y6 y5 y4 y3 y2 y1 : Int) (s : Nat → Bool) : ke28 s (.exit 0) (fr28 (outS 2 [y16, y15, y14, y13, y12, y11, y10, y9, y8, y7, y6, y5, y4, y3, y2, y1]) 17) (hpS 2 (heap0 (room2F s)) [y16, y15, y14, y13, y12, y11, y10, y9, y8, y7, y6, y5, y4, y3, y2, y1]) = some (resS [y16, y15, y14, y13, y12, y11, y10, y9, y8, y7, y6, y5, y4, y3, y2, y1]) := by kernel_rfl
theorem p28_16 (m : Nat) (s : Nat → Bool) : ∀ ys : List Int, ys.length ≤ 16 → lp28 (m + 1) ys 17 (ke28 s) s = some (resS (accS 17 [] ys)) := by
  intro ys hy
  match ys, hy with
  | [], _ => rw [st28, q28_16_0, gx28]; exact e28_0  s
  | [y1], _ => rw [st28, q28_16_1, gx28]; exact e28_1 y1 s
  | [y2, y1], _ => rw [st28, q28_16_2, gx28]; exact e28_2 y2 y1 s
  | [y3, y2, y1], _ => rw [st28, q28_16_3, gx28]; exact e28_3 y3 y2 y1 s
  | [y4, y3, y2, y1], _ => rw [st28, q28_16_4, gx28]; exact e28_4 y4 y3 y2 y1 s
  | [y5, y4, y3, y2, y1], _ => rw [st28, q28_16_5, gx28]; exact e28_5 y5 y4 y3 y2 y1 s
  | [y6, y5, y4, y3, y2, y1], _ => rw [st28, q28_16_6, gx28]; exact e28_6 y6 y5 y4 y3 y2 y1 s
  | [y7, y6, y5, y4, y3, y2, y1], _ => rw [st28, q28_16_7, gx28]; exact e28_7 y7 y6 y5 y4 y3 y2 y1 s
  | [y8, y7, y6, y5, y4, y3, y2, y1], _ => rw [st28, q28_16_8, gx28]; exact e28_8 y8 y7 y6 y5 y4 y3 y2 y1 s
  | [y9, y8, y7, y6, y5, y4, y3, y2, y1], _ => rw [st28, q28_16_9, gx28]; exact e28_9 y9 y8 y7 y6 y5 y4 y3 y2 y1 s
  | [y10, y9, y8, y7, y6, y5, y4, y3, y2, y1], _ => rw [st28, q28_16_10, gx28]; exact e28_10 y10 y9 y8 y7 y6 y5 y4 y3 y2 y1 s
  | [y11, y10, y9, y8, y7, y6, y5, y4, y3, y2, y1], _ => rw [st28, q28_16_11, gx28]; exact e28_11 y11 y10 y9 y8 y7 y6 y5 y4 y3 y2 y1 s
  | [y12, y11, y10, y9, y8, y7, y6, y5, y4, y3, y2, y1], _ => rw [st28, q28_16_12, gx28]; exact e28_12 y12 y11 y10 y9 y8 y7 y6 y5 y4 y3 y2 y1 s
  | [y13, y12, y11, y10, y9, y8, y7, y6, y5, y4, y3, y2, y1], _ => rw [st28, q28_16_13, gx28]; exact e28_13 y13 y12 y11 y10 y9 y8 y7 y6 y5 y4 y3 y2 y1 s
  | [y14, y13, y12, y11, y10, y9, y8, y7, y6, y5, y4, y3, y2, y1], _ => rw [st28, q28_16_14, gx28]; exact e28_14 y14 y13 y12 y11 y10 y9 y8 y7 y6 y5 y4 y3 y2 y1 s
  | [y15, y14, y13, y12, y11, y10, y9, y8, y7, y6, y5, y4, y3, y2, y1], _ => rw [st28, q28_16_15, gx28]; exact e28_15 y15 y14 y13 y12 y11 y10 y9 y8 y7 y6 y5 y4 y3 y2 y1 s
  | [y16, y15, y14, y13, y12, y11, y10, y9, y8, y7, y6, y5, y4, y3, y2, y1], _ => rw [st28, q28_16_16, gx28]; exact e28_16 y16 y15 y14 y13 y12 y11 y10 y9 y8 y7 y6 y5 y4 y3 y2 y1 s
  | _ :: _ :: _ :: _ :: _ :: _ :: _ :: _ :: _ :: _ :: _ :: _ :: _ :: _ :: _ :: _ :: _ :: _, h => simp at h; try omega
theorem p28_15 (m : Nat) (s : Nat → Bool) : ∀ ys : List Int, ys.length ≤ 15 → lp28 (m + 2) ys 16 (ke28 s) s = some (resS (accS 16 [s 16] ys)) := by
  intro ys hy
  match ys, hy with
  | [], _ => rw [show m + 2 = (m + 1) + 1 from rfl, st28, q28_15_0, gn28, gn28, accS_cons, show (16 : Int) + 1 = 17 from rfl]; cases s 16 with
    | true => rw [cond_true, cond_true]; exact p28_16 m s [16] (by simp)
    | false => rw [cond_false, cond_false]; exact p28_16 m s [] (by simp)
  | [y1], _ => rw [show m + 2 = (m + 1) + 1 from rfl, st28, q28_15_1, gn28, gn28, accS_cons, show (16 : Int) + 1 = 17 from rfl]; cases s 16 with
    | true => rw [cond_true, cond_true]; exact p28_16 m s [16, y1] (by simp)
    | false => rw [cond_false, cond_false]; exact p28_16 m s [y1] (by simp)
  | [y2, y1], _ => rw [show m + 2 = (m + 1) + 1 from rfl, st28, q28_15_2, gn28, gn28, accS_cons, show (16 : Int) + 1 = 17 from rfl]; cases s 16 with
    | true => rw [cond_true, cond_true]; exact p28_16 m s [16, y2, y1] (by simp)
    | false => rw [cond_false, cond_false]; exact p28_16 m s [y2, y1] (by simp)
  | [y3, y2, y1], _ => rw [show m + 2 = (m + 1) + 1 from rfl, st28, q28_15_3, gn28, gn28, accS_cons, show (16 : Int) + 1 = 17 from rfl]; cases s 16 with
    | true => rw [cond_true, cond_true]; exact p28_16 m s [16, y3, y2, y1] (by simp)
    | false => rw [cond_false, cond_false]; exact p28_16 m s [y3, y2, y1] (by simp)
  | [y4, y3, y2, y1], _ => rw [show m + 2 = (m + 1) + 1 from rfl, st28, q28_15_4, gn28, gn28, accS_cons, show (16 : Int) + 1 = 17 from rfl]; cases s 16 with
    | true => rw [cond_true, cond_true]; exact p28_16 m s [16, y4, y3, y2, y1] (by simp)
    | false => rw [cond_false, cond_false]; exact p28_16 m s [y4, y3, y2, y1] (by simp)
  | [y5, y4, y3, y2, y1], _ => rw [show m + 2 = (m + 1) + 1 from rfl, st28, q28_15_5, gn28, gn28, accS_cons, show (16 : Int) + 1 = 17 from rfl]; cases s 16 with
    | true => rw [cond_true, cond_true]; exact p28_16 m s [16, y5, y4, y3, y2, y1] (by simp)
    | false => rw [cond_false, cond_false]; exact p28_16 m s [y5, y4, y3, y2, y1] (by simp)
  | [y6, y5, y4, y3, y2, y1], _ => rw [show m + 2 = (m + 1) + 1 from rfl, st28, q28_15_6, gn28, gn28, accS_cons, show (16 : Int) + 1 = 17 from rfl]; cases s 16 with
    | true => rw [cond_true, cond_true]; exact p28_16 m s [16, y6, y5, y4, y3, y2, y1] (by simp)
    | false => rw [cond_false, cond_false]; exact p28_16 m s [y6, y5, y4, y3, y2, y1] (by simp)
  | [y7, y6, y5, y4, y3, y2, y1], _ => rw [show m + 2 = (m + 1) + 1 from rfl, st28, q28_15_7, gn28, gn28, accS_cons, show (16 : Int) + 1 = 17 from rfl]; cases s 16 with
    | true => rw [cond_true, cond_true]; exact p28_16 m s [16, y7, y6, y5, y4, y3, y2, y1] (by simp)
    | false => rw [cond_false, cond_false]; exact p28_16 m s [y7, y6, y5, y4, y3, y2, y1] (by simp)
  | [y8, y7, y6, y5, y4, y3, y2, y1], _ => rw [show m + 2 = (m + 1) + 1 from rfl, st28, q28_15_8, gn28, gn28, accS_cons, show (16 : Int) + 1 = 17 from rfl]; cases s 16 with
    | true => rw [cond_true, cond_true]; exact p28_16 m s [16, y8, y7, y6, y5, y4, y3, y2, y1] (by simp)
    | false => rw [cond_false, cond_false]; exact p28_16 m s [y8, y7, y6, y5, y4, y3, y2, y1] (by simp)
  | [y9, y8, y7, y6, y5, y4, y3, y2, y1], _ => rw [show m + 2 = (m + 1) + 1 from rfl, st28, q28_15_9, gn28, gn28, accS_cons, show (16 : Int) + 1 = 17 from rfl]; cases s 16 with
    | true => rw [cond_true, cond_true]; exact p28_16 m s [16, y9, y8, y7, y6, y5, y4, y3, y2, y1] (by simp)
    | false => rw [cond_false, cond_false]; exact p28_16 m s [y9, y8, y7, y6, y5, y4, y3, y2, y1] (by simp)
  | [y10, y9, y8, y7, y6, y5, y4, y3, y2, y1], _ => rw [show m + 2 = (m + 1) + 1 from rfl, st28, q28_15_10, gn28, gn28, accS_cons, show (16 : Int) + 1 = 17 from rfl]; cases s 16 with
    | true => rw [cond_true, cond_true]; exact p28_16 m s [16, y10, y9, y8, y7, y6, y5, y4, y3, y2, y1] (by simp)
    | false => rw [cond_false, cond_false]; exact p28_16 m s [y10, y9, y8, y7, y6, y5, y4, y3, y2, y1] (by simp)
  | [y11, y10, y9, y8, y7, y6, y5, y4, y3, y2, y1], _ => rw [show m + 2 = (m + 1) + 1 from rfl, st28, q28_15_11, gn28, gn28, accS_cons, show (16 : Int) + 1 = 17 from rfl]; cases s 16 with
    | true => rw [cond_true, cond_true]; exact p28_16 m s [16, y11, y10, y9, y8, y7, y6, y5, y4, y3, y2, y1] (by simp)
    | false => rw [cond_false, cond_false]; exact p28_16 m s [y11, y10, y9, y8, y7, y6, y5, y4, y3, y2, y1] (by simp)
  | [y12, y11, y10, y9, y8, y7, y6, y5, y4, y3, y2, y1], _ => rw [show m + 2 = (m + 1) + 1 from rfl, st28, q28_15_12, gn28, gn28, accS_cons, show (16 : Int) + 1 = 17 from rfl]; cases s 16 with
    | true => rw [cond_true, cond_true]; exact p28_16 m s [16, y12, y11, y10, y9, y8, y7, y6, y5, y4, y3, y2, y1] (by simp)
    | false => rw [cond_false, cond_false]; exact p28_16 m s [y12, y11, y10, y9, y8, y7, y6, y5, y4, y3, y2, y1] (by simp)
  | [y13, y12, y11, y10, y9, y8, y7, y6, y5, y4, y3, y2, y1], _ => rw [show m + 2 = (m + 1) + 1 from rfl, st28, q28_15_13, gn28, gn28, accS_cons, show (16 : Int) + 1 = 17 from rfl]; cases s 16 with
    | true => rw [cond_true, cond_true]; exact p28_16 m s [16, y13, y12, y11, y10, y9, y8, y7, y6, y5, y4, y3, y2, y1] (by simp)
    | false => rw [cond_false, cond_false]; exact p28_16 m s [y13, y12, y11, y10, y9, y8, y7, y6, y5, y4, y3, y2, y1] (by simp)
  | [y14, y13, y12, y11, y10, y9, y8, y7, y6, y5, y4, y3, y2, y1], _ => rw [show m + 2 = (m + 1) + 1 from rfl, st28, q28_15_14, gn28, gn28, accS_cons, show (16 : Int) + 1 = 17 from rfl]; cases s 16 with
    | true => rw [cond_true, cond_true]; exact p28_16 m s [16, y14, y13, y12, y11, y10, y9, y8, y7, y6, y5, y4, y3, y2, y1] (by simp)
    | false => rw [cond_false, cond_false]; exact p28_16 m s [y14, y13, y12, y11, y10, y9, y8, y7, y6, y5, y4, y3, y2, y1] (by simp)
  | [y15, y14, y13, y12, y11, y10, y9, y8, y7, y6, y5, y4, y3, y2, y1], _ => rw [show m + 2 = (m + 1) + 1 from rfl, st28, q28_15_15, gn28, gn28, accS_cons, show (16 : Int) + 1 = 17 from rfl]; cases s 16 with
    | true => rw [cond_true, cond_true]; exact p28_16 m s [16, y15, y14, y13, y12, y11, y10, y9, y8, y7, y6, y5, y4, y3, y2, y1] (by simp)
    | false => rw [cond_false, cond_false]; exact p28_16 m s [y15, y14, y13, y12, y11, y10, y9, y8, y7, y6, y5, y4, y3, y2, y1] (by simp)
  | _ :: _ :: _ :: _ :: _ :: _ :: _ :: _ :: _ :: _ :: _ :: _ :: _ :: _ :: _ :: _ :: _, h => simp at h; try omega
theorem p28_14 (m : Nat) (s : Nat → Bool) : ∀ ys : List Int, ys.length ≤ 14 → lp28 (m + 3) ys 15 (ke28 s) s = some (resS (accS 15 [s 15, s 16] ys)) := by
  intro ys hy
  match ys, hy with
  | [], _ => rw [show m + 3 = (m + 2) + 1 from rfl, st28, q28_14_0, gn28, gn28, accS_cons, show (15 : Int) + 1 = 16 from rfl]; cases s 15 with
    | true => rw [cond_true, cond_true]; exact p28_15 m s [15] (by simp)
    | false => rw [cond_false, cond_false]; exact p28_15 m s [] (by simp)
  | [y1], _ => rw [show m + 3 = (m + 2) + 1 from rfl, st28, q28_14_1, gn28, gn28, accS_cons, show (15 : Int) + 1 = 16 from rfl]; cases s 15 with
    | true => rw [cond_true, cond_true]; exact p28_15 m s [15, y1] (by simp)
    | false => rw [cond_false, cond_false]; exact p28_15 m s [y1] (by simp)
  | [y2, y1], _ => rw [show m + 3 = (m + 2) + 1 from rfl, st28, q28_14_2, gn28, gn28, accS_cons, show (15 : Int) + 1 = 16 from rfl]; cases s 15 with
    | true => rw [cond_true, cond_true]; exact p28_15 m s [15, y2, y1] (by simp)
    | false => rw [cond_false, cond_false]; exact p28_15 m s [y2, y1] (by simp)
  | [y3, y2, y1], _ => rw [show m + 3 = (m + 2) + 1 from rfl, st28, q28_14_3, gn28, gn28, accS_cons, show (15 : Int) + 1 = 16 from rfl]; cases s 15 with
    | true => rw [cond_true, cond_true]; exact p28_15 m s [15, y3, y2, y1] (by simp)
    | false => rw [cond_false, cond_false]; exact p28_15 m s [y3, y2, y1] (by simp)
  | [y4, y3, y2, y1], _ => rw [show m + 3 = (m + 2) + 1 from rfl, st28, q28_14_4, gn28, gn28, accS_cons, show (15 : Int) + 1 = 16 from rfl]; cases s 15 with
    | true => rw [cond_true, cond_true]; exact p28_15 m s [15, y4, y3, y2, y1] (by simp)
    | false => rw [cond_false, cond_false]; exact p28_15 m s [y4, y3, y2, y1] (by simp)
  | [y5, y4, y3, y2, y1], _ => rw [show m + 3 = (m + 2) + 1 from rfl, st28, q28_14_5, gn28, gn28, accS_cons, show (15 : Int) + 1 = 16 from rfl]; cases s 15 with
    | true => rw [cond_true, cond_true]; exact p28_15 m s [15, y5, y4, y3, y2, y1] (by simp)
    | false => rw [cond_false, cond_false]; exact p28_15 m s [y5, y4, y3, y2, y1] (by simp)
  | [y6, y5, y4, y3, y2, y1], _ => rw [show m + 3 = (m + 2) + 1 from rfl, st28, q28_14_6, gn28, gn28, accS_cons, show (15 : Int) + 1 = 16 from rfl]; cases s 15 with
    | true => rw [cond_true, cond_true]; exact p28_15 m s [15, y6, y5, y4, y3, y2, y1] (by simp)
    | false => rw [cond_false, cond_false]; exact p28_15 m s [y6, y5, y4, y3, y2, y1] (by simp)
  | [y7, y6, y5, y4, y3, y2, y1], _ => rw [show m + 3 = (m + 2) + 1 from rfl, st28, q28_14_7, gn28, gn28, accS_cons, show (15 : Int) + 1 = 16 from rfl]; cases s 15 with
    | true => rw [cond_true, cond_true]; exact p28_15 m s [15, y7, y6, y5, y4, y3, y2, y1] (by simp)
    | false => rw [cond_false, cond_false]; exact p28_15 m s [y7, y6, y5, y4, y3, y2, y1] (by simp)
  | [y8, y7, y6, y5, y4, y3, y2, y1], _ => rw [show m + 3 = (m + 2) + 1 from rfl, st28, q28_14_8, gn28, gn28, accS_cons, show (15 : Int) + 1 = 16 from rfl]; cases s 15 with
    | true => rw [cond_true, cond_true]; exact p28_15 m s [15, y8, y7, y6, y5, y4, y3, y2, y1] (by simp)
    | false => rw [cond_false, cond_false]; exact p28_15 m s [y8, y7, y6, y5, y4, y3, y2, y1] (by simp)
  | [y9, y8, y7, y6, y5, y4, y3, y2, y1], _ => rw [show m + 3 = (m + 2) + 1 from rfl, st28, q28_14_9, gn28, gn28, accS_cons, show (15 : Int) + 1 = 16 from rfl]; cases s 15 with
    | true => rw [cond_true, cond_true]; exact p28_15 m s [15, y9, y8, y7, y6, y5, y4, y3, y2, y1] (by simp)
    | false => rw [cond_false, cond_false]; exact p28_15 m s [y9, y8, y7, y6, y5, y4, y3, y2, y1] (by simp)
  | [y10, y9, y8, y7, y6, y5, y4, y3, y2, y1], _ => rw [show m + 3 = (m + 2) + 1 from rfl, st28, q28_14_10, gn28, gn28, accS_cons, show (15 : Int) + 1 = 16 from rfl]; cases s 15 with
    | true => rw [cond_true, cond_true]; exact p28_15 m s [15, y10, y9, y8, y7, y6, y5, y4, y3, y2, y1] (by simp)
    | false => rw [cond_false, cond_false]; exact p28_15 m s [y10, y9, y8, y7, y6, y5, y4, y3, y2, y1] (by simp)
  | [y11, y10, y9, y8, y7, y6, y5, y4, y3, y2, y1], _ => rw [show m + 3 = (m + 2) + 1 from rfl, st28, q28_14_11, gn28, gn28, accS_cons, show (15 : Int) + 1 = 16 from rfl]; cases s 15 with
    | true => rw [cond_true, cond_true]; exact p28_15 m s [15, y11, y10, y9, y8, y7, y6, y5, y4, y3, y2, y1] (by simp)
    | false => rw [cond_false, cond_false]; exact p28_15 m s [y11, y10, y9, y8, y7, y6, y5, y4, y3, y2, y1] (by simp)
  | [y12, y11, y10, y9, y8, y7, y6, y5, y4, y3, y2, y1], _ => rw [show m + 3 = (m + 2) + 1 from rfl, st28, q28_14_12, gn28, gn28, accS_cons, show (15 : Int) + 1 = 16 from rfl]; cases s 15 with
    | true => rw [cond_true, cond_true]; exact p28_15 m s [15, y12, y11, y10, y9, y8, y7, y6, y5, y4, y3, y2, y1] (by simp)
    | false => rw [cond_false, cond_false]; exact p28_15 m s [y12, y11, y10, y9, y8, y7, y6, y5, y4, y3, y2, y1] (by simp)
  | [y13, y12, y11, y10, y9, y8, y7, y6, y5, y4, y3, y2, y1], _ => rw [show m + 3 = (m + 2) + 1 from rfl, st28, q28_14_13, gn28, gn28, accS_cons, show (15 : Int) + 1 = 16 from rfl]; cases s 15 with
    | true => rw [cond_true, cond_true]; exact p28_15 m s [15, y13, y12, y11, y10, y9, y8, y7, y6, y5, y4, y3, y2, y1] (by simp)
    | false => rw [cond_false, cond_false]; exact p28_15 m s [y13, y12, y11, y10, y9, y8, y7, y6, y5, y4, y3, y2, y1] (by simp)
  | [y14, y13, y12, y11, y10, y9, y8, y7, y6, y5, y4, y3, y2, y1], _ => rw [show m + 3 = (m + 2) + 1 from rfl, st28, q28_14_14, gn28, gn28, accS_cons, show (15 : Int) + 1 = 16 from rfl]; cases s 15 with
    | true => rw [cond_true, cond_true]; exact p28_15 m s [15, y14, y13, y12, y11, y10, y9, y8, y7, y6, y5, y4, y3, y2, y1] (by simp)
    | false => rw [cond_false, cond_false]; exact p28_15 m s [y14, y13, y12, y11, y10, y9, y8, y7, y6, y5, y4, y3, y2, y1] (by simp)
  | _ :: _ :: _ :: _ :: _ :: _ :: _ :: _ :: _ :: _ :: _ :: _ :: _ :: _ :: _ :: _, h => simp at h; try omega
theorem p28_13 (m : Nat) (s : Nat → Bool) : ∀ ys : List Int, ys.length ≤ 13 → lp28 (m + 4) ys 14 (ke28 s) s = some (resS (accS 14 [s 14, s 15, s 16] ys)) := by
  intro ys hy
  match ys, hy with
  | [], _ => rw [show m + 4 = (m + 3) + 1 from rfl, st28, q28_13_0, gn28, gn28, accS_cons, show (14 : Int) + 1 = 15 from rfl]; cases s 14 with
    | true => rw [cond_true, cond_true]; exact p28_14 m s [14] (by simp)
    | false => rw [cond_false, cond_false]; exact p28_14 m s [] (by simp)
  | [y1], _ => rw [show m + 4 = (m + 3) + 1 from rfl, st28, q28_13_1, gn28, gn28, accS_cons, show (14 : Int) + 1 = 15 from rfl]; cases s 14 with
    | true => rw [cond_true, cond_true]; exact p28_14 m s [14, y1] (by simp)
    | false => rw [cond_false, cond_false]; exact p28_14 m s [y1] (by simp)
  | [y2, y1], _ => rw [show m + 4 = (m + 3) + 1 from rfl, st28, q28_13_2, gn28, gn28, accS_cons, show (14 : Int) + 1 = 15 from rfl]; cases s 14 with
    | true => rw [cond_true, cond_true]; exact p28_14 m s [14, y2, y1] (by simp)
    | false => rw [cond_false, cond_false]; exact p28_14 m s [y2, y1] (by simp)
  | [y3, y2, y1], _ => rw [show m + 4 = (m + 3) + 1 from rfl, st28, q28_13_3, gn28, gn28, accS_cons, show (14 : Int) + 1 = 15 from rfl]; cases s 14 with
    | true => rw [cond_true, cond_true]; exact p28_14 m s [14, y3, y2, y1] (by simp)
    | false => rw [cond_false, cond_false]; exact p28_14 m s [y3, y2, y1] (by simp)
  | [y4, y3, y2, y1], _ => rw [show m + 4 = (m + 3) + 1 from rfl, st28, q28_13_4, gn28, gn28, accS_cons, show (14 : Int) + 1 = 15 from rfl]; cases s 14 with
    | true => rw [cond_true, cond_true]; exact p28_14 m s [14, y4, y3, y2, y1] (by simp)
    | false => rw [cond_false, cond_false]; exact p28_14 m s [y4, y3, y2, y1] (by simp)
  | [y5, y4, y3, y2, y1], _ => rw [show m + 4 = (m + 3) + 1 from rfl, st28, q28_13_5, gn28, gn28, accS_cons, show (14 : Int) + 1 = 15 from rfl]; cases s 14 with
    | true => rw [cond_true, cond_true]; exact p28_14 m s [14, y5, y4, y3, y2, y1] (by simp)
    | false => rw [cond_false, cond_false]; exact p28_14 m s [y5, y4, y3, y2, y1] (by simp)
  | [y6, y5, y4, y3, y2, y1], _ => rw [show m + 4 = (m + 3) + 1 from rfl, st28, q28_13_6, gn28, gn28, accS_cons, show (14 : Int) + 1 = 15 from rfl]; cases s 14 with
    | true => rw [cond_true, cond_true]; exact p28_14 m s [14, y6, y5, y4, y3, y2, y1] (by simp)
    | false => rw [cond_false, cond_false]; exact p28_14 m s [y6, y5, y4, y3, y2, y1] (by simp)
  | [y7, y6, y5, y4, y3, y2, y1], _ => rw [show m + 4 = (m + 3) + 1 from rfl, st28, q28_13_7, gn28, gn28, accS_cons, show (14 : Int) + 1 = 15 from rfl]; cases s 14 with
    | true => rw [cond_true, cond_true]; exact p28_14 m s [14, y7, y6, y5, y4, y3, y2, y1] (by simp)
    | false => rw [cond_false, cond_false]; exact p28_14 m s [y7, y6, y5, y4, y3, y2, y1] (by simp)
  | [y8, y7, y6, y5, y4, y3, y2, y1], _ => rw [show m + 4 = (m + 3) + 1 from rfl, st28, q28_13_8, gn28, gn28, accS_cons, show (14 : Int) + 1 = 15 from rfl]; cases s 14 with
    | true => rw [cond_true, cond_true]; exact p28_14 m s [14, y8, y7, y6, y5, y4, y3, y2, y1] (by simp)
    | false => rw [cond_false, cond_false]; exact p28_14 m s [y8, y7, y6, y5, y4, y3, y2, y1] (by simp)
  | [y9, y8, y7, y6, y5, y4, y3, y2, y1], _ => rw [show m + 4 = (m + 3) + 1 from rfl, st28, q28_13_9, gn28, gn28, accS_cons, show (14 : Int) + 1 = 15 from rfl]; cases s 14 with
    | true => rw [cond_true, cond_true]; exact p28_14 m s [14, y9, y8, y7, y6, y5, y4, y3, y2, y1] (by simp)
    | false => rw [cond_false, cond_false]; exact p28_14 m s [y9, y8, y7, y6, y5, y4, y3, y2, y1] (by simp)
  | [y10, y9, y8, y7, y6, y5, y4, y3, y2, y1], _ => rw [show m + 4 = (m + 3) + 1 from rfl, st28, q28_13_10, gn28, gn28, accS_cons, show (14 : Int) + 1 = 15 from rfl]; cases s 14 with
    | true => rw [cond_true, cond_true]; exact p28_14 m s [14, y10, y9, y8, y7, y6, y5, y4, y3, y2, y1] (by simp)
    | false => rw [cond_false, cond_false]; exact p28_14 m s [y10, y9, y8, y7, y6, y5, y4, y3, y2, y1] (by simp)
  | [y11, y10, y9, y8, y7, y6, y5, y4, y3, y2, y1], _ => rw [show m + 4 = (m + 3) + 1 from rfl, st28, q28_13_11, gn28, gn28, accS_cons, show (14 : Int) + 1 = 15 from rfl]; cases s 14 with
    | true => rw [cond_true, cond_true]; exact p28_14 m s [14, y11, y10, y9, y8, y7, y6, y5, y4, y3, y2, y1] (by simp)
    | false => rw [cond_false, cond_false]; exact p28_14 m s [y11, y10, y9, y8, y7, y6, y5, y4, y3, y2, y1] (by simp)
  | [y12, y11, y10, y9, y8, y7, y6, y5, y4, y3, y2, y1], _ => rw [show m + 4 = (m + 3) + 1 from rfl, st28, q28_13_12, gn28, gn28, accS_cons, show (14 : Int) + 1 = 15 from rfl]; cases s 14 with
    | true => rw [cond_true, cond_true]; exact p28_14 m s [14, y12, y11, y10, y9, y8, y7, y6, y5, y4, y3, y2, y1] (by simp)
    | false => rw [cond_false, cond_false]; exact p28_14 m s [y12, y11, y10, y9, y8, y7, y6, y5, y4, y3, y2, y1] (by simp)
  | [y13, y12, y11, y10, y9, y8, y7, y6, y5, y4, y3, y2, y1], _ => rw [show m + 4 = (m + 3) + 1 from rfl, st28, q28_13_13, gn28, gn28, accS_cons, show (14 : Int) + 1 = 15 from rfl]; cases s 14 with
    | true => rw [cond_true, cond_true]; exact p28_14 m s [14, y13, y12, y11, y10, y9, y8, y7, y6, y5, y4, y3, y2, y1] (by simp)
    | false => rw [cond_false, cond_false]; exact p28_14 m s [y13, y12, y11, y10, y9, y8, y7, y6, y5, y4, y3, y2, y1] (by simp)
  | _ :: _ :: _ :: _ :: _ :: _ :: _ :: _ :: _ :: _ :: _ :: _ :: _ :: _ :: _, h => simp at h; try omega
theorem p28_12 (m : Nat) (s : Nat → Bool) : ∀ ys : List Int, ys.length ≤ 12 → lp28 (m + 5) ys 13 (ke28 s) s = some (resS (accS 13 [s 13, s 14, s 15, s 16] ys)) := by
  intro ys hy
  match ys, hy with
  | [], _ => rw [show m + 5 = (m + 4) + 1 from rfl, st28, q28_12_0, gn28, gn28, accS_cons, show (13 : Int) + 1 = 14 from rfl]; cases s 13 with
    | true => rw [cond_true, cond_true]; exact p28_13 m s [13] (by simp)
    | false => rw [cond_false, cond_false]; exact p28_13 m s [] (by simp)
  | [y1], _ => rw [show m + 5 = (m + 4) + 1 from rfl, st28, q28_12_1, gn28, gn28, accS_cons, show (13 : Int) + 1 = 14 from rfl]; cases s 13 with
    | true => rw [cond_true, cond_true]; exact p28_13 m s [13, y1] (by simp)
    | false => rw [cond_false, cond_false]; exact p28_13 m s [y1] (by simp)
  | [y2, y1], _ => rw [show m + 5 = (m + 4) + 1 from rfl, st28, q28_12_2, gn28, gn28, accS_cons, show (13 : Int) + 1 = 14 from rfl]; cases s 13 with
    | true => rw [cond_true, cond_true]; exact p28_13 m s [13, y2, y1] (by simp)
    | false => rw [cond_false, cond_false]; exact p28_13 m s [y2, y1] (by simp)
  | [y3, y2, y1], _ => rw [show m + 5 = (m + 4) + 1 from rfl, st28, q28_12_3, gn28, gn28, accS_cons, show (13 : Int) + 1 = 14 from rfl]; cases s 13 with
    | true => rw [cond_true, cond_true]; exact p28_13 m s [13, y3, y2, y1] (by simp)
    | false => rw [cond_false, cond_false]; exact p28_13 m s [y3, y2, y1] (by simp)
  | [y4, y3, y2, y1], _ => rw [show m + 5 = (m + 4) + 1 from rfl, st28, q28_12_4, gn28, gn28, accS_cons, show (13 : Int) + 1 = 14 from rfl]; cases s 13 with
    | true => rw [cond_true, cond_true]; exact p28_13 m s [13, y4, y3, y2, y1] (by simp)
    | false => rw [cond_false, cond_false]; exact p28_13 m s [y4, y3, y2, y1] (by simp)
  | [y5, y4, y3, y2, y1], _ => rw [show m + 5 = (m + 4) + 1 from rfl, st28, q28_12_5, gn28, gn28, accS_cons, show (13 : Int) + 1 = 14 from rfl]; cases s 13 with
    | true => rw [cond_true, cond_true]; exact p28_13 m s [13, y5, y4, y3, y2, y1] (by simp)
    | false => rw [cond_false, cond_false]; exact p28_13 m s [y5, y4, y3, y2, y1] (by simp)
  | [y6, y5, y4, y3, y2, y1], _ => rw [show m + 5 = (m + 4) + 1 from rfl, st28, q28_12_6, gn28, gn28, accS_cons, show (13 : Int) + 1 = 14 from rfl]; cases s 13 with
    | true => rw [cond_true, cond_true]; exact p28_13 m s [13, y6, y5, y4, y3, y2, y1] (by simp)
    | false => rw [cond_false, cond_false]; exact p28_13 m s [y6, y5, y4, y3, y2, y1] (by simp)
  | [y7, y6, y5, y4, y3, y2, y1], _ => rw [show m + 5 = (m + 4) + 1 from rfl, st28, q28_12_7, gn28, gn28, accS_cons, show (13 : Int) + 1 = 14 from rfl]; cases s 13 with
    | true => rw [cond_true, cond_true]; exact p28_13 m s [13, y7, y6, y5, y4, y3, y2, y1] (by simp)
    | false => rw [cond_false, cond_false]; exact p28_13 m s [y7, y6, y5, y4, y3, y2, y1] (by simp)
  | [y8, y7, y6, y5, y4, y3, y2, y1], _ => rw [show m + 5 = (m + 4) + 1 from rfl, st28, q28_12_8, gn28, gn28, accS_cons, show (13 : Int) + 1 = 14 from rfl]; cases s 13 with
    | true => rw [cond_true, cond_true]; exact p28_13 m s [13, y8, y7, y6, y5, y4, y3, y2, y1] (by simp)
    | false => rw [cond_false, cond_false]; exact p28_13 m s [y8, y7, y6, y5, y4, y3, y2, y1] (by simp)
  | [y9, y8, y7, y6, y5, y4, y3, y2, y1], _ => rw [show m + 5 = (m + 4) + 1 from rfl, st28, q28_12_9, gn28, gn28, accS_cons, show (13 : Int) + 1 = 14 from rfl]; cases s 13 with
    | true => rw [cond_true, cond_true]; exact p28_13 m s [13, y9, y8, y7, y6, y5, y4, y3, y2, y1] (by simp)
    | false => rw [cond_false, cond_false]; exact p28_13 m s [y9, y8, y7, y6, y5, y4, y3, y2, y1] (by simp)
  | [y10, y9, y8, y7, y6, y5, y4, y3, y2, y1], _ => rw [show m + 5 = (m + 4) + 1 from rfl, st28, q28_12_10, gn28, gn28, accS_cons, show (13 : Int) + 1 = 14 from rfl]; cases s 13 with
    | true => rw [cond_true, cond_true]; exact p28_13 m s [13, y10, y9, y8, y7, y6, y5, y4, y3, y2, y1] (by simp)
    | false => rw [cond_false, cond_false]; exact p28_13 m s [y10, y9, y8, y7, y6, y5, y4, y3, y2, y1] (by simp)
  | [y11, y10, y9, y8, y7, y6, y5, y4, y3, y2, y1], _ => rw [show m + 5 = (m + 4) + 1 from rfl, st28, q28_12_11, gn28, gn28, accS_cons, show (13 : Int) + 1 = 14 from rfl]; cases s 13 with
    | true => rw [cond_true, cond_true]; exact p28_13 m s [13, y11, y10, y9, y8, y7, y6, y5, y4, y3, y2, y1] (by simp)
    | false => rw [cond_false, cond_false]; exact p28_13 m s [y11, y10, y9, y8, y7, y6, y5, y4, y3, y2, y1] (by simp)
  | [y12, y11, y10, y9, y8, y7, y6, y5, y4, y3, y2, y1], _ => rw [show m + 5 = (m + 4) + 1 from rfl, st28, q28_12_12, gn28, gn28, accS_cons, show (13 : Int) + 1 = 14 from rfl]; cases s 13 with
    | true => rw [cond_true, cond_true]; exact p28_13 m s [13, y12, y11, y10, y9, y8, y7, y6, y5, y4, y3, y2, y1] (by simp)
    | false => rw [cond_false, cond_false]; exact p28_13 m s [y12, y11, y10, y9, y8, y7, y6, y5, y4, y3, y2, y1] (by simp)
  | _ :: _ :: _ :: _ :: _ :: _ :: _ :: _ :: _ :: _ :: _ :: _ :: _ :: _, h => simp at h; try omega
theorem p28_11 (m : Nat) (s : Nat → Bool) : ∀ ys : List Int, ys.length ≤ 11 → lp28 (m + 6) ys 12 (ke28 s) s = some (resS (accS 12 [s 12, s 13, s 14, s 15, s 16] ys)) := by
  intro ys hy
  match ys, hy with
  | [], _ => rw [show m + 6 = (m + 5) + 1 from rfl, st28, q28_11_0, gn28, gn28, accS_cons, show (12 : Int) + 1 = 13 from rfl]; cases s 12 with
    | true => rw [cond_true, cond_true]; exact p28_12 m s [12] (by simp)
    | false => rw [cond_false, cond_false]; exact p28_12 m s [] (by simp)
  | [y1], _ => rw [show m + 6 = (m + 5) + 1 from rfl, st28, q28_11_1, gn28, gn28, accS_cons, show (12 : Int) + 1 = 13 from rfl]; cases s 12 with
    | true => rw [cond_true, cond_true]; exact p28_12 m s [12, y1] (by simp)
    | false => rw [cond_false, cond_false]; exact p28_12 m s [y1] (by simp)
  | [y2, y1], _ => rw [show m + 6 = (m + 5) + 1 from rfl, st28, q28_11_2, gn28, gn28, accS_cons, show (12 : Int) + 1 = 13 from rfl]; cases s 12 with
    | true => rw [cond_true, cond_true]; exact p28_12 m s [12, y2, y1] (by simp)
    | false => rw [cond_false, cond_false]; exact p28_12 m s [y2, y1] (by simp)
  | [y3, y2, y1], _ => rw [show m + 6 = (m + 5) + 1 from rfl, st28, q28_11_3, gn28, gn28, accS_cons, show (12 : Int) + 1 = 13 from rfl]; cases s 12 with
    | true => rw [cond_true, cond_true]; exact p28_12 m s [12, y3, y2, y1] (by simp)
    | false => rw [cond_false, cond_false]; exact p28_12 m s [y3, y2, y1] (by simp)
  | [y4, y3, y2, y1], _ => rw [show m + 6 = (m + 5) + 1 from rfl, st28, q28_11_4, gn28, gn28, accS_cons, show (12 : Int) + 1 = 13 from rfl]; cases s 12 with
    | true => rw [cond_true, cond_true]; exact p28_12 m s [12, y4, y3, y2, y1] (by simp)
    | false => rw [cond_false, cond_false]; exact p28_12 m s [y4, y3, y2, y1] (by simp)
  | [y5, y4, y3, y2, y1], _ => rw [show m + 6 = (m + 5) + 1 from rfl, st28, q28_11_5, gn28, gn28, accS_cons, show (12 : Int) + 1 = 13 from rfl]; cases s 12 with
    | true => rw [cond_true, cond_true]; exact p28_12 m s [12, y5, y4, y3, y2, y1] (by simp)
    | false => rw [cond_false, cond_false]; exact p28_12 m s [y5, y4, y3, y2, y1] (by simp)
  | [y6, y5, y4, y3, y2, y1], _ => rw [show m + 6 = (m + 5) + 1 from rfl, st28, q28_11_6, gn28, gn28, accS_cons, show (12 : Int) + 1 = 13 from rfl]; cases s 12 with
    | true => rw [cond_true, cond_true]; exact p28_12 m s [12, y6, y5, y4, y3, y2, y1] (by simp)
    | false => rw [cond_false, cond_false]; exact p28_12 m s [y6, y5, y4, y3, y2, y1] (by simp)
  | [y7, y6, y5, y4, y3, y2, y1], _ => rw [show m + 6 = (m + 5) + 1 from rfl, st28, q28_11_7, gn28, gn28, accS_cons, show (12 : Int) + 1 = 13 from rfl]; cases s 12 with
    | true => rw [cond_true, cond_true]; exact p28_12 m s [12, y7, y6, y5, y4, y3, y2, y1] (by simp)
    | false => rw [cond_false, cond_false]; exact p28_12 m s [y7, y6, y5, y4, y3, y2, y1] (by simp)
  | [y8, y7, y6, y5, y4, y3, y2, y1], _ => rw [show m + 6 = (m + 5) + 1 from rfl, st28, q28_11_8, gn28, gn28, accS_cons, show (12 : Int) + 1 = 13 from rfl]; cases s 12 with
    | true => rw [cond_true, cond_true]; exact p28_12 m s [12, y8, y7, y6, y5, y4, y3, y2, y1] (by simp)
    | false => rw [cond_false, cond_false]; exact p28_12 m s [y8, y7, y6, y5, y4, y3, y2, y1] (by simp)
  | [y9, y8, y7, y6, y5, y4, y3, y2, y1], _ => rw [show m + 6 = (m + 5) + 1 from rfl, st28, q28_11_9, gn28, gn28, accS_cons, show (12 : Int) + 1 = 13 from rfl]; cases s 12 with
    | true => rw [cond_true, cond_true]; exact p28_12 m s [12, y9, y8, y7, y6, y5, y4, y3, y2, y1] (by simp)
    | false => rw [cond_false, cond_false]; exact p28_12 m s [y9, y8, y7, y6, y5, y4, y3, y2, y1] (by simp)
  | [y10, y9, y8, y7, y6, y5, y4, y3, y2, y1], _ => rw [show m + 6 = (m + 5) + 1 from rfl, st28, q28_11_10, gn28, gn28, accS_cons, show (12 : Int) + 1 = 13 from rfl]; cases s 12 with
    | true => rw [cond_true, cond_true]; exact p28_12 m s [12, y10, y9, y8, y7, y6, y5, y4, y3, y2, y1] (by simp)
    | false => rw [cond_false, cond_false]; exact p28_12 m s [y10, y9, y8, y7, y6, y5, y4, y3, y2, y1] (by simp)
  | [y11, y10, y9, y8, y7, y6, y5, y4, y3, y2, y1], _ => rw [show m + 6 = (m + 5) + 1 from rfl, st28, q28_11_11, gn28, gn28, accS_cons, show (12 : Int) + 1 = 13 from rfl]; cases s 12 with
    | true => rw [cond_true, cond_true]; exact p28_12 m s [12, y11, y10, y9, y8, y7, y6, y5, y4, y3, y2, y1] (by simp)
    | false => rw [cond_false, cond_false]; exact p28_12 m s [y11, y10, y9, y8, y7, y6, y5, y4, y3, y2, y1] (by simp)
  | _ :: _ :: _ :: _ :: _ :: _ :: _ :: _ :: _ :: _ :: _ :: _ :: _, h => simp at h; try omega
theorem p28_10 (m : Nat) (s : Nat → Bool) : ∀ ys : List Int, ys.length ≤ 10 → lp28 (m + 7) ys 11 (ke28 s) s = some (resS (accS 11 [s 11, s 12, s 13, s 14, s 15, s 16] ys)) := by
  intro ys hy
  match ys, hy with
  | [], _ => rw [show m + 7 = (m + 6) + 1 from rfl, st28, q28_10_0, gn28, gn28, accS_cons, show (11 : Int) + 1 = 12 from rfl]; cases s 11 with
    | true => rw [cond_true, cond_true]; exact p28_11 m s [11] (by simp)
    | false => rw [cond_false, cond_false]; exact p28_11 m s [] (by simp)
  | [y1], _ => rw [show m + 7 = (m + 6) + 1 from rfl, st28, q28_10_1, gn28, gn28, accS_cons, show (11 : Int) + 1 = 12 from rfl]; cases s 11 with
    | true => rw [cond_true, cond_true]; exact p28_11 m s [11, y1] (by simp)
    | false => rw [cond_false, cond_false]; exact p28_11 m s [y1] (by simp)
  | [y2, y1], _ => rw [show m + 7 = (m + 6) + 1 from rfl, st28, q28_10_2, gn28, gn28, accS_cons, show (11 : Int) + 1 = 12 from rfl]; cases s 11 with
    | true => rw [cond_true, cond_true]; exact p28_11 m s [11, y2, y1] (by simp)
    | false => rw [cond_false, cond_false]; exact p28_11 m s [y2, y1] (by simp)
  | [y3, y2, y1], _ => rw [show m + 7 = (m + 6) + 1 from rfl, st28, q28_10_3, gn28, gn28, accS_cons, show (11 : Int) + 1 = 12 from rfl]; cases s 11 with
    | true => rw [cond_true, cond_true]; exact p28_11 m s [11, y3, y2, y1] (by simp)
    | false => rw [cond_false, cond_false]; exact p28_11 m s [y3, y2, y1] (by simp)
  | [y4, y3, y2, y1], _ => rw [show m + 7 = (m + 6) + 1 from rfl, st28, q28_10_4, gn28, gn28, accS_cons, show (11 : Int) + 1 = 12 from rfl]; cases s 11 with
    | true => rw [cond_true, cond_true]; exact p28_11 m s [11, y4, y3, y2, y1] (by simp)
    | false => rw [cond_false, cond_false]; exact p28_11 m s [y4, y3, y2, y1] (by simp)
  | [y5, y4, y3, y2, y1], _ => rw [show m + 7 = (m + 6) + 1 from rfl, st28, q28_10_5, gn28, gn28, accS_cons, show (11 : Int) + 1 = 12 from rfl]; cases s 11 with
    | true => rw [cond_true, cond_true]; exact p28_11 m s [11, y5, y4, y3, y2, y1] (by simp)
    | false => rw [cond_false, cond_false]; exact p28_11 m s [y5, y4, y3, y2, y1] (by simp)
  | [y6, y5, y4, y3, y2, y1], _ => rw [show m + 7 = (m + 6) + 1 from rfl, st28, q28_10_6, gn28, gn28, accS_cons, show (11 : Int) + 1 = 12 from rfl]; cases s 11 with
    | true => rw [cond_true, cond_true]; exact p28_11 m s [11, y6, y5, y4, y3, y2, y1] (by simp)
    | false => rw [cond_false, cond_false]; exact p28_11 m s [y6, y5, y4, y3, y2, y1] (by simp)
  | [y7, y6, y5, y4, y3, y2, y1], _ => rw [show m + 7 = (m + 6) + 1 from rfl, st28, q28_10_7, gn28, gn28, accS_cons, show (11 : Int) + 1 = 12 from rfl]; cases s 11 with
    | true => rw [cond_true, cond_true]; exact p28_11 m s [11, y7, y6, y5, y4, y3, y2, y1] (by simp)
    | false => rw [cond_false, cond_false]; exact p28_11 m s [y7, y6, y5, y4, y3, y2, y1] (by simp)
  | [y8, y7, y6, y5, y4, y3, y2, y1], _ => rw [show m + 7 = (m + 6) + 1 from rfl, st28, q28_10_8, gn28, gn28, accS_cons, show (11 : Int) + 1 = 12 from rfl]; cases s 11 with
    | true => rw [cond_true, cond_true]; exact p28_11 m s [11, y8, y7, y6, y5, y4, y3, y2, y1] (by simp)
    | false => rw [cond_false, cond_false]; exact p28_11 m s [y8, y7, y6, y5, y4, y3, y2, y1] (by simp)
  | [y9, y8, y7, y6, y5, y4, y3, y2, y1], _ => rw [show m + 7 = (m + 6) + 1 from rfl, st28, q28_10_9, gn28, gn28, accS_cons, show (11 : Int) + 1 = 12 from rfl]; cases s 11 with
    | true => rw [cond_true, cond_true]; exact p28_11 m s [11, y9, y8, y7, y6, y5, y4, y3, y2, y1] (by simp)
    | false => rw [cond_false, cond_false]; exact p28_11 m s [y9, y8, y7, y6, y5, y4, y3, y2, y1] (by simp)
  | [y10, y9, y8, y7, y6, y5, y4, y3, y2, y1], _ => rw [show m + 7 = (m + 6) + 1 from rfl, st28, q28_10_10, gn28, gn28, accS_cons, show (11 : Int) + 1 = 12 from rfl]; cases s 11 with
    | true => rw [cond_true, cond_true]; exact p28_11 m s [11, y10, y9, y8, y7, y6, y5, y4, y3, y2, y1] (by simp)
    | false => rw [cond_false, cond_false]; exact p28_11 m s [y10, y9, y8, y7, y6, y5, y4, y3, y2, y1] (by simp)
  | _ :: _ :: _ :: _ :: _ :: _ :: _ :: _ :: _ :: _ :: _ :: _, h => simp at h; try omega
theorem p28_9 (m : Nat) (s : Nat → Bool) : ∀ ys : List Int, ys.length ≤ 9 → lp28 (m + 8) ys 10 (ke28 s) s = some (resS (accS 10 [s 10, s 11, s 12, s 13, s 14, s 15, s 16] ys)) := by
  intro ys hy
  match ys, hy with
  | [], _ => rw [show m + 8 = (m + 7) + 1 from rfl, st28, q28_9_0, gn28, gn28, accS_cons, show (10 : Int) + 1 = 11 from rfl]; cases s 10 with
    | true => rw [cond_true, cond_true]; exact p28_10 m s [10] (by simp)
    | false => rw [cond_false, cond_false]; exact p28_10 m s [] (by simp)
  | [y1], _ => rw [show m + 8 = (m + 7) + 1 from rfl, st28, q28_9_1, gn28, gn28, accS_cons, show (10 : Int) + 1 = 11 from rfl]; cases s 10 with
    | true => rw [cond_true, cond_true]; exact p28_10 m s [10, y1] (by simp)
    | false => rw [cond_false, cond_false]; exact p28_10 m s [y1] (by simp)
  | [y2, y1], _ => rw [show m + 8 = (m + 7) + 1 from rfl, st28, q28_9_2, gn28, gn28, accS_cons, show (10 : Int) + 1 = 11 from rfl]; cases s 10 with
    | true => rw [cond_true, cond_true]; exact p28_10 m s [10, y2, y1] (by simp)
    | false => rw [cond_false, cond_false]; exact p28_10 m s [y2, y1] (by simp)
  | [y3, y2, y1], _ => rw [show m + 8 = (m + 7) + 1 from rfl, st28, q28_9_3, gn28, gn28, accS_cons, show (10 : Int) + 1 = 11 from rfl]; cases s 10 with
    | true => rw [cond_true, cond_true]; exact p28_10 m s [10, y3, y2, y1] (by simp)
    | false => rw [cond_false, cond_false]; exact p28_10 m s [y3, y2, y1] (by simp)
  | [y4, y3, y2, y1], _ => rw [show m + 8 = (m + 7) + 1 from rfl, st28, q28_9_4, gn28, gn28, accS_cons, show (10 : Int) + 1 = 11 from rfl]; cases s 10 with
    | true => rw [cond_true, cond_true]; exact p28_10 m s [10, y4, y3, y2, y1] (by simp)
    | false => rw [cond_false, cond_false]; exact p28_10 m s [y4, y3, y2, y1] (by simp)
  | [y5, y4, y3, y2, y1], _ => rw [show m + 8 = (m + 7) + 1 from rfl, st28, q28_9_5, gn28, gn28, accS_cons, show (10 : Int) + 1 = 11 from rfl]; cases s 10 with
    | true => rw [cond_true, cond_true]; exact p28_10 m s [10, y5, y4, y3, y2, y1] (by simp)
    | false => rw [cond_false, cond_false]; exact p28_10 m s [y5, y4, y3, y2, y1] (by simp)
  | [y6, y5, y4, y3, y2, y1], _ => rw [show m + 8 = (m + 7) + 1 from rfl, st28, q28_9_6, gn28, gn28, accS_cons, show (10 : Int) + 1 = 11 from rfl]; cases s 10 with
    | true => rw [cond_true, cond_true]; exact p28_10 m s [10, y6, y5, y4, y3, y2, y1] (by simp)
    | false => rw [cond_false, cond_false]; exact p28_10 m s [y6, y5, y4, y3, y2, y1] (by simp)
  | [y7, y6, y5, y4, y3, y2, y1], _ => rw [show m + 8 = (m + 7) + 1 from rfl, st28, q28_9_7, gn28, gn28, accS_cons, show (10 : Int) + 1 = 11 from rfl]; cases s 10 with
    | true => rw [cond_true, cond_true]; exact p28_10 m s [10, y7, y6, y5, y4, y3, y2, y1] (by simp)
    | false => rw [cond_false, cond_false]; exact p28_10 m s [y7, y6, y5, y4, y3, y2, y1] (by simp)
  | [y8, y7, y6, y5, y4, y3, y2, y1], _ => rw [show m + 8 = (m + 7) + 1 from rfl, st28, q28_9_8, gn28, gn28, accS_cons, show (10 : Int) + 1 = 11 from rfl]; cases s 10 with
    | true => rw [cond_true, cond_true]; exact p28_10 m s [10, y8, y7, y6, y5, y4, y3, y2, y1] (by simp)
    | false => rw [cond_false, cond_false]; exact p28_10 m s [y8, y7, y6, y5, y4, y3, y2, y1] (by simp)
  | [y9, y8, y7, y6, y5, y4, y3, y2, y1], _ => rw [show m + 8 = (m + 7) + 1 from rfl, st28, q28_9_9, gn28, gn28, accS_cons, show (10 : Int) + 1 = 11 from rfl]; cases s 10 with
    | true => rw [cond_true, cond_true]; exact p28_10 m s [10, y9, y8, y7, y6, y5, y4, y3, y2, y1] (by simp)
    | false => rw [cond_false, cond_false]; exact p28_10 m s [y9, y8, y7, y6, y5, y4, y3, y2, y1] (by simp)
  | _ :: _ :: _ :: _ :: _ :: _ :: _ :: _ :: _ :: _ :: _, h => simp at h; try omega
theorem p28_8 (m : Nat) (s : Nat → Bool) : ∀ ys : List Int, ys.length ≤ 8 → lp28 (m + 9) ys 9 (ke28 s) s = some (resS (accS 9 [s 9, s 10, s 11, s 12, s 13, s 14, s 15, s 16] ys)) := by
  intro ys hy
  match ys, hy with
  | [], _ => rw [show m + 9 = (m + 8) + 1 from rfl, st28, q28_8_0, gn28, gn28, accS_cons, show (9 : Int) + 1 = 10 from rfl]; cases s 9 with
    | true => rw [cond_true, cond_true]; exact p28_9 m s [9] (by simp)
    | false => rw [cond_false, cond_false]; exact p28_9 m s [] (by simp)
  | [y1], _ => rw [show m + 9 = (m + 8) + 1 from rfl, st28, q28_8_1, gn28, gn28, accS_cons, show (9 : Int) + 1 = 10 from rfl]; cases s 9 with
    | true => rw [cond_true, cond_true]; exact p28_9 m s [9, y1] (by simp)
    | false => rw [cond_false, cond_false]; exact p28_9 m s [y1] (by simp)
  | [y2, y1], _ => rw [show m + 9 = (m + 8) + 1 from rfl, st28, q28_8_2, gn28, gn28, accS_cons, show (9 : Int) + 1 = 10 from rfl]; cases s 9 with
    | true => rw [cond_true, cond_true]; exact p28_9 m s [9, y2, y1] (by simp)
    | false => rw [cond_false, cond_false]; exact p28_9 m s [y2, y1] (by simp)
  | [y3, y2, y1], _ => rw [show m + 9 = (m + 8) + 1 from rfl, st28, q28_8_3, gn28, gn28, accS_cons, show (9 : Int) + 1 = 10 from rfl]; cases s 9 with
    | true => rw [cond_true, cond_true]; exact p28_9 m s [9, y3, y2, y1] (by simp)
    | false => rw [cond_false, cond_false]; exact p28_9 m s [y3, y2, y1] (by simp)
  | [y4, y3, y2, y1], _ => rw [show m + 9 = (m + 8) + 1 from rfl, st28, q28_8_4, gn28, gn28, accS_cons, show (9 : Int) + 1 = 10 from rfl]; cases s 9 with
    | true => rw [cond_true, cond_true]; exact p28_9 m s [9, y4, y3, y2, y1] (by simp)
    | false => rw [cond_false, cond_false]; exact p28_9 m s [y4, y3, y2, y1] (by simp)
  | [y5, y4, y3, y2, y1], _ => rw [show m + 9 = (m + 8) + 1 from rfl, st28, q28_8_5, gn28, gn28, accS_cons, show (9 : Int) + 1 = 10 from rfl]; cases s 9 with
    | true => rw [cond_true, cond_true]; exact p28_9 m s [9, y5, y4, y3, y2, y1] (by simp)
    | false => rw [cond_false, cond_false]; exact p28_9 m s [y5, y4, y3, y2, y1] (by simp)
  | [y6, y5, y4, y3, y2, y1], _ => rw [show m + 9 = (m + 8) + 1 from rfl, st28, q28_8_6, gn28, gn28, accS_cons, show (9 : Int) + 1 = 10 from rfl]; cases s 9 with
    | true => rw [cond_true, cond_true]; exact p28_9 m s [9, y6, y5, y4, y3, y2, y1] (by simp)
    | false => rw [cond_false, cond_false]; exact p28_9 m s [y6, y5, y4, y3, y2, y1] (by simp)
  | [y7, y6, y5, y4, y3, y2, y1], _ => rw [show m + 9 = (m + 8) + 1 from rfl, st28, q28_8_7, gn28, gn28, accS_cons, show (9 : Int) + 1 = 10 from rfl]; cases s 9 with
    | true => rw [cond_true, cond_true]; exact p28_9 m s [9, y7, y6, y5, y4, y3, y2, y1] (by simp)
    | false => rw [cond_false, cond_false]; exact p28_9 m s [y7, y6, y5, y4, y3, y2, y1] (by simp)
  | [y8, y7, y6, y5, y4, y3, y2, y1], _ => rw [show m + 9 = (m + 8) + 1 from rfl, st28, q28_8_8, gn28, gn28, accS_cons, show (9 : Int) + 1 = 10 from rfl]; cases s 9 with
    | true => rw [cond_true, cond_true]; exact p28_9 m s [9, y8, y7, y6, y5, y4, y3, y2, y1] (by simp)
    | false => rw [cond_false, cond_false]; exact p28_9 m s [y8, y7, y6, y5, y4, y3, y2, y1] (by simp)
  | _ :: _ :: _ :: _ :: _ :: _ :: _ :: _ :: _ :: _, h => simp at h; try omega
theorem p28_7 (m : Nat) (s : Nat → Bool) : ∀ ys : List Int, ys.length ≤ 7 → lp28 (m + 10) ys 8 (ke28 s) s = some (resS (accS 8 [s 8, s 9, s 10, s 11, s 12, s 13, s 14, s 15, s 16] ys)) := by
  intro ys hy
  match ys, hy with
  | [], _ => rw [show m + 10 = (m + 9) + 1 from rfl, st28, q28_7_0, gn28, gn28, accS_cons, show (8 : Int) + 1 = 9 from rfl]; cases s 8 with
    | true => rw [cond_true, cond_true]; exact p28_8 m s [8] (by simp)
    | false => rw [cond_false, cond_false]; exact p28_8 m s [] (by simp)
  | [y1], _ => rw [show m + 10 = (m + 9) + 1 from rfl, st28, q28_7_1, gn28, gn28, accS_cons, show (8 : Int) + 1 = 9 from rfl]; cases s 8 with
    | true => rw [cond_true, cond_true]; exact p28_8 m s [8, y1] (by simp)
    | false => rw [cond_false, cond_false]; exact p28_8 m s [y1] (by simp)
  | [y2, y1], _ => rw [show m + 10 = (m + 9) + 1 from rfl, st28, q28_7_2, gn28, gn28, accS_cons, show (8 : Int) + 1 = 9 from rfl]; cases s 8 with
    | true => rw [cond_true, cond_true]; exact p28_8 m s [8, y2, y1] (by simp)
    | false => rw [cond_false, cond_false]; exact p28_8 m s [y2, y1] (by simp)
  | [y3, y2, y1], _ => rw [show m + 10 = (m + 9) + 1 from rfl, st28, q28_7_3, gn28, gn28, accS_cons, show (8 : Int) + 1 = 9 from rfl]; cases s 8 with
    | true => rw [cond_true, cond_true]; exact p28_8 m s [8, y3, y2, y1] (by simp)
    | false => rw [cond_false, cond_false]; exact p28_8 m s [y3, y2, y1] (by simp)
  | [y4, y3, y2, y1], _ => rw [show m + 10 = (m + 9) + 1 from rfl, st28, q28_7_4, gn28, gn28, accS_cons, show (8 : Int) + 1 = 9 from rfl]; cases s 8 with
    | true => rw [cond_true, cond_true]; exact p28_8 m s [8, y4, y3, y2, y1] (by simp)
    | false => rw [cond_false, cond_false]; exact p28_8 m s [y4, y3, y2, y1] (by simp)
  | [y5, y4, y3, y2, y1], _ => rw [show m + 10 = (m + 9) + 1 from rfl, st28, q28_7_5, gn28, gn28, accS_cons, show (8 : Int) + 1 = 9 from rfl]; cases s 8 with
    | true => rw [cond_true, cond_true]; exact p28_8 m s [8, y5, y4, y3, y2, y1] (by simp)
    | false => rw [cond_false, cond_false]; exact p28_8 m s [y5, y4, y3, y2, y1] (by simp)
  | [y6, y5, y4, y3, y2, y1], _ => rw [show m + 10 = (m + 9) + 1 from rfl, st28, q28_7_6, gn28, gn28, accS_cons, show (8 : Int) + 1 = 9 from rfl]; cases s 8 with
    | true => rw [cond_true, cond_true]; exact p28_8 m s [8, y6, y5, y4, y3, y2, y1] (by simp)
    | false => rw [cond_false, cond_false]; exact p28_8 m s [y6, y5, y4, y3, y2, y1] (by simp)
  | [y7, y6, y5, y4, y3, y2, y1], _ => rw [show m + 10 = (m + 9) + 1 from rfl, st28, q28_7_7, gn28, gn28, accS_cons, show (8 : Int) + 1 = 9 from rfl]; cases s 8 with
    | true => rw [cond_true, cond_true]; exact p28_8 m s [8, y7, y6, y5, y4, y3, y2, y1] (by simp)
    | false => rw [cond_false, cond_false]; exact p28_8 m s [y7, y6, y5, y4, y3, y2, y1] (by simp)
  | _ :: _ :: _ :: _ :: _ :: _ :: _ :: _ :: _, h => simp at h; try omega
theorem p28_6 (m : Nat) (s : Nat → Bool) : ∀ ys : List Int, ys.length ≤ 6 → lp28 (m + 11) ys 7 (ke28 s) s = some (resS (accS 7 [s 7, s 8, s 9, s 10, s 11, s 12, s 13, s 14, s 15, s 16] ys)) := by
  intro ys hy
  match ys, hy with
  | [], _ => rw [show m + 11 = (m + 10) + 1 from rfl, st28, q28_6_0, gn28, gn28, accS_cons, show (7 : Int) + 1 = 8 from rfl]; cases s 7 with
    | true => rw [cond_true, cond_true]; exact p28_7 m s [7] (by simp)
    | false => rw [cond_false, cond_false]; exact p28_7 m s [] (by simp)
  | [y1], _ => rw [show m + 11 = (m + 10) + 1 from rfl, st28, q28_6_1, gn28, gn28, accS_cons, show (7 : Int) + 1 = 8 from rfl]; cases s 7 with
    | true => rw [cond_true, cond_true]; exact p28_7 m s [7, y1] (by simp)
    | false => rw [cond_false, cond_false]; exact p28_7 m s [y1] (by simp)
  | [y2, y1], _ => rw [show m + 11 = (m + 10) + 1 from rfl, st28, q28_6_2, gn28, gn28, accS_cons, show (7 : Int) + 1 = 8 from rfl]; cases s 7 with
    | true => rw [cond_true, cond_true]; exact p28_7 m s [7, y2, y1] (by simp)
    | false => rw [cond_false, cond_false]; exact p28_7 m s [y2, y1] (by simp)
  | [y3, y2, y1], _ => rw [show m + 11 = (m + 10) + 1 from rfl, st28, q28_6_3, gn28, gn28, accS_cons, show (7 : Int) + 1 = 8 from rfl]; cases s 7 with
    | true => rw [cond_true, cond_true]; exact p28_7 m s [7, y3, y2, y1] (by simp)
    | false => rw [cond_false, cond_false]; exact p28_7 m s [y3, y2, y1] (by simp)
  | [y4, y3, y2, y1], _ => rw [show m + 11 = (m + 10) + 1 from rfl, st28, q28_6_4, gn28, gn28, accS_cons, show (7 : Int) + 1 = 8 from rfl]; cases s 7 with
    | true => rw [cond_true, cond_true]; exact p28_7 m s [7, y4, y3, y2, y1] (by simp)
    | false => rw [cond_false, cond_false]; exact p28_7 m s [y4, y3, y2, y1] (by simp)
  | [y5, y4, y3, y2, y1], _ => rw [show m + 11 = (m + 10) + 1 from rfl, st28, q28_6_5, gn28, gn28, accS_cons, show (7 : Int) + 1 = 8 from rfl]; cases s 7 with
    | true => rw [cond_true, cond_true]; exact p28_7 m s [7, y5, y4, y3, y2, y1] (by simp)
    | false => rw [cond_false, cond_false]; exact p28_7 m s [y5, y4, y3, y2, y1] (by simp)
  | [y6, y5, y4, y3, y2, y1], _ => rw [show m + 11 = (m + 10) + 1 from rfl, st28, q28_6_6, gn28, gn28, accS_cons, show (7 : Int) + 1 = 8 from rfl]; cases s 7 with
    | true => rw [cond_true, cond_true]; exact p28_7 m s [7, y6, y5, y4, y3, y2, y1] (by simp)
    | false => rw [cond_false, cond_false]; exact p28_7 m s [y6, y5, y4, y3, y2, y1] (by simp)
  | _ :: _ :: _ :: _ :: _ :: _ :: _ :: _, h => simp at h; try omega
theorem p28_5 (m : Nat) (s : Nat → Bool) : ∀ ys : List Int, ys.length ≤ 5 → lp28 (m + 12) ys 6 (ke28 s) s = some (resS (accS 6 [s 6, s 7, s 8, s 9, s 10, s 11, s 12, s 13, s 14, s 15, s 16] ys)) := by
  intro ys hy
  match ys, hy with
  | [], _ => rw [show m + 12 = (m + 11) + 1 from rfl, st28, q28_5_0, gn28, gn28, accS_cons, show (6 : Int) + 1 = 7 from rfl]; cases s 6 with
    | true => rw [cond_true, cond_true]; exact p28_6 m s [6] (by simp)
    | false => rw [cond_false, cond_false]; exact p28_6 m s [] (by simp)
  | [y1], _ => rw [show m + 12 = (m + 11) + 1 from rfl, st28, q28_5_1, gn28, gn28, accS_cons, show (6 : Int) + 1 = 7 from rfl]; cases s 6 with
    | true => rw [cond_true, cond_true]; exact p28_6 m s [6, y1] (by simp)
    | false => rw [cond_false, cond_false]; exact p28_6 m s [y1] (by simp)
  | [y2, y1], _ => rw [show m + 12 = (m + 11) + 1 from rfl, st28, q28_5_2, gn28, gn28, accS_cons, show (6 : Int) + 1 = 7 from rfl]; cases s 6 with
    | true => rw [cond_true, cond_true]; exact p28_6 m s [6, y2, y1] (by simp)
    | false => rw [cond_false, cond_false]; exact p28_6 m s [y2, y1] (by simp)
  | [y3, y2, y1], _ => rw [show m + 12 = (m + 11) + 1 from rfl, st28, q28_5_3, gn28, gn28, accS_cons, show (6 : Int) + 1 = 7 from rfl]; cases s 6 with
    | true => rw [cond_true, cond_true]; exact p28_6 m s [6, y3, y2, y1] (by simp)
    | false => rw [cond_false, cond_false]; exact p28_6 m s [y3, y2, y1] (by simp)
  | [y4, y3, y2, y1], _ => rw [show m + 12 = (m + 11) + 1 from rfl, st28, q28_5_4, gn28, gn28, accS_cons, show (6 : Int) + 1 = 7 from rfl]; cases s 6 with
    | true => rw [cond_true, cond_true]; exact p28_6 m s [6, y4, y3, y2, y1] (by simp)
    | false => rw [cond_false, cond_false]; exact p28_6 m s [y4, y3, y2, y1] (by simp)
  | [y5, y4, y3, y2, y1], _ => rw [show m + 12 = (m + 11) + 1 from rfl, st28, q28_5_5, gn28, gn28, accS_cons, show (6 : Int) + 1 = 7 from rfl]; cases s 6 with
    | true => rw [cond_true, cond_true]; exact p28_6 m s [6, y5, y4, y3, y2, y1] (by simp)
    | false => rw [cond_false, cond_false]; exact p28_6 m s [y5, y4, y3, y2, y1] (by simp)
  | _ :: _ :: _ :: _ :: _ :: _ :: _, h => simp at h; try omega
theorem p28_4 (m : Nat) (s : Nat → Bool) : ∀ ys : List Int, ys.length ≤ 4 → lp28 (m + 13) ys 5 (ke28 s) s = some (resS (accS 5 [s 5, s 6, s 7, s 8, s 9, s 10, s 11, s 12, s 13, s 14, s 15, s 16] ys)) := by
  intro ys hy
  match ys, hy with
  | [], _ => rw [show m + 13 = (m + 12) + 1 from rfl, st28, q28_4_0, gn28, gn28, accS_cons, show (5 : Int) + 1 = 6 from rfl]; cases s 5 with
    | true => rw [cond_true, cond_true]; exact p28_5 m s [5] (by simp)
    | false => rw [cond_false, cond_false]; exact p28_5 m s [] (by simp)
  | [y1], _ => rw [show m + 13 = (m + 12) + 1 from rfl, st28, q28_4_1, gn28, gn28, accS_cons, show (5 : Int) + 1 = 6 from rfl]; cases s 5 with
    | true => rw [cond_true, cond_true]; exact p28_5 m s [5, y1] (by simp)
    | false => rw [cond_false, cond_false]; exact p28_5 m s [y1] (by simp)
  | [y2, y1], _ => rw [show m + 13 = (m + 12) + 1 from rfl, st28, q28_4_2, gn28, gn28, accS_cons, show (5 : Int) + 1 = 6 from rfl]; cases s 5 with
    | true => rw [cond_true, cond_true]; exact p28_5 m s [5, y2, y1] (by simp)
    | false => rw [cond_false, cond_false]; exact p28_5 m s [y2, y1] (by simp)
  | [y3, y2, y1], _ => rw [show m + 13 = (m + 12) + 1 from rfl, st28, q28_4_3, gn28, gn28, accS_cons, show (5 : Int) + 1 = 6 from rfl]; cases s 5 with
    | true => rw [cond_true, cond_true]; exact p28_5 m s [5, y3, y2, y1] (by simp)
    | false => rw [cond_false, cond_false]; exact p28_5 m s [y3, y2, y1] (by simp)
  | [y4, y3, y2, y1], _ => rw [show m + 13 = (m + 12) + 1 from rfl, st28, q28_4_4, gn28, gn28, accS_cons, show (5 : Int) + 1 = 6 from rfl]; cases s 5 with
    | true => rw [cond_true, cond_true]; exact p28_5 m s [5, y4, y3, y2, y1] (by simp)
    | false => rw [cond_false, cond_false]; exact p28_5 m s [y4, y3, y2, y1] (by simp)
  | _ :: _ :: _ :: _ :: _ :: _, h => simp at h; try omega
theorem p28_3 (m : Nat) (s : Nat → Bool) : ∀ ys : List Int, ys.length ≤ 3 → lp28 (m + 14) ys 4 (ke28 s) s = some (resS (accS 4 [s 4, s 5, s 6, s 7, s 8, s 9, s 10, s 11, s 12, s 13, s 14, s 15, s 16] ys)) := by
  intro ys hy
  match ys, hy with
  | [], _ => rw [show m + 14 = (m + 13) + 1 from rfl, st28, q28_3_0, gn28, gn28, accS_cons, show (4 : Int) + 1 = 5 from rfl]; cases s 4 with
    | true => rw [cond_true, cond_true]; exact p28_4 m s [4] (by simp)
    | false => rw [cond_false, cond_false]; exact p28_4 m s [] (by simp)
  | [y1], _ => rw [show m + 14 = (m + 13) + 1 from rfl, st28, q28_3_1, gn28, gn28, accS_cons, show (4 : Int) + 1 = 5 from rfl]; cases s 4 with
    | true => rw [cond_true, cond_true]; exact p28_4 m s [4, y1] (by simp)
    | false => rw [cond_false, cond_false]; exact p28_4 m s [y1] (by simp)
  | [y2, y1], _ => rw [show m + 14 = (m + 13) + 1 from rfl, st28, q28_3_2, gn28, gn28, accS_cons, show (4 : Int) + 1 = 5 from rfl]; cases s 4 with
    | true => rw [cond_true, cond_true]; exact p28_4 m s [4, y2, y1] (by simp)
    | false => rw [cond_false, cond_false]; exact p28_4 m s [y2, y1] (by simp)
  | [y3, y2, y1], _ => rw [show m + 14 = (m + 13) + 1 from rfl, st28, q28_3_3, gn28, gn28, accS_cons, show (4 : Int) + 1 = 5 from rfl]; cases s 4 with
    | true => rw [cond_true, cond_true]; exact p28_4 m s [4, y3, y2, y1] (by simp)
    | false => rw [cond_false, cond_false]; exact p28_4 m s [y3, y2, y1] (by simp)
  | _ :: _ :: _ :: _ :: _, h => simp at h; try omega
theorem p28_2 (m : Nat) (s : Nat → Bool) : ∀ ys : List Int, ys.length ≤ 2 → lp28 (m + 15) ys 3 (ke28 s) s = some (resS (accS 3 [s 3, s 4, s 5, s 6, s 7, s 8, s 9, s 10, s 11, s 12, s 13, s 14, s 15, s 16] ys)) := by
  intro ys hy
  match ys, hy with
  | [], _ => rw [show m + 15 = (m + 14) + 1 from rfl, st28, q28_2_0, gn28, gn28, accS_cons, show (3 : Int) + 1 = 4 from rfl]; cases s 3 with
    | true => rw [cond_true, cond_true]; exact p28_3 m s [3] (by simp)
    | false => rw [cond_false, cond_false]; exact p28_3 m s [] (by simp)
  | [y1], _ => rw [show m + 15 = (m + 14) + 1 from rfl, st28, q28_2_1, gn28, gn28, accS_cons, show (3 : Int) + 1 = 4 from rfl]; cases s 3 with
    | true => rw [cond_true, cond_true]; exact p28_3 m s [3, y1] (by simp)
    | false => rw [cond_false, cond_false]; exact p28_3 m s [y1] (by simp)
  | [y2, y1], _ => rw [show m + 15 = (m + 14) + 1 from rfl, st28, q28_2_2, gn28, gn28, accS_cons, show (3 : Int) + 1 = 4 from rfl]; cases s 3 with
    | true => rw [cond_true, cond_true]; exact p28_3 m s [3, y2, y1] (by simp)
    | false => rw [cond_false, cond_false]; exact p28_3 m s [y2, y1] (by simp)
  | _ :: _ :: _ :: _, h => simp at h; try omega
theorem p28_1 (m : Nat) (s : Nat → Bool) : ∀ ys : List Int, ys.length ≤ 1 → lp28 (m + 16) ys 2 (ke28 s) s = some (resS (accS 2 [s 2, s 3, s 4, s 5, s 6, s 7, s 8, s 9, s 10, s 11, s 12, s 13, s 14, s 15, s 16] ys)) := by
  intro ys hy
  match ys, hy with
  | [], _ => rw [show m + 16 = (m + 15) + 1 from rfl, st28, q28_1_0, gn28, gn28, accS_cons, show (2 : Int) + 1 = 3 from rfl]; cases s 2 with
    | true => rw [cond_true, cond_true]; exact p28_2 m s [2] (by simp)
    | false => rw [cond_false, cond_false]; exact p28_2 m s [] (by simp)
  | [y1], _ => rw [show m + 16 = (m + 15) + 1 from rfl, st28, q28_1_1, gn28, gn28, accS_cons, show (2 : Int) + 1 = 3 from rfl]; cases s 2 with
    | true => rw [cond_true, cond_true]; exact p28_2 m s [2, y1] (by simp)
    | false => rw [cond_false, cond_false]; exact p28_2 m s [y1] (by simp)
  | _ :: _ :: _, h => simp at h; try omega
theorem p28_0 (m : Nat) (s : Nat → Bool) : ∀ ys : List Int, ys.length ≤ 0 → lp28 (m + 17) ys 1 (ke28 s) s = some (resS (accS 1 [s 1, s 2, s 3, s 4, s 5, s 6, s 7, s 8, s 9, s 10, s 11, s 12, s 13, s 14, s 15, s 16] ys)) := by
  intro ys hy
  match ys, hy with
  | [], _ => rw [show m + 17 = (m + 16) + 1 from rfl, st28, q28_0_0, gn28, gn28, accS_cons, show (1 : Int) + 1 = 2 from rfl]; cases s 1 with
    | true => rw [cond_true, cond_true]; exact p28_1 m s [1] (by simp)
    | false => rw [cond_false, cond_false]; exact p28_1 m s [] (by simp)
  | _ :: _, h => simp at h; try omega
theorem into28 (LP : Code → AF → AH → (Ex → AF → AH → Option AV) → Option AV) (s : Nat → Bool) :
    runH ttc ntc (funK ft28 ttc ntc ot5 1000000 29) 1000000 LP fi28 [.ptr 0 19 0 0] (heap0 (room2F s)) (fun u H => readR (room2F s).length u H) =
    LP (loopAt fi28 0) (fr28 .nils 1) (hpS 2 (heap0 (room2F s)) []) (contH ttc ntc (funK ft28 ttc ntc ot5 1000000 29) 1000000 fi28.trim LP fi28.body 0 (kendK ttc fi28 fun u H => readR (room2F s).length u H)) := by kernel_rfl
theorem get28 : ft28.get 28 = some fi28 := by kernel_rfl
theorem no28 : ot5.get 28 = none := by kernel_rfl
theorem ftok28 : FTok Go.Proofs.Tryz.prog ft28 := ftok_set ftok (fi0 := fiOf Go.Proofs.Tryz.f28) (by kernel_rfl) rfl rfl rfl (fun i => rfl)
theorem run28 (s : Nat → Bool) : funK ft28 ttc ntc ot5 1000000 30 (.fn 28) [.ptr 0 19 0 0] (heap0 (room2F s)) (fun u H => readR (room2F s).length u H) = some (resS (accS 1 [s 1, s 2, s 3, s 4, s 5, s 6, s 7, s 8, s 9, s 10, s 11, s 12, s 13, s 14, s 15, s 16] [])) := by
  rw [funK_H no28 get28 trim28, into28]
  exact p28_0 999983 s [] (by simp)
def S28 : RS
  | [.ptr 0 19 0 0], [.arr 19 [[.ptr 1 14 0 0, .bool b0, .bool b1, .bool b2, .bool b3, .bool b4, .bool b5, .bool b6, .bool b7, .bool b8, .bool b9, .bool b10, .bool b11, .bool b12, .bool b13, .bool b14, .bool b15, .bool b16, .nils]], .arr 1 []] => some ([], .list 1 (rowsS (accS 1 [b1, b2, b3, b4, b5, b6, b7, b8, b9, b10, b11, b12, b13, b14, b15, b16] [])))
  | _, _ => none
theorem sum28 : SumOk Go.Proofs.Tryz.prog 28 (readS rhoA S28) := sumOk_readK mixed ftok28 ttok ntok ot5_ok (lf := 1000000) (m := 30) (by
  intro a os cs v h hcs
  unfold S28 at h
  split at h
  · cases h
    exact ⟨_, run28 (seatF _ _ _ _ _ _ _ _ _ _ _ _ _ _ _ _ _), tell_resS _⟩
  · cases h)
end
end Go.VM

