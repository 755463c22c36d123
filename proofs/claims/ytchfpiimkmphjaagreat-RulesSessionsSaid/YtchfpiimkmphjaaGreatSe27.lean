/- A part of the proof: Se27. No condition. -/
import Derived.Test.YtchfpiimkmphjaaGreatSe0
namespace Go.VM
open Go
set_option maxRecDepth 1000000
noncomputable section
def fi27 : FI := { fiOf Go.Proofs.Tryz.f27 with trim := trimAt 3 [0, 3, 5] }
def ft27 : Tr FI := ftc.set 40 27 (some fi27)
def fr27 (out : AV) (i : Int) : AF := { tmps := ((Tr.nil.set 40 5 (some (.int .i64 i))).set 40 3 (some out)).set 40 0 (some (.ptr 0 1 0 0)), sz := 19, marks := [], rnd := none }
abbrev ca27 : CallK AV := funK ft27 ttc ntc ot5 1000000 29
def lp27 (m : Nat) (ys : List Int) (i : Int) (k : Ex → AF → AH → Option AV) (s : Nat → Bool) := loopK (fi27.trim (keyC (loopAt fi27 0))) (codeK ttc ntc ca27 1000000 fi27.trim (loopAt fi27 0)) m (fr27 (outS 3 ys) i) (hpS 3 (heap0 (roomF s)) ys) k
def rd27 (ys : List Int) (i : Int) (G : Ex → AF → AH → Option AV) (s : Nat → Bool) := rndK ttc ntc ca27 1000000 fi27.trim (loopAt fi27 0) (fr27 (outS 3 ys) i) (hpS 3 (heap0 (roomF s)) ys) G
def ke27 (s : Nat → Bool) : Ex → AF → AH → Option AV := contH ttc ntc ca27 1000000 fi27.trim (loopLP ttc ntc ca27 1000000 fi27.trim) fi27.body 0 (kendK ttc fi27 fun u H => readR (roomF s).length u H)
theorem key27 : fi27.trim (keyC (loopAt fi27 0)) = some [0, 3, 5] := by kernel_rfl
theorem trim27 : TrimB fi27.trim := by
  intro key l h
  have : cond (Nat.beq key 3) (some [0, 3, 5]) none = some l := h
  cases hb : Nat.beq key 3 with
  | false => rw [hb] at this; cases this
  | true =>
    rw [hb] at this
    cases this
    intro x hx
    simp at hx
    omega
def gk27 (m : Nat) (k : Ex → AF → AH → Option AV) : Ex → AF → AH → Option AV := gK (fi27.trim (keyC (loopAt fi27 0))) (codeK ttc ntc ca27 1000000 fi27.trim (loopAt fi27 0)) m k
theorem gn27 (m : Nat) (ys : List Int) (i : Int) (k : Ex → AF → AH → Option AV) (s : Nat → Bool) : gk27 m k .norm (fr27 (outS 3 ys) i) (hpS 3 (heap0 (roomF s)) ys) = lp27 m ys i k s := rfl
theorem gx27 (m : Nat) (k : Ex → AF → AH → Option AV) (fr : AF) (H : AH) : gk27 m k (.exit 0) fr H = k (.exit 0) fr H := rfl
theorem st27 (m : Nat) (ys : List Int) (i : Int) (k : Ex → AF → AH → Option AV) (s : Nat → Bool) : lp27 (m + 1) ys i k s = rd27 ys i (gk27 m k) s :=
  loopK_round trim27 m (by rw [key27]; rfl) (by rw [key27]; exact hpS_trim (by rfl) _) k
theorem q27_0_0 (G : Ex → AF → AH → Option AV) (s : Nat → Bool) : rd27 [] 0 G s = cond (s 1) (G .norm (fr27 (outS 3 [1]) 1) (hpS 3 (heap0 (roomF s)) [1])) (G .norm (fr27 (outS 3 []) 1) (hpS 3 (heap0 (roomF s)) [])) := by kernel_rfl
theorem q27_1_0 (G : Ex → AF → AH → Option AV) (s : Nat → Bool) : rd27 [] 1 G s = cond (s 2) (G .norm (fr27 (outS 3 [2]) 2) (hpS 3 (heap0 (roomF s)) [2])) (G .norm (fr27 (outS 3 []) 2) (hpS 3 (heap0 (roomF s)) [])) := by kernel_rfl
theorem q27_1_1 (G : Ex → AF → AH → Option AV) (y1 : Int) (s : Nat → Bool) : rd27 [y1] 1 G s = cond (s 2) (G .norm (fr27 (outS 3 [2, y1]) 2) (hpS 3 (heap0 (roomF s)) [2, y1])) (G .norm (fr27 (outS 3 [y1]) 2) (hpS 3 (heap0 (roomF s)) [y1])) := by kernel_rfl
theorem q27_2_0 (G : Ex → AF → AH → Option AV) (s : Nat → Bool) : rd27 [] 2 G s = cond (s 3) (G .norm (fr27 (outS 3 [3]) 3) (hpS 3 (heap0 (roomF s)) [3])) (G .norm (fr27 (outS 3 []) 3) (hpS 3 (heap0 (roomF s)) [])) := by kernel_rfl
theorem q27_2_1 (G : Ex → AF → AH → Option AV) (y1 : Int) (s : Nat → Bool) : rd27 [y1] 2 G s = cond (s 3) (G .norm (fr27 (outS 3 [3, y1]) 3) (hpS 3 (heap0 (roomF s)) [3, y1])) (G .norm (fr27 (outS 3 [y1]) 3) (hpS 3 (heap0 (roomF s)) [y1])) := by kernel_rfl
theorem q27_2_2 (G : Ex → AF → AH → Option AV) (y2 y1 : Int) (s : Nat → Bool) : rd27 [y2, y1] 2 G s = cond (s 3) (G .norm (fr27 (outS 3 [3, y2, y1]) 3) (hpS 3 (heap0 (roomF s)) [3, y2, y1])) (G .norm (fr27 (outS 3 [y2, y1]) 3) (hpS 3 (heap0 (roomF s)) [y2, y1])) := by kernel_rfl
theorem q27_3_0 (G : Ex → AF → AH → Option AV) (s : Nat → Bool) : rd27 [] 3 G s = cond (s 4) (G .norm (fr27 (outS 3 [4]) 4) (hpS 3 (heap0 (roomF s)) [4])) (G .norm (fr27 (outS 3 []) 4) (hpS 3 (heap0 (roomF s)) [])) := by kernel_rfl
theorem q27_3_1 (G : Ex → AF → AH → Option AV) (y1 : Int) (s : Nat → Bool) : rd27 [y1] 3 G s = cond (s 4) (G .norm (fr27 (outS 3 [4, y1]) 4) (hpS 3 (heap0 (roomF s)) [4, y1])) (G .norm (fr27 (outS 3 [y1]) 4) (hpS 3 (heap0 (roomF s)) [y1])) := by kernel_rfl
theorem q27_3_2 (G : Ex → AF → AH → Option AV) (y2 y1 : Int) (s : Nat → Bool) : rd27 [y2, y1] 3 G s = cond (s 4) (G .norm (fr27 (outS 3 [4, y2, y1]) 4) (hpS 3 (heap0 (roomF s)) [4, y2, y1])) (G .norm (fr27 (outS 3 [y2, y1]) 4) (hpS 3 (heap0 (roomF s)) [y2, y1])) := by kernel_rfl
theorem q27_3_3 (G : Ex → AF → AH → Option AV) (y3 y2 y1 : Int) (s : Nat → Bool) : rd27 [y3, y2, y1] 3 G s = cond (s 4) (G .norm (fr27 (outS 3 [4, y3, y2, y1]) 4) (hpS 3 (heap0 (roomF s)) [4, y3, y2, y1])) (G .norm (fr27 (outS 3 [y3, y2, y1]) 4) (hpS 3 (heap0 (roomF s)) [y3, y2, y1])) := by kernel_rfl
theorem q27_4_0 (G : Ex → AF → AH → Option AV) (s : Nat → Bool) : rd27 [] 4 G s = cond (s 5) (G .norm (fr27 (outS 3 [5]) 5) (hpS 3 (heap0 (roomF s)) [5])) (G .norm (fr27 (outS 3 []) 5) (hpS 3 (heap0 (roomF s)) [])) := by kernel_rfl
theorem q27_4_1 (G : Ex → AF → AH → Option AV) (y1 : Int) (s : Nat → Bool) : rd27 [y1] 4 G s = cond (s 5) (G .norm (fr27 (outS 3 [5, y1]) 5) (hpS 3 (heap0 (roomF s)) [5, y1])) (G .norm (fr27 (outS 3 [y1]) 5) (hpS 3 (heap0 (roomF s)) [y1])) := by kernel_rfl
theorem q27_4_2 (G : Ex → AF → AH → Option AV) (y2 y1 : Int) (s : Nat → Bool) : rd27 [y2, y1] 4 G s = cond (s 5) (G .norm (fr27 (outS 3 [5, y2, y1]) 5) (hpS 3 (heap0 (roomF s)) [5, y2, y1])) (G .norm (fr27 (outS 3 [y2, y1]) 5) (hpS 3 (heap0 (roomF s)) [y2, y1])) := by kernel_rfl
theorem q27_4_3 (G : Ex → AF → AH → Option AV) (y3 y2 y1 : Int) (s : Nat → Bool) : rd27 [y3, y2, y1] 4 G s = cond (s 5) (G .norm (fr27 (outS 3 [5, y3, y2, y1]) 5) (hpS 3 (heap0 (roomF s)) [5, y3, y2, y1])) (G .norm (fr27 (outS 3 [y3, y2, y1]) 5) (hpS 3 (heap0 (roomF s)) [y3, y2, y1])) := by kernel_rfl
theorem q27_4_4 (G : Ex → AF → AH → Option AV) (y4 y3 y2 y1 : Int) (s : Nat → Bool) : rd27 [y4, y3, y2, y1] 4 G s = cond (s 5) (G .norm (fr27 (outS 3 [5, y4, y3, y2, y1]) 5) (hpS 3 (heap0 (roomF s)) [5, y4, y3, y2, y1])) (G .norm (fr27 (outS 3 [y4, y3, y2, y1]) 5) (hpS 3 (heap0 (roomF s)) [y4, y3, y2, y1])) := by kernel_rfl
theorem q27_5_0 (G : Ex → AF → AH → Option AV) (s : Nat → Bool) : rd27 [] 5 G s = cond (s 6) (G .norm (fr27 (outS 3 [6]) 6) (hpS 3 (heap0 (roomF s)) [6])) (G .norm (fr27 (outS 3 []) 6) (hpS 3 (heap0 (roomF s)) [])) := by kernel_rfl
theorem q27_5_1 (G : Ex → AF → AH → Option AV) (y1 : Int) (s : Nat → Bool) : rd27 [y1] 5 G s = cond (s 6) (G .norm (fr27 (outS 3 [6, y1]) 6) (hpS 3 (heap0 (roomF s)) [6, y1])) (G .norm (fr27 (outS 3 [y1]) 6) (hpS 3 (heap0 (roomF s)) [y1])) := by kernel_rfl
theorem q27_5_2 (G : Ex → AF → AH → Option AV) (y2 y1 : Int) (s : Nat → Bool) : rd27 [y2, y1] 5 G s = cond (s 6) (G .norm (fr27 (outS 3 [6, y2, y1]) 6) (hpS 3 (heap0 (roomF s)) [6, y2, y1])) (G .norm (fr27 (outS 3 [y2, y1]) 6) (hpS 3 (heap0 (roomF s)) [y2, y1])) := by kernel_rfl
theorem q27_5_3 (G : Ex → AF → AH → Option AV) (y3 y2 y1 : Int) (s : Nat → Bool) : rd27 [y3, y2, y1] 5 G s = cond (s 6) (G .norm (fr27 (outS 3 [6, y3, y2, y1]) 6) (hpS 3 (heap0 (roomF s)) [6, y3, y2, y1])) (G .norm (fr27 (outS 3 [y3, y2, y1]) 6) (hpS 3 (heap0 (roomF s)) [y3, y2, y1])) := by kernel_rfl
theorem q27_5_4 (G : Ex → AF → AH → Option AV) (y4 y3 y2 y1 : Int) (s : Nat → Bool) : rd27 [y4, y3, y2, y1] 5 G s = cond (s 6) (G .norm (fr27 (outS 3 [6, y4, y3, y2, y1]) 6) (hpS 3 (heap0 (roomF s)) [6, y4, y3, y2, y1])) (G .norm (fr27 (outS 3 [y4, y3, y2, y1]) 6) (hpS 3 (heap0 (roomF s)) [y4, y3, y2, y1])) := by kernel_rfl
theorem q27_5_5 (G : Ex → AF → AH → Option AV) (y5 y4 y3 y2 y1 : Int) (s : Nat → Bool) : rd27 [y5, y4, y3, y2, y1] 5 G s = cond (s 6) (G .norm (fr27 (outS 3 [6, y5, y4, y3, y2, y1]) 6) (hpS 3 (heap0 (roomF s)) [6, y5, y4, y3, y2, y1])) (G .norm (fr27 (outS 3 [y5, y4, y3, y2, y1]) 6) (hpS 3 (heap0 (roomF s)) [y5, y4, y3, y2, y1])) := by kernel_rfl
theorem q27_6_0 (G : Ex → AF → AH → Option AV) (s : Nat → Bool) : rd27 [] 6 G s = cond (s 7) (G .norm (fr27 (outS 3 [7]) 7) (hpS 3 (heap0 (roomF s)) [7])) (G .norm (fr27 (outS 3 []) 7) (hpS 3 (heap0 (roomF s)) [])) := by kernel_rfl
theorem q27_6_1 (G : Ex → AF → AH → Option AV) (y1 : Int) (s : Nat → Bool) : rd27 [y1] 6 G s = cond (s 7) (G .norm (fr27 (outS 3 [7, y1]) 7) (hpS 3 (heap0 (roomF s)) [7, y1])) (G .norm (fr27 (outS 3 [y1]) 7) (hpS 3 (heap0 (roomF s)) [y1])) := by kernel_rfl
theorem q27_6_2 (G : Ex → AF → AH → Option AV) (y2 y1 : Int) (s : Nat → Bool) : rd27 [y2, y1] 6 G s = cond (s 7) (G .norm (fr27 (outS 3 [7, y2, y1]) 7) (hpS 3 (heap0 (roomF s)) [7, y2, y1])) (G .norm (fr27 (outS 3 [y2, y1]) 7) (hpS 3 (heap0 (roomF s)) [y2, y1])) := by kernel_rfl
theorem q27_6_3 (G : Ex → AF → AH → Option AV) (y3 y2 y1 : Int) (s : Nat → Bool) : rd27 [y3, y2, y1] 6 G s = cond (s 7) (G .norm (fr27 (outS 3 [7, y3, y2, y1]) 7) (hpS 3 (heap0 (roomF s)) [7, y3, y2, y1])) (G .norm (fr27 (outS 3 [y3, y2, y1]) 7) (hpS 3 (heap0 (roomF s)) [y3, y2, y1])) := by kernel_rfl
theorem q27_6_4 (G : Ex → AF → AH → Option AV) (y4 y3 y2 y1 : Int) (s : Nat → Bool) : rd27 [y4, y3, y2, y1] 6 G s = cond (s 7) (G .norm (fr27 (outS 3 [7, y4, y3, y2, y1]) 7) (hpS 3 (heap0 (roomF s)) [7, y4, y3, y2, y1])) (G .norm (fr27 (outS 3 [y4, y3, y2, y1]) 7) (hpS 3 (heap0 (roomF s)) [y4, y3, y2, y1])) := by kernel_rfl
theorem q27_6_5 (G : Ex → AF → AH → Option AV) (y5 y4 y3 y2 y1 : Int) (s : Nat → Bool) : rd27 [y5, y4, y3, y2, y1] 6 G s = cond (s 7) (G .norm (fr27 (outS 3 [7, y5, y4, y3, y2, y1]) 7) (hpS 3 (heap0 (roomF s)) [7, y5, y4, y3, y2, y1])) (G .norm (fr27 (outS 3 [y5, y4, y3, y2, y1]) 7) (hpS 3 (heap0 (roomF s)) [y5, y4, y3, y2, y1])) := by kernel_rfl
theorem q27_6_6 (G : Ex → AF → AH → Option AV) (y6 y5 y4 y3 y2 y1 : Int) (s : Nat → Bool) : rd27 [y6, y5, y4, y3, y2, y1] 6 G s = cond (s 7) (G .norm (fr27 (outS 3 [7, y6, y5, y4, y3, y2, y1]) 7) (hpS 3 (heap0 (roomF s)) [7, y6, y5, y4, y3, y2, y1])) (G .norm (fr27 (outS 3 [y6, y5, y4, y3, y2, y1]) 7) (hpS 3 (heap0 (roomF s)) [y6, y5, y4, y3, y2, y1])) := by kernel_rfl
theorem q27_7_0 (G : Ex → AF → AH → Option AV) (s : Nat → Bool) : rd27 [] 7 G s = cond (s 8) (G .norm (fr27 (outS 3 [8]) 8) (hpS 3 (heap0 (roomF s)) [8])) (G .norm (fr27 (outS 3 []) 8) (hpS 3 (heap0 (roomF s)) [])) := by kernel_rfl
theorem q27_7_1 (G : Ex → AF → AH → Option AV) (y1 : Int) (s : Nat → Bool) : rd27 [y1] 7 G s = cond (s 8) (G .norm (fr27 (outS 3 [8, y1]) 8) (hpS 3 (heap0 (roomF s)) [8, y1])) (G .norm (fr27 (outS 3 [y1]) 8) (hpS 3 (heap0 (roomF s)) [y1])) := by kernel_rfl
theorem q27_7_2 (G : Ex → AF → AH → Option AV) (y2 y1 : Int) (s : Nat → Bool) : rd27 [y2, y1] 7 G s = cond (s 8) (G .norm (fr27 (outS 3 [8, y2, y1]) 8) (hpS 3 (heap0 (roomF s)) [8, y2, y1])) (G .norm (fr27 (outS 3 [y2, y1]) 8) (hpS 3 (heap0 (roomF s)) [y2, y1])) := by kernel_rfl
theorem q27_7_3 (G : Ex → AF → AH → Option AV) (y3 y2 y1 : Int) (s : Nat → Bool) : rd27 [y3, y2, y1] 7 G s = cond (s 8) (G .norm (fr27 (outS 3 [8, y3, y2, y1]) 8) (hpS 3 (heap0 (roomF s)) [8, y3, y2, y1])) (G .norm (fr27 (outS 3 [y3, y2, y1]) 8) (hpS 3 (heap0 (roomF s)) [y3, y2, y1])) := by kernel_rfl
theorem q27_7_4 (G : Ex → AF → AH → Option AV) (y4 y3 y2 y1 : Int) (s : Nat → Bool) : rd27 [y4, y3, y2, y1] 7 G s = cond (s 8) (G .norm (fr27 (outS 3 [8, y4, y3, y2, y1]) 8) (hpS 3 (heap0 (roomF s)) [8, y4, y3, y2, y1])) (G .norm (fr27 (outS 3 [y4, y3, y2, y1]) 8) (hpS 3 (heap0 (roomF s)) [y4, y3, y2, y1])) := by kernel_rfl
theorem q27_7_5 (G : Ex → AF → AH → Option AV) (y5 y4 y3 y2 y1 : Int) (s : Nat → Bool) : rd27 [y5, y4, y3, y2, y1] 7 G s = cond (s 8) (G .norm (fr27 (outS 3 [8, y5, y4, y3, y2, y1]) 8) (hpS 3 (heap0 (roomF s)) [8, y5, y4, y3, y2, y1])) (G .norm (fr27 (outS 3 [y5, y4, y3, y2, y1]) 8) (hpS 3 (heap0 (roomF s)) [y5, y4, y3, y2, y1])) := by kernel_rfl
theorem q27_7_6 (G : Ex → AF → AH → Option AV) (y6 y5 y4 y3 y2 y1 : Int) (s : Nat → Bool) : rd27 [y6, y5, y4, y3, y2, y1] 7 G s = cond (s 8) (G .norm (fr27 (outS 3 [8, y6, y5, y4, y3, y2, y1]) 8) (hpS 3 (heap0 (roomF s)) [8, y6, y5, y4, y3, y2, y1])) (G .norm (fr27 (outS 3 [y6, y5, y4, y3, y2, y1]) 8) (hpS 3 (heap0 (roomF s)) [y6, y5, y4, y3, y2, y1])) := by kernel_rfl
theorem q27_7_7 (G : Ex → AF → AH → Option AV) (y7 y6 y5 y4 y3 y2 y1 : Int) (s : Nat → Bool) : rd27 [y7, y6, y5, y4, y3, y2, y1] 7 G s = cond (s 8) (G .norm (fr27 (outS 3 [8, y7, y6, y5, y4, y3, y2, y1]) 8) (hpS 3 (heap0 (roomF s)) [8, y7, y6, y5, y4, y3, y2, y1])) (G .norm (fr27 (outS 3 [y7, y6, y5, y4, y3, y2, y1]) 8) (hpS 3 (heap0 (roomF s)) [y7, y6, y5, y4, y3, y2, y1])) := by kernel_rfl
theorem q27_8_0 (G : Ex → AF → AH → Option AV) (s : Nat → Bool) : rd27 [] 8 G s = cond (s 9) (G .norm (fr27 (outS 3 [9]) 9) (hpS 3 (heap0 (roomF s)) [9])) (G .norm (fr27 (outS 3 []) 9) (hpS 3 (heap0 (roomF s)) [])) := by kernel_rfl
theorem q27_8_1 (G : Ex → AF → AH → Option AV) (y1 : Int) (s : Nat → Bool) : rd27 [y1] 8 G s = cond (s 9) (G .norm (fr27 (outS 3 [9, y1]) 9) (hpS 3 (heap0 (roomF s)) [9, y1])) (G .norm (fr27 (outS 3 [y1]) 9) (hpS 3 (heap0 (roomF s)) [y1])) := by kernel_rfl
theorem q27_8_2 (G : Ex → AF → AH → Option AV) (y2 y1 : Int) (s : Nat → Bool) : rd27 [y2, y1] 8 G s = cond (s 9) (G .norm (fr27 (outS 3 [9, y2, y1]) 9) (hpS 3 (heap0 (roomF s)) [9, y2, y1])) (G .norm (fr27 (outS 3 [y2, y1]) 9) (hpS 3 (heap0 (roomF s)) [y2, y1])) := by kernel_rfl
theorem q27_8_3 (G : Ex → AF → AH → Option AV) (y3 y2 y1 : Int) (s : Nat → Bool) : rd27 [y3, y2, y1] 8 G s = cond (s 9) (G .norm (fr27 (outS 3 [9, y3, y2, y1]) 9) (hpS 3 (heap0 (roomF s)) [9, y3, y2, y1])) (G .norm (fr27 (outS 3 [y3, y2, y1]) 9) (hpS 3 (heap0 (roomF s)) [y3, y2, y1])) := by kernel_rfl
theorem q27_8_4 (G : Ex → AF → AH → Option AV) (y4 y3 y2 y1 : Int) (s : Nat → Bool) : rd27 [y4, y3, y2, y1] 8 G s = cond (s 9) (G .norm (fr27 (outS 3 [9, y4, y3, y2, y1]) 9) (hpS 3 (heap0 (roomF s)) [9, y4, y3, y2, y1])) (G .norm (fr27 (outS 3 [y4, y3, y2, y1]) 9) (hpS 3 (heap0 (roomF s)) [y4, y3, y2, y1])) := by kernel_rfl
theorem q27_8_5 (G : Ex → AF → AH → Option AV) (y5 y4 y3 y2 y1 : Int) (s : Nat → Bool) : rd27 [y5, y4, y3, y2, y1] 8 G s = cond (s 9) (G .norm (fr27 (outS 3 [9, y5, y4, y3, y2, y1]) 9) (hpS 3 (heap0 (roomF s)) [9, y5, y4, y3, y2, y1])) (G .norm (fr27 (outS 3 [y5, y4, y3, y2, y1]) 9) (hpS 3 (heap0 (roomF s)) [y5, y4, y3, y2, y1])) := by kernel_rfl
theorem q27_8_6 (G : Ex → AF → AH → Option AV) (y6 y5 y4 y3 y2 y1 : Int) (s : Nat → Bool) : rd27 [y6, y5, y4, y3, y2, y1] 8 G s = cond (s 9) (G .norm (fr27 (outS 3 [9, y6, y5, y4, y3, y2, y1]) 9) (hpS 3 (heap0 (roomF s)) [9, y6, y5, y4, y3, y2, y1])) (G .norm (fr27 (outS 3 [y6, y5, y4, y3, y2, y1]) 9) (hpS 3 (heap0 (roomF s)) [y6, y5, y4, y3, y2, y1])) := by kernel_rfl
theorem q27_8_7 (G : Ex → AF → AH → Option AV) (y7 y6 y5 y4 y3 y2 y1 : Int) (s : Nat → Bool) : rd27 [y7, y6, y5, y4, y3, y2, y1] 8 G s = cond (s 9) (G .norm (fr27 (outS 3 [9, y7, y6, y5, y4, y3, y2, y1]) 9) (hpS 3 (heap0 (roomF s)) [9, y7, y6, y5, y4, y3, y2, y1])) (G .norm (fr27 (outS 3 [y7, y6, y5, y4, y3, y2, y1]) 9) (hpS 3 (heap0 (roomF s)) [y7, y6, y5, y4, y3, y2, y1])) := by kernel_rfl
theorem q27_8_8 (G : Ex → AF → AH → Option AV) (y8 y7 y6 y5 y4 y3 y2 y1 : Int) (s : Nat → Bool) : rd27 [y8, y7, y6, y5, y4, y3, y2, y1] 8 G s = cond (s 9) (G .norm (fr27 (outS 3 [9, y8, y7, y6, y5, y4, y3, y2, y1]) 9) (hpS 3 (heap0 (roomF s)) [9, y8, y7, y6, y5, y4, y3, y2, y1])) (G .norm (fr27 (outS 3 [y8, y7, y6, y5, y4, y3, y2, y1]) 9) (hpS 3 (heap0 (roomF s)) [y8, y7, y6, y5, y4, y3, y2, y1])) := by kernel_rfl
theorem q27_9_0 (G : Ex → AF → AH → Option AV) (s : Nat → Bool) : rd27 [] 9 G s = cond (s 10) (G .norm (fr27 (outS 3 [10]) 10) (hpS 3 (heap0 (roomF s)) [10])) (G .norm (fr27 (outS 3 []) 10) (hpS 3 (heap0 (roomF s)) [])) := by kernel_rfl
theorem q27_9_1 (G : Ex → AF → AH → Option AV) (y1 : Int) (s : Nat → Bool) : rd27 [y1] 9 G s = cond (s 10) (G .norm (fr27 (outS 3 [10, y1]) 10) (hpS 3 (heap0 (roomF s)) [10, y1])) (G .norm (fr27 (outS 3 [y1]) 10) (hpS 3 (heap0 (roomF s)) [y1])) := by kernel_rfl
theorem q27_9_2 (G : Ex → AF → AH → Option AV) (y2 y1 : Int) (s : Nat → Bool) : rd27 [y2, y1] 9 G s = cond (s 10) (G .norm (fr27 (outS 3 [10, y2, y1]) 10) (hpS 3 (heap0 (roomF s)) [10, y2, y1])) (G .norm (fr27 (outS 3 [y2, y1]) 10) (hpS 3 (heap0 (roomF s)) [y2, y1])) := by kernel_rfl
theorem q27_9_3 (G : Ex → AF → AH → Option AV) (y3 y2 y1 : Int) (s : Nat → Bool) : rd27 [y3, y2, y1] 9 G s = cond (s 10) (G .norm (fr27 (outS 3 [10, y3, y2, y1]) 10) (hpS 3 (heap0 (roomF s)) [10, y3, y2, y1])) (G .norm (fr27 (outS 3 [y3, y2, y1]) 10) (hpS 3 (heap0 (roomF s)) [y3, y2, y1])) := by kernel_rfl
theorem q27_9_4 (G : Ex → AF → AH → Option AV) (y4 y3 y2 y1 : Int) (s : Nat → Bool) : rd27 [y4, y3, y2, y1] 9 G s = cond (s 10) (G .norm (fr27 (outS 3 [10, y4, y3, y2, y1]) 10) (hpS 3 (heap0 (roomF s)) [10, y4, y3, y2, y1])) (G .norm (fr27 (outS 3 [y4, y3, y2, y1]) 10) (hpS 3 (heap0 (roomF s)) [y4, y3, y2, y1])) := by kernel_rfl
theorem q27_9_5 (G : Ex → AF → AH → Option AV) (y5 y4 y3 y2 y1 : Int) (s : Nat → Bool) : rd27 [y5, y4, y3, y2, y1] 9 G s = cond (s 10) (G .norm (fr27 (outS 3 [10, y5, y4, y3, y2, y1]) 10) (hpS 3 (heap0 (roomF s)) [10, y5, y4, y3, y2, y1])) (G .norm (fr27 (outS 3 [y5, y4, y3, y2, y1]) 10) (hpS 3 (heap0 (roomF s)) [y5, y4, y3, y2, y1])) := by kernel_rfl
theorem q27_9_6 (G : Ex → AF → AH → Option AV) (y6 y5 y4 y3 y2 y1 : Int) (s : Nat → Bool) : rd27 [y6, y5, y4, y3, y2, y1] 9 G s = cond (s 10) (G .norm (fr27 (outS 3 [10, y6, y5, y4, y3, y2, y1]) 10) (hpS 3 (heap0 (roomF s)) [10, y6, y5, y4, y3, y2, y1])) (G .norm (fr27 (outS 3 [y6, y5, y4, y3, y2, y1]) 10) (hpS 3 (heap0 (roomF s)) [y6, y5, y4, y3, y2, y1])) := by kernel_rfl
theorem q27_9_7 (G : Ex → AF → AH → Option AV) (y7 y6 y5 y4 y3 y2 y1 : Int) (s : Nat → Bool) : rd27 [y7, y6, y5, y4, y3, y2, y1] 9 G s = cond (s 10) (G .norm (fr27 (outS 3 [10, y7, y6, y5, y4, y3, y2, y1]) 10) (hpS 3 (heap0 (roomF s)) [10, y7, y6, y5, y4, y3, y2, y1])) (G .norm (fr27 (outS 3 [y7, y6, y5, y4, y3, y2, y1]) 10) (hpS 3 (heap0 (roomF s)) [y7, y6, y5, y4, y3, y2, y1])) := by kernel_rfl
theorem q27_9_8 (G : Ex → AF → AH → Option AV) (y8 y7 y6 y5 y4 y3 y2 y1 : Int) (s : Nat → Bool) : rd27 [y8, y7, y6, y5, y4, y3, y2, y1] 9 G s = cond (s 10) (G .norm (fr27 (outS 3 [10, y8, y7, y6, y5, y4, y3, y2, y1]) 10) (hpS 3 (heap0 (roomF s)) [10, y8, y7, y6, y5, y4, y3, y2, y1])) (G .norm (fr27 (outS 3 [y8, y7, y6, y5, y4, y3, y2, y1]) 10) (hpS 3 (heap0 (roomF s)) [y8, y7, y6, y5, y4, y3, y2, y1])) := by kernel_rfl
theorem q27_9_9 (G : Ex → AF → AH → Option AV) (y9 y8 y7 y6 y5 y4 y3 y2 y1 : Int) (s : Nat → Bool) : rd27 [y9, y8, y7, y6, y5, y4, y3, y2, y1] 9 G s = cond (s 10) (G .norm (fr27 (outS 3 [10, y9, y8, y7, y6, y5, y4, y3, y2, y1]) 10) (hpS 3 (heap0 (roomF s)) [10, y9, y8, y7, y6, y5, y4, y3, y2, y1])) (G .norm (fr27 (outS 3 [y9, y8, y7, y6, y5, y4, y3, y2, y1]) 10) (hpS 3 (heap0 (roomF s)) [y9, y8, y7, y6, y5, y4, y3, y2, y1])) := by kernel_rfl
theorem q27_10_0 (G : Ex → AF → AH → Option AV) (s : Nat → Bool) : rd27 [] 10 G s = cond (s 11) (G .norm (fr27 (outS 3 [11]) 11) (hpS 3 (heap0 (roomF s)) [11])) (G .norm (fr27 (outS 3 []) 11) (hpS 3 (heap0 (roomF s)) [])) := by kernel_rfl
theorem q27_10_1 (G : Ex → AF → AH → Option AV) (y1 : Int) (s : Nat → Bool) : rd27 [y1] 10 G s = cond (s 11) (G .norm (fr27 (outS 3 [11, y1]) 11) (hpS 3 (heap0 (roomF s)) [11, y1])) (G .norm (fr27 (outS 3 [y1]) 11) (hpS 3 (heap0 (roomF s)) [y1])) := by kernel_rfl
theorem q27_10_2 (G : Ex → AF → AH → Option AV) (y2 y1 : Int) (s : Nat → Bool) : rd27 [y2, y1] 10 G s = cond (s 11) (G .norm (fr27 (outS 3 [11, y2, y1]) 11) (hpS 3 (heap0 (roomF s)) [11, y2, y1])) (G .norm (fr27 (outS 3 [y2, y1]) 11) (hpS 3 (heap0 (roomF s)) [y2, y1])) := by kernel_rfl
theorem q27_10_3 (G : Ex → AF → AH → Option AV) (y3 y2 y1 : Int) (s : Nat → Bool) : rd27 [y3, y2, y1] 10 G s = cond (s 11) (G .norm (fr27 (outS 3 [11, y3, y2, y1]) 11) (hpS 3 (heap0 (roomF s)) [11, y3, y2, y1])) (G .norm (fr27 (outS 3 [y3, y2, y1]) 11) (hpS 3 (heap0 (roomF s)) [y3, y2, y1])) := by kernel_rfl
theorem q27_10_4 (G : Ex → AF → AH → Option AV) (y4 y3 y2 y1 : Int) (s : Nat → Bool) : rd27 [y4, y3, y2, y1] 10 G s = cond (s 11) (G .norm (fr27 (outS 3 [11, y4, y3, y2, y1]) 11) (hpS 3 (heap0 (roomF s)) [11, y4, y3, y2, y1])) (G .norm (fr27 (outS 3 [y4, y3, y2, y1]) 11) (hpS 3 (heap0 (roomF s)) [y4, y3, y2, y1])) := by kernel_rfl
theorem q27_10_5 (G : Ex → AF → AH → Option AV) (y5 y4 y3 y2 y1 : Int) (s : Nat → Bool) : rd27 [y5, y4, y3, y2, y1] 10 G s = cond (s 11) (G .norm (fr27 (outS 3 [11, y5, y4, y3, y2, y1]) 11) (hpS 3 (heap0 (roomF s)) [11, y5, y4, y3, y2, y1])) (G .norm (fr27 (outS 3 [y5, y4, y3, y2, y1]) 11) (hpS 3 (heap0 (roomF s)) [y5, y4, y3, y2, y1])) := by kernel_rfl
theorem q27_10_6 (G : Ex → AF → AH → Option AV) (y6 y5 y4 y3 y2 y1 : Int) (s : Nat → Bool) : rd27 [y6, y5, y4, y3, y2, y1] 10 G s = cond (s 11) (G .norm (fr27 (outS 3 [11, y6, y5, y4, y3, y2, y1]) 11) (hpS 3 (heap0 (roomF s)) [11, y6, y5, y4, y3, y2, y1])) (G .norm (fr27 (outS 3 [y6, y5, y4, y3, y2, y1]) 11) (hpS 3 (heap0 (roomF s)) [y6, y5, y4, y3, y2, y1])) := by kernel_rfl
theorem q27_10_7 (G : Ex → AF → AH → Option AV) (y7 y6 y5 y4 y3 y2 y1 : Int) (s : Nat → Bool) : rd27 [y7, y6, y5, y4, y3, y2, y1] 10 G s = cond (s 11) (G .norm (fr27 (outS 3 [11, y7, y6, y5, y4, y3, y2, y1]) 11) (hpS 3 (heap0 (roomF s)) [11, y7, y6, y5, y4, y3, y2, y1])) (G .norm (fr27 (outS 3 [y7, y6, y5, y4, y3, y2, y1]) 11) (hpS 3 (heap0 (roomF s)) [y7, y6, y5, y4, y3, y2, y1])) := by kernel_rfl
theorem q27_10_8 (G : Ex → AF → AH → Option AV) (y8 y7 y6 y5 y4 y3 y2 y1 : Int) (s : Nat → Bool) : rd27 [y8, y7, y6, y5, y4, y3, y2, y1] 10 G s = cond (s 11) (G .norm (fr27 (outS 3 [11, y8, y7, y6, y5, y4, y3, y2, y1]) 11) (hpS 3 (heap0 (roomF s)) [11, y8, y7, y6, y5, y4, y3, y2, y1])) (G .norm (fr27 (outS 3 [y8, y7, y6, y5, y4, y3, y2, y1]) 11) (hpS 3 (heap0 (roomF s)) [y8, y7, y6, y5, y4, y3, y2, y1])) := by kernel_rfl
theorem q27_10_9 (G : Ex → AF → AH → Option AV) (y9 y8 y7 y6 y5 y4 y3 y2 y1 : Int) (s : Nat → Bool) : rd27 [y9, y8, y7, y6, y5, y4, y3, y2, y1] 10 G s = cond (s 11) (G .norm (fr27 (outS 3 [11, y9, y8, y7, y6, y5, y4, y3, y2, y1]) 11) (hpS 3 (heap0 (roomF s)) [11, y9, y8, y7, y6, y5, y4, y3, y2, y1])) (G .norm (fr27 (outS 3 [y9, y8, y7, y6, y5, y4, y3, y2, y1]) 11) (hpS 3 (heap0 (roomF s)) [y9, y8, y7, y6, y5, y4, y3, y2, y1])) := by kernel_rfl
theorem q27_10_10 (G : Ex → AF → AH → Option AV) (y10 y9 y8 y7 y6 y5 y4 y3 y2 y1 : Int) (s : Nat → Bool) : rd27 [y10, y9, y8, y7, y6, y5, y4, y3, y2, y1] 10 G s = cond (s 11) (G .norm (fr27 (outS 3 [11, y10, y9, y8, y7, y6, y5, y4, y3, y2, y1]) 11) (hpS 3 (heap0 (roomF s)) [11, y10, y9, y8, y7, y6, y5, y4, y3, y2, y1])) (G .norm (fr27 (outS 3 [y10, y9, y8, y7, y6, y5, y4, y3, y2, y1]) 11) (hpS 3 (heap0 (roomF s)) [y10, y9, y8, y7, y6, y5, y4, y3, y2, y1])) := by kernel_rfl
theorem q27_11_0 (G : Ex → AF → AH → Option AV) (s : Nat → Bool) : rd27 [] 11 G s = cond (s 12) (G .norm (fr27 (outS 3 [12]) 12) (hpS 3 (heap0 (roomF s)) [12])) (G .norm (fr27 (outS 3 []) 12) (hpS 3 (heap0 (roomF s)) [])) := by kernel_rfl
theorem q27_11_1 (G : Ex → AF → AH → Option AV) (y1 : Int) (s : Nat → Bool) : rd27 [y1] 11 G s = cond (s 12) (G .norm (fr27 (outS 3 [12, y1]) 12) (hpS 3 (heap0 (roomF s)) [12, y1])) (G .norm (fr27 (outS 3 [y1]) 12) (hpS 3 (heap0 (roomF s)) [y1])) := by kernel_rfl
theorem q27_11_2 (G : Ex → AF → AH → Option AV) (y2 y1 : Int) (s : Nat → Bool) : rd27 [y2, y1] 11 G s = cond (s 12) (G .norm (fr27 (outS 3 [12, y2, y1]) 12) (hpS 3 (heap0 (roomF s)) [12, y2, y1])) (G .norm (fr27 (outS 3 [y2, y1]) 12) (hpS 3 (heap0 (roomF s)) [y2, y1])) := by kernel_rfl
theorem q27_11_3 (G : Ex → AF → AH → Option AV) (y3 y2 y1 : Int) (s : Nat → Bool) : rd27 [y3, y2, y1] 11 G s = cond (s 12) (G .norm (fr27 (outS 3 [12, y3, y2, y1]) 12) (hpS 3 (heap0 (roomF s)) [12, y3, y2, y1])) (G .norm (fr27 (outS 3 [y3, y2, y1]) 12) (hpS 3 (heap0 (roomF s)) [y3, y2, y1])) := by kernel_rfl
theorem q27_11_4 (G : Ex → AF → AH → Option AV) (y4 y3 y2 y1 : Int) (s : Nat → Bool) : rd27 [y4, y3, y2, y1] 11 G s = cond (s 12) (G .norm (fr27 (outS 3 [12, y4, y3, y2, y1]) 12) (hpS 3 (heap0 (roomF s)) [12, y4, y3, y2, y1])) (G .norm (fr27 (outS 3 [y4, y3, y2, y1]) 12) (hpS 3 (heap0 (roomF s)) [y4, y3, y2, y1])) := by kernel_rfl
theorem q27_11_5 (G : Ex → AF → AH → Option AV) (y5 y4 y3 y2 y1 : Int) (s : Nat → Bool) : rd27 [y5, y4, y3, y2, y1] 11 G s = cond (s 12) (G .norm (fr27 (outS 3 [12, y5, y4, y3, y2, y1]) 12) (hpS 3 (heap0 (roomF s)) [12, y5, y4, y3, y2, y1])) (G .norm (fr27 (outS 3 [y5, y4, y3, y2, y1]) 12) (hpS 3 (heap0 (roomF s)) [y5, y4, y3, y2, y1])) := by kernel_rfl
theorem q27_11_6 (G : Ex → AF → AH → Option AV) (y6 y5 y4 y3 y2 y1 : Int) (s : Nat → Bool) : rd27 [y6, y5, y4, y3, y2, y1] 11 G s = cond (s 12) (G .norm (fr27 (outS 3 [12, y6, y5, y4, y3, y2, y1]) 12) (hpS 3 (heap0 (roomF s)) [12, y6, y5, y4, y3, y2, y1])) (G .norm (fr27 (outS 3 [y6, y5, y4, y3, y2, y1]) 12) (hpS 3 (heap0 (roomF s)) [y6, y5, y4, y3, y2, y1])) := by kernel_rfl
theorem q27_11_7 (G : Ex → AF → AH → Option AV) (y7 y6 y5 y4 y3 y2 y1 : Int) (s : Nat → Bool) : rd27 [y7, y6, y5, y4, y3, y2, y1] 11 G s = cond (s 12) (G .norm (fr27 (outS 3 [12, y7, y6, y5, y4, y3, y2, y1]) 12) (hpS 3 (heap0 (roomF s)) [12, y7, y6, y5, y4, y3, y2, y1])) (G .norm (fr27 (outS 3 [y7, y6, y5, y4, y3, y2, y1]) 12) (hpS 3 (heap0 (roomF s)) [y7, y6, y5, y4, y3, y2, y1])) := by kernel_rfl
theorem q27_11_8 (G : Ex → AF → AH → Option AV) (y8 y7 y6 y5 y4 y3 y2 y1 : Int) (s : Nat → Bool) : rd27 [y8, y7, y6, y5, y4, y3, y2, y1] 11 G s = cond (s 12) (G .norm (fr27 (outS 3 [12, y8, y7, y6, y5, y4, y3, y2, y1]) 12) (hpS 3 (heap0 (roomF s)) [12, y8, y7, y6, y5, y4, y3, y2, y1])) (G .norm (fr27 (outS 3 [y8, y7, y6, y5, y4, y3, y2, y1]) 12) (hpS 3 (heap0 (roomF s)) [y8, y7, y6, y5, y4, y3, y2, y1])) := by kernel_rfl
theorem q27_11_9 (G : Ex → AF → AH → Option AV) (y9 y8 y7 y6 y5 y4 y3 y2 y1 : Int) (s : Nat → Bool) : rd27 [y9, y8, y7, y6, y5, y4, y3, y2, y1] 11 G s = cond (s 12) (G .norm (fr27 (outS 3 [12, y9, y8, y7, y6, y5, y4, y3, y2, y1]) 12) (hpS 3 (heap0 (roomF s)) [12, y9, y8, y7, y6, y5, y4, y3, y2, y1])) (G .norm (fr27 (outS 3 [y9, y8, y7, y6, y5, y4, y3, y2, y1]) 12) (hpS 3 (heap0 (roomF s)) [y9, y8, y7, y6, y5, y4, y3, y2, y1])) := by kernel_rfl
theorem q27_11_10 (G : Ex → AF → AH → Option AV) (y10 y9 y8 y7 y6 y5 y4 y3 y2 y1 : Int) (s : Nat → Bool) : rd27 [y10, y9, y8, y7, y6, y5, y4, y3, y2, y1] 11 G s = cond (s 12) (G .norm (fr27 (outS 3 [12, y10, y9, y8, y7, y6, y5, y4, y3, y2, y1]) 12) (hpS 3 (heap0 (roomF s)) [12, y10, y9, y8, y7, y6, y5, y4, y3, y2, y1])) (G .norm (fr27 (outS 3 [y10, y9, y8, y7, y6, y5, y4, y3, y2, y1]) 12) (hpS 3 (heap0 (roomF s)) [y10, y9, y8, y7, y6, y5, y4, y3, y2, y1])) := by kernel_rfl
theorem q27_11_11 (G : Ex → AF → AH → Option AV) (y11 y10 y9 y8 y7 y6 y5 y4 y3 y2 y1 : Int) (s : Nat → Bool) : rd27 [y11, y10, y9, y8, y7, y6, y5, y4, y3, y2, y1] 11 G s = cond (s 12) (G .norm (fr27 (outS 3 [12, y11, y10, y9, y8, y7, y6, y5, y4, y3, y2, y1]) 12) (hpS 3 (heap0 (roomF s)) [12, y11, y10, y9, y8, y7, y6, y5, y4, y3, y2, y1])) (G .norm (fr27 (outS 3 [y11, y10, y9, y8, y7, y6, y5, y4, y3, y2, y1]) 12) (hpS 3 (heap0 (roomF s)) [y11, y10, y9, y8, y7, y6, y5, y4, y3, y2, y1])) := by kernel_rfl
theorem q27_12_0 (G : Ex → AF → AH → Option AV) (s : Nat → Bool) : rd27 [] 12 G s = cond (s 13) (G .norm (fr27 (outS 3 [13]) 13) (hpS 3 (heap0 (roomF s)) [13])) (G .norm (fr27 (outS 3 []) 13) (hpS 3 (heap0 (roomF s)) [])) := by kernel_rfl
theorem q27_12_1 (G : Ex → AF → AH → Option AV) (y1 : Int) (s : Nat → Bool) : rd27 [y1] 12 G s = cond (s 13) (G .norm (fr27 (outS 3 [13, y1]) 13) (hpS 3 (heap0 (roomF s)) [13, y1])) (G .norm (fr27 (outS 3 [y1]) 13) (hpS 3 (heap0 (roomF s)) [y1])) := by kernel_rfl
theorem q27_12_2 (G : Ex → AF → AH → Option AV) (y2 y1 : Int) (s : Nat → Bool) : rd27 [y2, y1] 12 G s = cond (s 13) (G .norm (fr27 (outS 3 [13, y2, y1]) 13) (hpS 3 (heap0 (roomF s)) [13, y2, y1])) (G .norm (fr27 (outS 3 [y2, y1]) 13) (hpS 3 (heap0 (roomF s)) [y2, y1])) := by kernel_rfl
theorem q27_12_3 (G : Ex → AF → AH → Option AV) (y3 y2 y1 : Int) (s : Nat → Bool) : rd27 [y3, y2, y1] 12 G s = cond (s 13) (G .norm (fr27 (outS 3 [13, y3, y2, y1]) 13) (hpS 3 (heap0 (roomF s)) [13, y3, y2, y1])) (G .norm (fr27 (outS 3 [y3, y2, y1]) 13) (hpS 3 (heap0 (roomF s)) [y3, y2, y1])) := by kernel_rfl
theorem q27_12_4 (G : Ex → AF → AH → Option AV) (y4 y3 y2 y1 : Int) (s : Nat → Bool) : rd27 [y4, y3, y2, y1] 12 G s = cond (s 13) (G .norm (fr27 (outS 3 [13, y4, y3, y2, y1]) 13) (hpS 3 (heap0 (roomF s)) [13, y4, y3, y2, y1])) (G .norm (fr27 (outS 3 [y4, y3, y2, y1]) 13) (hpS 3 (heap0 (roomF s)) [y4, y3, y2, y1])) := by kernel_rfl
theorem q27_12_5 (G : Ex → AF → AH → Option AV) (y5 y4 y3 y2 y1 : Int) (s : Nat → Bool) : rd27 [y5, y4, y3, y2, y1] 12 G s = cond (s 13) (G .norm (fr27 (outS 3 [13, y5, y4, y3, y2, y1]) 13) (hpS 3 (heap0 (roomF s)) [13, y5, y4, y3, y2, y1])) (G .norm (fr27 (outS 3 [y5, y4, y3, y2, y1]) 13) (hpS 3 (heap0 (roomF s)) [y5, y4, y3, y2, y1])) := by kernel_rfl
theorem q27_12_6 (G : Ex → AF → AH → Option AV) (y6 y5 y4 y3 y2 y1 : Int) (s : Nat → Bool) : rd27 [y6, y5, y4, y3, y2, y1] 12 G s = cond (s 13) (G .norm (fr27 (outS 3 [13, y6, y5, y4, y3, y2, y1]) 13) (hpS 3 (heap0 (roomF s)) [13, y6, y5, y4, y3, y2, y1])) (G .norm (fr27 (outS 3 [y6, y5, y4, y3, y2, y1]) 13) (hpS 3 (heap0 (roomF s)) [y6, y5, y4, y3, y2, y1])) := by kernel_rfl
theorem q27_12_7 (G : Ex → AF → AH → Option AV) (y7 y6 y5 y4 y3 y2 y1 : Int) (s : Nat → Bool) : rd27 [y7, y6, y5, y4, y3, y2, y1] 12 G s = cond (s 13) (G .norm (fr27 (outS 3 [13, y7, y6, y5, y4, y3, y2, y1]) 13) (hpS 3 (heap0 (roomF s)) [13, y7, y6, y5, y4, y3, y2, y1])) (G .norm (fr27 (outS 3 [y7, y6, y5, y4, y3, y2, y1]) 13) (hpS 3 (heap0 (roomF s)) [y7, y6, y5, y4, y3, y2, y1])) := by kernel_rfl
theorem q27_12_8 (G : Ex → AF → AH → Option AV) (y8 y7 y6 y5 y4 y3 y2 y1 : Int) (s : Nat → Bool) : rd27 [y8, y7, y6, y5, y4, y3, y2, y1] 12 G s = cond (s 13) (G .norm (fr27 (outS 3 [13, y8, y7, y6, y5, y4, y3, y2, y1]) 13) (hpS 3 (heap0 (roomF s)) [13, y8, y7, y6, y5, y4, y3, y2, y1])) (G .norm (fr27 (outS 3 [y8, y7, y6, y5, y4, y3, y2, y1]) 13) (hpS 3 (heap0 (roomF s)) [y8, y7, y6, y5, y4, y3, y2, y1])) := by kernel_rfl
theorem q27_12_9 (G : Ex → AF → AH → Option AV) (y9 y8 y7 y6 y5 y4 y3 y2 y1 : Int) (s : Nat → Bool) : rd27 [y9, y8, y7, y6, y5, y4, y3, y2, y1] 12 G s = cond (s 13) (G .norm (fr27 (outS 3 [13, y9, y8, y7, y6, y5, y4, y3, y2, y1]) 13) (hpS 3 (heap0 (roomF s)) [13, y9, y8, y7, y6, y5, y4, y3, y2, y1])) (G .norm (fr27 (outS 3 [y9, y8, y7, y6, y5, y4, y3, y2, y1]) 13) (hpS 3 (heap0 (roomF s)) [y9, y8, y7, y6, y5, y4, y3, y2, y1])) := by kernel_rfl
theorem q27_12_10 (G : Ex → AF → AH → Option AV) (y10 y9 y8 y7 y6 y5 y4 y3 y2 y1 : Int) (s : Nat → Bool) : rd27 [y10, y9, y8, y7, y6, y5, y4, y3, y2, y1] 12 G s = cond (s 13) (G .norm (fr27 (outS 3 [13, y10, y9, y8, y7, y6, y5, y4, y3, y2, y1]) 13) (hpS 3 (heap0 (roomF s)) [13, y10, y9, y8, y7, y6, y5, y4, y3, y2, y1])) (G .norm (fr27 (outS 3 [y10, y9, y8, y7, y6, y5, y4, y3, y2, y1]) 13) (hpS 3 (heap0 (roomF s)) [y10, y9, y8, y7, y6, y5, y4, y3, y2, y1])) := by kernel_rfl
theorem q27_12_11 (G : Ex → AF → AH → Option AV) (y11 y10 y9 y8 y7 y6 y5 y4 y3 y2 y1 : Int) (s : Nat → Bool) : rd27 [y11, y10, y9, y8, y7, y6, y5, y4, y3, y2, y1] 12 G s = cond (s 13) (G .norm (fr27 (outS 3 [13, y11, y10, y9, y8, y7, y6, y5, y4, y3, y2, y1]) 13) (hpS 3 (heap0 (roomF s)) [13, y11, y10, y9, y8, y7, y6, y5, y4, y3, y2, y1])) (G .norm (fr27 (outS 3 [y11, y10, y9, y8, y7, y6, y5, y4, y3, y2, y1]) 13) (hpS 3 (heap0 (roomF s)) [y11, y10, y9, y8, y7, y6, y5, y4, y3, y2, y1])) := by kernel_rfl
theorem q27_12_12 (G : Ex → AF → AH → Option AV) (y12 y11 y10 y9 y8 y7 y6 y5 y4 y3 y2 y1 : Int) (s : Nat → Bool) : rd27 [y12, y11, y10, y9, y8, y7, y6, y5, y4, y3, y2, y1] 12 G s = cond (s 13) (G .norm (fr27 (outS 3 [13, y12, y11, y10, y9, y8, y7, y6, y5, y4, y3, y2, y1]) 13) (hpS 3 (heap0 (roomF s)) [13, y12, y11, y10, y9, y8, y7, y6, y5, y4, y3, y2, y1])) (G .norm (fr27 (outS 3 [y12, y11, y10, y9, y8, y7, y6, y5, y4, y3, y2, y1]) 13) (hpS 3 (heap0 (roomF s)) [y12, y11, y10, y9, y8, y7, y6, y5, y4, y3, y2, y1])) := by kernel_rfl
theorem q27_13_0 (G : Ex → AF → AH → Option AV) (s : Nat → Bool) : rd27 [] 13 G s = cond (s 14) (G .norm (fr27 (outS 3 [14]) 14) (hpS 3 (heap0 (roomF s)) [14])) (G .norm (fr27 (outS 3 []) 14) (hpS 3 (heap0 (roomF s)) [])) := by kernel_rfl
theorem q27_13_1 (G : Ex → AF → AH → Option AV) (y1 : Int) (s : Nat → Bool) : rd27 [y1] 13 G s = cond (s 14) (G .norm (fr27 (outS 3 [14, y1]) 14) (hpS 3 (heap0 (roomF s)) [14, y1])) (G .norm (fr27 (outS 3 [y1]) 14) (hpS 3 (heap0 (roomF s)) [y1])) := by kernel_rfl
theorem q27_13_2 (G : Ex → AF → AH → Option AV) (y2 y1 : Int) (s : Nat → Bool) : rd27 [y2, y1] 13 G s = cond (s 14) (G .norm (fr27 (outS 3 [14, y2, y1]) 14) (hpS 3 (heap0 (roomF s)) [14, y2, y1])) (G .norm (fr27 (outS 3 [y2, y1]) 14) (hpS 3 (heap0 (roomF s)) [y2, y1])) := by kernel_rfl
theorem q27_13_3 (G : Ex → AF → AH → Option AV) (y3 y2 y1 : Int) (s : Nat → Bool) : rd27 [y3, y2, y1] 13 G s = cond (s 14) (G .norm (fr27 (outS 3 [14, y3, y2, y1]) 14) (hpS 3 (heap0 (roomF s)) [14, y3, y2, y1])) (G .norm (fr27 (outS 3 [y3, y2, y1]) 14) (hpS 3 (heap0 (roomF s)) [y3, y2, y1])) := by kernel_rfl
theorem q27_13_4 (G : Ex → AF → AH → Option AV) (y4 y3 y2 y1 : Int) (s : Nat → Bool) : rd27 [y4, y3, y2, y1] 13 G s = cond (s 14) (G .norm (fr27 (outS 3 [14, y4, y3, y2, y1]) 14) (hpS 3 (heap0 (roomF s)) [14, y4, y3, y2, y1])) (G .norm (fr27 (outS 3 [y4, y3, y2, y1]) 14) (hpS 3 (heap0 (roomF s)) [y4, y3, y2, y1])) := by kernel_rfl
theorem q27_13_5 (G : Ex → AF → AH → Option AV) (y5 y4 y3 y2 y1 : Int) (s : Nat → Bool) : rd27 [y5, y4, y3, y2, y1] 13 G s = cond (s 14) (G .norm (fr27 (outS 3 [14, y5, y4, y3, y2, y1]) 14) (hpS 3 (heap0 (roomF s)) [14, y5, y4, y3, y2, y1])) (G .norm (fr27 (outS 3 [y5, y4, y3, y2, y1]) 14) (hpS 3 (heap0 (roomF s)) [y5, y4, y3, y2, y1])) := by kernel_rfl
theorem q27_13_6 (G : Ex → AF → AH → Option AV) (y6 y5 y4 y3 y2 y1 : Int) (s : Nat → Bool) : rd27 [y6, y5, y4, y3, y2, y1] 13 G s = cond (s 14) (G .norm (fr27 (outS 3 [14, y6, y5, y4, y3, y2, y1]) 14) (hpS 3 (heap0 (roomF s)) [14, y6, y5, y4, y3, y2, y1])) (G .norm (fr27 (outS 3 [y6, y5, y4, y3, y2, y1]) 14) (hpS 3 (heap0 (roomF s)) [y6, y5, y4, y3, y2, y1])) := by kernel_rfl
theorem q27_13_7 (G : Ex → AF → AH → Option AV) (y7 y6 y5 y4 y3 y2 y1 : Int) (s : Nat → Bool) : rd27 [y7, y6, y5, y4, y3, y2, y1] 13 G s = cond (s 14) (G .norm (fr27 (outS 3 [14, y7, y6, y5, y4, y3, y2, y1]) 14) (hpS 3 (heap0 (roomF s)) [14, y7, y6, y5, y4, y3, y2, y1])) (G .norm (fr27 (outS 3 [y7, y6, y5, y4, y3, y2, y1]) 14) (hpS 3 (heap0 (roomF s)) [y7, y6, y5, y4, y3, y2, y1])) := by kernel_rfl
theorem q27_13_8 (G : Ex → AF → AH → Option AV) (y8 y7 y6 y5 y4 y3 y2 y1 : Int) (s : Nat → Bool) : rd27 [y8, y7, y6, y5, y4, y3, y2, y1] 13 G s = cond (s 14) (G .norm (fr27 (outS 3 [14, y8, y7, y6, y5, y4, y3, y2, y1]) 14) (hpS 3 (heap0 (roomF s)) [14, y8, y7, y6, y5, y4, y3, y2, y1])) (G .norm (fr27 (outS 3 [y8, y7, y6, y5, y4, y3, y2, y1]) 14) (hpS 3 (heap0 (roomF s)) [y8, y7, y6, y5, y4, y3, y2, y1])) := by kernel_rfl
theorem q27_13_9 (G : Ex → AF → AH → Option AV) (y9 y8 y7 y6 y5 y4 y3 y2 y1 : Int) (s : Nat → Bool) : rd27 [y9, y8, y7, y6, y5, y4, y3, y2, y1] 13 G s = cond (s 14) (G .norm (fr27 (outS 3 [14, y9, y8, y7, y6, y5, y4, y3, y2, y1]) 14) (hpS 3 (heap0 (roomF s)) [14, y9, y8, y7, y6, y5, y4, y3, y2, y1])) (G .norm (fr27 (outS 3 [y9, y8, y7, y6, y5, y4, y3, y2, y1]) 14) (hpS 3 (heap0 (roomF s)) [y9, y8, y7, y6, y5, y4, y3, y2, y1])) := by kernel_rfl
theorem q27_13_10 (G : Ex → AF → AH → Option AV) (y10 y9 y8 y7 y6 y5 y4 y3 y2 y1 : Int) (s : Nat → Bool) : rd27 [y10, y9, y8, y7, y6, y5, y4, y3, y2, y1] 13 G s = cond (s 14) (G .norm (fr27 (outS 3 [14, y10, y9, y8, y7, y6, y5, y4, y3, y2, y1]) 14) (hpS 3 (heap0 (roomF s)) [14, y10, y9, y8, y7, y6, y5, y4, y3, y2, y1])) (G .norm (fr27 (outS 3 [y10, y9, y8, y7, y6, y5, y4, y3, y2, y1]) 14) (hpS 3 (heap0 (roomF s)) [y10, y9, y8, y7, y6, y5, y4, y3, y2, y1])) := by kernel_rfl
theorem q27_13_11 (G : Ex → AF → AH → Option AV) (y11 y10 y9 y8 y7 y6 y5 y4 y3 y2 y1 : Int) (s : Nat → Bool) : rd27 [y11, y10, y9, y8, y7, y6, y5, y4, y3, y2, y1] 13 G s = cond (s 14) (G .norm (fr27 (outS 3 [14, y11, y10, y9, y8, y7, y6, y5, y4, y3, y2, y1]) 14) (hpS 3 (heap0 (roomF s)) [14, y11, y10, y9, y8, y7, y6, y5, y4, y3, y2, y1])) (G .norm (fr27 (outS 3 [y11, y10, y9, y8, y7, y6, y5, y4, y3, y2, y1]) 14) (hpS 3 (heap0 (roomF s)) [y11, y10, y9, y8, y7, y6, y5, y4, y3, y2, y1])) := by kernel_rfl
theorem q27_13_12 (G : Ex → AF → AH → Option AV) (y12 y11 y10 y9 y8 y7 y6 y5 y4 y3 y2 y1 : Int) (s : Nat → Bool) : rd27 [y12, y11, y10, y9, y8, y7, y6, y5, y4, y3, y2, y1] 13 G s = cond (s 14) (G .norm (fr27 (outS 3 [14, y12, y11, y10, y9, y8, y7, y6, y5, y4, y3, y2, y1]) 14) (hpS 3 (heap0 (roomF s)) [14, y12, y11, y10, y9, y8, y7, y6, y5, y4, y3, y2, y1])) (G .norm (fr27 (outS 3 [y12, y11, y10, y9, y8, y7, y6, y5, y4, y3, y2, y1]) 14) (hpS 3 (heap0 (roomF s)) [y12, y11, y10, y9, y8, y7, y6, y5, y4, y3, y2, y1])) := by kernel_rfl
theorem q27_13_13 (G : Ex → AF → AH → Option AV) (y13 y12 y11 y10 y9 y8 y7 y6 y5 y4 y3 y2 y1 : Int) (s : Nat → Bool) : rd27 [y13, y12, y11, y10, y9, y8, y7, y6, y5, y4, y3, y2, y1] 13 G s = cond (s 14) (G .norm (fr27 (outS 3 [14, y13, y12, y11, y10, y9, y8, y7, y6, y5, y4, y3, y2, y1]) 14) (hpS 3 (heap0 (roomF s)) [14, y13, y12, y11, y10, y9, y8, y7, y6, y5, y4, y3, y2, y1])) (G .norm (fr27 (outS 3 [y13, y12, y11, y10, y9, y8, y7, y6, y5, y4, y3, y2, y1]) 14) (hpS 3 (heap0 (roomF s)) [y13, y12, y11, y10, y9, y8, y7, y6, y5, y4, y3, y2, y1])) := by kernel_rfl
theorem q27_14_0 (G : Ex → AF → AH → Option AV) (s : Nat → Bool) : rd27 [] 14 G s = cond (s 15) (G .norm (fr27 (outS 3 [15]) 15) (hpS 3 (heap0 (roomF s)) [15])) (G .norm (fr27 (outS 3 []) 15) (hpS 3 (heap0 (roomF s)) [])) := by kernel_rfl
theorem q27_14_1 (G : Ex → AF → AH → Option AV) (y1 : Int) (s : Nat → Bool) : rd27 [y1] 14 G s = cond (s 15) (G .norm (fr27 (outS 3 [15, y1]) 15) (hpS 3 (heap0 (roomF s)) [15, y1])) (G .norm (fr27 (outS 3 [y1]) 15) (hpS 3 (heap0 (roomF s)) [y1])) := by kernel_rfl
theorem q27_14_2 (G : Ex → AF → AH → Option AV) (y2 y1 : Int) (s : Nat → Bool) : rd27 [y2, y1] 14 G s = cond (s 15) (G .norm (fr27 (outS 3 [15, y2, y1]) 15) (hpS 3 (heap0 (roomF s)) [15, y2, y1])) (G .norm (fr27 (outS 3 [y2, y1]) 15) (hpS 3 (heap0 (roomF s)) [y2, y1])) := by kernel_rfl
theorem q27_14_3 (G : Ex → AF → AH → Option AV) (y3 y2 y1 : Int) (s : Nat → Bool) : rd27 [y3, y2, y1] 14 G s = cond (s 15) (G .norm (fr27 (outS 3 [15, y3, y2, y1]) 15) (hpS 3 (heap0 (roomF s)) [15, y3, y2, y1])) (G .norm (fr27 (outS 3 [y3, y2, y1]) 15) (hpS 3 (heap0 (roomF s)) [y3, y2, y1])) := by kernel_rfl
theorem q27_14_4 (G : Ex → AF → AH → Option AV) (y4 y3 y2 y1 : Int) (s : Nat → Bool) : rd27 [y4, y3, y2, y1] 14 G s = cond (s 15) (G .norm (fr27 (outS 3 [15, y4, y3, y2, y1]) 15) (hpS 3 (heap0 (roomF s)) [15, y4, y3, y2, y1])) (G .norm (fr27 (outS 3 [y4, y3, y2, y1]) 15) (hpS 3 (heap0 (roomF s)) [y4, y3, y2, y1])) := by kernel_rfl
theorem q27_14_5 (G : Ex → AF → AH → Option AV) (y5 y4 y3 y2 y1 : Int) (s : Nat → Bool) : rd27 [y5, y4, y3, y2, y1] 14 G s = cond (s 15) (G .norm (fr27 (outS 3 [15, y5, y4, y3, y2, y1]) 15) (hpS 3 (heap0 (roomF s)) [15, y5, y4, y3, y2, y1])) (G .norm (fr27 (outS 3 [y5, y4, y3, y2, y1]) 15) (hpS 3 (heap0 (roomF s)) [y5, y4, y3, y2, y1])) := by kernel_rfl
theorem q27_14_6 (G : Ex → AF → AH → Option AV) (y6 y5 y4 y3 y2 y1 : Int) (s : Nat → Bool) : rd27 [y6, y5, y4, y3, y2, y1] 14 G s = cond (s 15) (G .norm (fr27 (outS 3 [15, y6, y5, y4, y3, y2, y1]) 15) (hpS 3 (heap0 (roomF s)) [15, y6, y5, y4, y3, y2, y1])) (G .norm (fr27 (outS 3 [y6, y5, y4, y3, y2, y1]) 15) (hpS 3 (heap0 (roomF s)) [y6, y5, y4, y3, y2, y1])) := by kernel_rfl
theorem q27_14_7 (G : Ex → AF → AH → Option AV) (y7 y6 y5 y4 y3 y2 y1 : Int) (s : Nat → Bool) : rd27 [y7, y6, y5, y4, y3, y2, y1] 14 G s = cond (s 15) (G .norm (fr27 (outS 3 [15, y7, y6, y5, y4, y3, y2, y1]) 15) (hpS 3 (heap0 (roomF s)) [15, y7, y6, y5, y4, y3, y2, y1])) (G .norm (fr27 (outS 3 [y7, y6, y5, y4, y3, y2, y1]) 15) (hpS 3 (heap0 (roomF s)) [y7, y6, y5, y4, y3, y2, y1])) := by kernel_rfl
theorem q27_14_8 (G : Ex → AF → AH → Option AV) (y8 y7 y6 y5 y4 y3 y2 y1 : Int) (s : Nat → Bool) : rd27 [y8, y7, y6, y5, y4, y3, y2, y1] 14 G s = cond (s 15) (G .norm (fr27 (outS 3 [15, y8, y7, y6, y5, y4, y3, y2, y1]) 15) (hpS 3 (heap0 (roomF s)) [15, y8, y7, y6, y5, y4, y3, y2, y1])) (G .norm (fr27 (outS 3 [y8, y7, y6, y5, y4, y3, y2, y1]) 15) (hpS 3 (heap0 (roomF s)) [y8, y7, y6, y5, y4, y3, y2, y1])) := by kernel_rfl
theorem q27_14_9 (G : Ex → AF → AH → Option AV) (y9 y8 y7 y6 y5 y4 y3 y2 y1 : Int) (s : Nat → Bool) : rd27 [y9, y8, y7, y6, y5, y4, y3, y2, y1] 14 G s = cond (s 15) (G .norm (fr27 (outS 3 [15, y9, y8, y7, y6, y5, y4, y3, y2, y1]) 15) (hpS 3 (heap0 (roomF s)) [15, y9, y8, y7, y6, y5, y4, y3, y2, y1])) (G .norm (fr27 (outS 3 [y9, y8, y7, y6, y5, y4, y3, y2, y1]) 15) (hpS 3 (heap0 (roomF s)) [y9, y8, y7, y6, y5, y4, y3, y2, y1])) := by kernel_rfl
theorem q27_14_10 (G : Ex → AF → AH → Option AV) (y10 y9 y8 y7 y6 y5 y4 y3 y2 y1 : Int) (s : Nat → Bool) : rd27 [y10, y9, y8, y7, y6, y5, y4, y3, y2, y1] 14 G s = cond (s 15) (G .norm (fr27 (outS 3 [15, y10, y9, y8, y7, y6, y5, y4, y3, y2, y1]) 15) (hpS 3 (heap0 (roomF s)) [15, y10, y9, y8, y7, y6, y5, y4, y3, y2, y1])) (G .norm (fr27 (outS 3 [y10, y9, y8, y7, y6, y5, y4, y3, y2, y1]) 15) (hpS 3 (heap0 (roomF s)) [y10, y9, y8, y7, y6, y5, y4, y3, y2, y1])) := by kernel_rfl
theorem q27_14_11 (G : Ex → AF → AH → Option AV) (y11 y10 y9 y8 y7 y6 y5 y4 y3 y2 y1 : Int) (s : Nat → Bool) : rd27 [y11, y10, y9, y8, y7, y6, y5, y4, y3, y2, y1] 14 G s = cond (s 15) (G .norm (fr27 (outS 3 [15, y11, y10, y9, y8, y7, y6, y5, y4, y3, y2, y1]) 15) (hpS 3 (heap0 (roomF s)) [15, y11, y10, y9, y8, y7, y6, y5, y4, y3, y2, y1])) (G .norm (fr27 (outS 3 [y11, y10, y9, y8, y7, y6, y5, y4, y3, y2, y1]) 15) (hpS 3 (heap0 (roomF s)) [y11, y10, y9, y8, y7, y6, y5, y4, y3, y2, y1])) := by kernel_rfl
theorem q27_14_12 (G : Ex → AF → AH → Option AV) (y12 y11 y10 y9 y8 y7 y6 y5 y4 y3 y2 y1 : Int) (s : Nat → Bool) : rd27 [y12, y11, y10, y9, y8, y7, y6, y5, y4, y3, y2, y1] 14 G s = cond (s 15) (G .norm (fr27 (outS 3 [15, y12, y11, y10, y9, y8, y7, y6, y5, y4, y3, y2, y1]) 15) (hpS 3 (heap0 (roomF s)) [15, y12, y11, y10, y9, y8, y7, y6, y5, y4, y3, y2, y1])) (G .norm (fr27 (outS 3 [y12, y11, y10, y9, y8, y7, y6, y5, y4, y3, y2, y1]) 15) (hpS 3 (heap0 (roomF s)) [y12, y11, y10, y9, y8, y7, y6, y5, y4, y3, y2, y1])) := by kernel_rfl
theorem q27_14_13 (G : Ex → AF → AH → Option AV) (y13 y12 y11 y10 y9 y8 y7 y6 y5 y4 y3 y2 y1 : Int) (s : Nat → Bool) : rd27 [y13, y12, y11, y10, y9, y8, y7, y6, y5, y4, y3, y2, y1] 14 G s = cond (s 15) (G .norm (fr27 (outS 3 [15, y13, y12, y11, y10, y9, y8, y7, y6, y5, y4, y3, y2, y1]) 15) (hpS 3 (heap0 (roomF s)) [15, y13, y12, y11, y10, y9, y8, y7, y6, y5, y4, y3, y2, y1])) (G .norm (fr27 (outS 3 [y13, y12, y11, y10, y9, y8, y7, y6, y5, y4, y3, y2, y1]) 15) (hpS 3 (heap0 (roomF s)) [y13, y12, y11, y10, y9, y8, y7, y6, y5, y4, y3, y2, y1])) := by kernel_rfl
theorem q27_14_14 (G : Ex → AF → AH → Option AV) (y14 y13 y12 y11 y10 y9 y8 y7 y6 y5 y4 y3 y2 y1 : Int) (s : Nat → Bool) : rd27 [y14, y13, y12, y11, y10, y9, y8, y7, y6, y5, y4, y3, y2, y1] 14 G s = cond (s 15) (G .norm (fr27 (outS 3 [15, y14, y13, y12, y11, y10, y9, y8, y7, y6, y5, y4, y3, y2, y1]) 15) (hpS 3 (heap0 (roomF s)) [15, y14, y13, y12, y11, y10, y9, y8, y7, y6, y5, y4, y3, y2, y1])) (G .norm (fr27 (outS 3 [y14, y13, y12, y11, y10, y9, y8, y7, y6, y5, y4, y3, y2, y1]) 15) (hpS 3 (heap0 (roomF s)) [y14, y13, y12, y11, y10, y9, y8, y7, y6, y5, y4, y3, y2, y1])) := by kernel_rfl
theorem q27_15_0 (G : Ex → AF → AH → Option AV) (s : Nat → Bool) : rd27 [] 15 G s = cond (s 16) (G .norm (fr27 (outS 3 [16]) 16) (hpS 3 (heap0 (roomF s)) [16])) (G .norm (fr27 (outS 3 []) 16) (hpS 3 (heap0 (roomF s)) [])) := by kernel_rfl
theorem q27_15_1 (G : Ex → AF → AH → Option AV) (y1 : Int) (s : Nat → Bool) : rd27 [y1] 15 G s = cond (s 16) (G .norm (fr27 (outS 3 [16, y1]) 16) (hpS 3 (heap0 (roomF s)) [16, y1])) (G .norm (fr27 (outS 3 [y1]) 16) (hpS 3 (heap0 (roomF s)) [y1])) := by kernel_rfl
theorem q27_15_2 (G : Ex → AF → AH → Option AV) (y2 y1 : Int) (s : Nat → Bool) : rd27 [y2, y1] 15 G s = cond (s 16) (G .norm (fr27 (outS 3 [16, y2, y1]) 16) (hpS 3 (heap0 (roomF s)) [16, y2, y1])) (G .norm (fr27 (outS 3 [y2, y1]) 16) (hpS 3 (heap0 (roomF s)) [y2, y1])) := by kernel_rfl
theorem q27_15_3 (G : Ex → AF → AH → Option AV) (y3 y2 y1 : Int) (s : Nat → Bool) : rd27 [y3, y2, y1] 15 G s = cond (s 16) (G .norm (fr27 (outS 3 [16, y3, y2, y1]) 16) (hpS 3 (heap0 (roomF s)) [16, y3, y2, y1])) (G .norm (fr27 (outS 3 [y3, y2, y1]) 16) (hpS 3 (heap0 (roomF s)) [y3, y2, y1])) := by kernel_rfl
theorem q27_15_4 (G : Ex → AF → AH → Option AV) (y4 y3 y2 y1 : Int) (s : Nat → Bool) : rd27 [y4, y3, y2, y1] 15 G s = cond (s 16) (G .norm (fr27 (outS 3 [16, y4, y3, y2, y1]) 16) (hpS 3 (heap0 (roomF s)) [16, y4, y3, y2, y1])) (G .norm (fr27 (outS 3 [y4, y3, y2, y1]) 16) (hpS 3 (heap0 (roomF s)) [y4, y3, y2, y1])) := by kernel_rfl
theorem q27_15_5 (G : Ex → AF → AH → Option AV) (y5 y4 y3 y2 y1 : Int) (s : Nat → Bool) : rd27 [y5, y4, y3, y2, y1] 15 G s = cond (s 16) (G .norm (fr27 (outS 3 [16, y5, y4, y3, y2, y1]) 16) (hpS 3 (heap0 (roomF s)) [16, y5, y4, y3, y2, y1])) (G .norm (fr27 (outS 3 [y5, y4, y3, y2, y1]) 16) (hpS 3 (heap0 (roomF s)) [y5, y4, y3, y2, y1])) := by kernel_rfl
theorem q27_15_6 (G : Ex → AF → AH → Option AV) (y6 y5 y4 y3 y2 y1 : Int) (s : Nat → Bool) : rd27 [y6, y5, y4, y3, y2, y1] 15 G s = cond (s 16) (G .norm (fr27 (outS 3 [16, y6, y5, y4, y3, y2, y1]) 16) (hpS 3 (heap0 (roomF s)) [16, y6, y5, y4, y3, y2, y1])) (G .norm (fr27 (outS 3 [y6, y5, y4, y3, y2, y1]) 16) (hpS 3 (heap0 (roomF s)) [y6, y5, y4, y3, y2, y1])) := by kernel_rfl
theorem q27_15_7 (G : Ex → AF → AH → Option AV) (y7 y6 y5 y4 y3 y2 y1 : Int) (s : Nat → Bool) : rd27 [y7, y6, y5, y4, y3, y2, y1] 15 G s = cond (s 16) (G .norm (fr27 (outS 3 [16, y7, y6, y5, y4, y3, y2, y1]) 16) (hpS 3 (heap0 (roomF s)) [16, y7, y6, y5, y4, y3, y2, y1])) (G .norm (fr27 (outS 3 [y7, y6, y5, y4, y3, y2, y1]) 16) (hpS 3 (heap0 (roomF s)) [y7, y6, y5, y4, y3, y2, y1])) := by kernel_rfl
theorem q27_15_8 (G : Ex → AF → AH → Option AV) (y8 y7 y6 y5 y4 y3 y2 y1 : Int) (s : Nat → Bool) : rd27 [y8, y7, y6, y5, y4, y3, y2, y1] 15 G s = cond (s 16) (G .norm (fr27 (outS 3 [16, y8, y7, y6, y5, y4, y3, y2, y1]) 16) (hpS 3 (heap0 (roomF s)) [16, y8, y7, y6, y5, y4, y3, y2, y1])) (G .norm (fr27 (outS 3 [y8, y7, y6, y5, y4, y3, y2, y1]) 16) (hpS 3 (heap0 (roomF s)) [y8, y7, y6, y5, y4, y3, y2, y1])) := by kernel_rfl
theorem q27_15_9 (G : Ex → AF → AH → Option AV) (y9 y8 y7 y6 y5 y4 y3 y2 y1 : Int) (s : Nat → Bool) : rd27 [y9, y8, y7, y6, y5, y4, y3, y2, y1] 15 G s = cond (s 16) (G .norm (fr27 (outS 3 [16, y9, y8, y7, y6, y5, y4, y3, y2, y1]) 16) (hpS 3 (heap0 (roomF s)) [16, y9, y8, y7, y6, y5, y4, y3, y2, y1])) (G .norm (fr27 (outS 3 [y9, y8, y7, y6, y5, y4, y3, y2, y1]) 16) (hpS 3 (heap0 (roomF s)) [y9, y8, y7, y6, y5, y4, y3, y2, y1])) := by kernel_rfl
theorem q27_15_10 (G : Ex → AF → AH → Option AV) (y10 y9 y8 y7 y6 y5 y4 y3 y2 y1 : Int) (s : Nat → Bool) : rd27 [y10, y9, y8, y7, y6, y5, y4, y3, y2, y1] 15 G s = cond (s 16) (G .norm (fr27 (outS 3 [16, y10, y9, y8, y7, y6, y5, y4, y3, y2, y1]) 16) (hpS 3 (heap0 (roomF s)) [16, y10, y9, y8, y7, y6, y5, y4, y3, y2, y1])) (G .norm (fr27 (outS 3 [y10, y9, y8, y7, y6, y5, y4, y3, y2, y1]) 16) (hpS 3 (heap0 (roomF s)) [y10, y9, y8, y7, y6, y5, y4, y3, y2, y1])) := by kernel_rfl
theorem q27_15_11 (G : Ex → AF → AH → Option AV) (y11 y10 y9 y8 y7 y6 y5 y4 y3 y2 y1 : Int) (s : Nat → Bool) : rd27 [y11, y10, y9, y8, y7, y6, y5, y4, y3, y2, y1] 15 G s = cond (s 16) (G .norm (fr27 (outS 3 [16, y11, y10, y9, y8, y7, y6, y5, y4, y3, y2, y1]) 16) (hpS 3 (heap0 (roomF s)) [16, y11, y10, y9, y8, y7, y6, y5, y4, y3, y2, y1])) (G .norm (fr27 (outS 3 [y11, y10, y9, y8, y7, y6, y5, y4, y3, y2, y1]) 16) (hpS 3 (heap0 (roomF s)) [y11, y10, y9, y8, y7, y6, y5, y4, y3, y2, y1])) := by kernel_rfl
theorem q27_15_12 (G : Ex → AF → AH → Option AV) (y12 y11 y10 y9 y8 y7 y6 y5 y4 y3 y2 y1 : Int) (s : Nat → Bool) : rd27 [y12, y11, y10, y9, y8, y7, y6, y5, y4, y3, y2, y1] 15 G s = cond (s 16) (G .norm (fr27 (outS 3 [16, y12, y11, y10, y9, y8, y7, y6, y5, y4, y3, y2, y1]) 16) (hpS 3 (heap0 (roomF s)) [16, y12, y11, y10, y9, y8, y7, y6, y5, y4, y3, y2, y1])) (G .norm (fr27 (outS 3 [y12, y11, y10, y9, y8, y7, y6, y5, y4, y3, y2, y1]) 16) (hpS 3 (heap0 (roomF s)) [y12, y11, y10, y9, y8, y7, y6, y5, y4, y3, y2, y1])) := by kernel_rfl
theorem q27_15_13 (G : Ex → AF → AH → Option AV) (y13 y12 y11 y10 y9 y8 y7 y6 y5 y4 y3 y2 y1 : Int) (s : Nat → Bool) : rd27 [y13, y12, y11, y10, y9, y8, y7, y6, y5, y4, y3, y2, y1] 15 G s = cond (s 16) (G .norm (fr27 (outS 3 [16, y13, y12, y11, y10, y9, y8, y7, y6, y5, y4, y3, y2, y1]) 16) (hpS 3 (heap0 (roomF s)) [16, y13, y12, y11, y10, y9, y8, y7, y6, y5, y4, y3, y2, y1])) (G .norm (fr27 (outS 3 [y13, y12, y11, y10, y9, y8, y7, y6, y5, y4, y3, y2, y1]) 16) (hpS 3 (heap0 (roomF s)) [y13, y12, y11, y10, y9, y8, y7, y6, y5, y4, y3, y2, y1])) := by kernel_rfl
theorem q27_15_14 (G : Ex → AF → AH → Option AV) (y14 y13 y12 y11 y10 y9 y8 y7 y6 y5 y4 y3 y2 y1 : Int) (s : Nat → Bool) : rd27 [y14, y13, y12, y11, y10, y9, y8, y7, y6, y5, y4, y3, y2, y1] 15 G s = cond (s 16) (G .norm (fr27 (outS 3 [16, y14, y13, y12, y11, y10, y9, y8, y7, y6, y5, y4, y3, y2, y1]) 16) (hpS 3 (heap0 (roomF s)) [16, y14, y13, y12, y11, y10, y9, y8, y7, y6, y5, y4, y3, y2, y1])) (G .norm (fr27 (outS 3 [y14, y13, y12, y11, y10, y9, y8, y7, y6, y5, y4, y3, y2, y1]) 16) (hpS 3 (heap0 (roomF s)) [y14, y13, y12, y11, y10, y9, y8, y7, y6, y5, y4, y3, y2, y1])) := by kernel_rfl
theorem q27_15_15 (G : Ex → AF → AH → Option AV) (y15 y14 y13 y12 y11 y10 y9 y8 y7 y6 y5 y4 y3 y2 y1 : Int) (s : Nat → Bool) : rd27 [y15, y14, y13, y12, y11, y10, y9, y8, y7, y6, y5, y4, y3, y2, y1] 15 G s = cond (s 16) (G .norm (fr27 (outS 3 [16, y15, y14, y13, y12, y11, y10, y9, y8, y7, y6, y5, y4, y3, y2, y1]) 16) (hpS 3 (heap0 (roomF s)) [16, y15, y14, y13, y12, y11, y10, y9, y8, y7, y6, y5, y4, y3, y2, y1])) (G .norm (fr27 (outS 3 [y15, y14, y13, y12, y11, y10, y9, y8, y7, y6, y5, y4, y3, y2, y1]) 16) (hpS 3 (heap0 (roomF s)) [y15, y14, y13, y12, y11, y10, y9, y8, y7, y6, y5, y4, y3, y2, y1])) := by kernel_rfl
theorem q27_16_0 (G : Ex → AF → AH → Option AV) (s : Nat → Bool) : rd27 [] 16 G s = G (.exit 0) (fr27 (outS 3 []) 16) (hpS 3 (heap0 (roomF s)) []) := by kernel_rfl
theorem e27_0 (s : Nat → Bool) : ke27 s (.exit 0) (fr27 (outS 3 []) 16) (hpS 3 (heap0 (roomF s)) []) = some (resS []) := by kernel_rfl
theorem q27_16_1 (G : Ex → AF → AH → Option AV) (y1 : Int) (s : Nat → Bool) : rd27 [y1] 16 G s = G (.exit 0) (fr27 (outS 3 [y1]) 16) (hpS 3 (heap0 (roomF s)) [y1]) := by kernel_rfl
theorem e27_1 (y1 : Int) (s : Nat → Bool) : ke27 s (.exit 0) (fr27 (outS 3 [y1]) 16) (hpS 3 (heap0 (roomF s)) [y1]) = some (resS [y1]) := by kernel_rfl
theorem q27_16_2 (G : Ex → AF → AH → Option AV) (y2 y1 : Int) (s : Nat → Bool) : rd27 [y2, y1] 16 G s = G (.exit 0) (fr27 (outS 3 [y2, y1]) 16) (hpS 3 (heap0 (roomF s)) [y2, y1]) := by kernel_rfl
theorem e27_2 (y2 y1 : Int) (s : Nat → Bool) : ke27 s (.exit 0) (fr27 (outS 3 [y2, y1]) 16) (hpS 3 (heap0 (roomF s)) [y2, y1]) = some (resS [y2, y1]) := by kernel_rfl
theorem q27_16_3 (G : Ex → AF → AH → Option AV) (y3 y2 y1 : Int) (s : Nat → Bool) : rd27 [y3, y2, y1] 16 G s = G (.exit 0) (fr27 (outS 3 [y3, y2, y1]) 16) (hpS 3 (heap0 (roomF s)) [y3, y2, y1]) := by kernel_rfl
theorem e27_3 (y3 y2 y1 : Int) (s : Nat → Bool) : ke27 s (.exit 0) (fr27 (outS 3 [y3, y2, y1]) 16) (hpS 3 (heap0 (roomF s)) [y3, y2, y1]) = some (resS [y3, y2, y1]) := by kernel_rfl
theorem q27_16_4 (G : Ex → AF → AH → Option AV) (y4 y3 y2 y1 : Int) (s : Nat → Bool) : rd27 [y4, y3, y2, y1] 16 G s = G (.exit 0) (fr27 (outS 3 [y4, y3, y2, y1]) 16) (hpS 3 (heap0 (roomF s)) [y4, y3, y2, y1]) := by kernel_rfl
theorem e27_4 (y4 y3 y2 y1 : Int) (s : Nat → Bool) : ke27 s (.exit 0) (fr27 (outS 3 [y4, y3, y2, y1]) 16) (hpS 3 (heap0 (roomF s)) [y4, y3, y2, y1]) = some (resS [y4, y3, y2, y1]) := by kernel_rfl
theorem q27_16_5 (G : Ex → AF → AH → Option AV) (y5 y4 y3 y2 y1 : Int) (s : Nat → Bool) : rd27 [y5, y4, y3, y2, y1] 16 G s = G (.exit 0) (fr27 (outS 3 [y5, y4, y3, y2, y1]) 16) (hpS 3 (heap0 (roomF s)) [y5, y4, y3, y2, y1]) := by kernel_rfl
theorem e27_5 (y5 y4 y3 y2 y1 : Int) (s : Nat → Bool) : ke27 s (.exit 0) (fr27 (outS 3 [y5, y4, y3, y2, y1]) 16) (hpS 3 (heap0 (roomF s)) [y5, y4, y3, y2, y1]) = some (resS [y5, y4, y3, y2, y1]) := by kernel_rfl
theorem q27_16_6 (G : Ex → AF → AH → Option AV) (y6 y5 y4 y3 y2 y1 : Int) (s : Nat → Bool) : rd27 [y6, y5, y4, y3, y2, y1] 16 G s = G (.exit 0) (fr27 (outS 3 [y6, y5, y4, y3, y2, y1]) 16) (hpS 3 (heap0 (roomF s)) [y6, y5, y4, y3, y2, y1]) := by kernel_rfl
theorem e27_6 (y6 y5 y4 y3 y2 y1 : Int) (s : Nat → Bool) : ke27 s (.exit 0) (fr27 (outS 3 [y6, y5, y4, y3, y2, y1]) 16) (hpS 3 (heap0 (roomF s)) [y6, y5, y4, y3, y2, y1]) = some (resS [y6, y5, y4, y3, y2, y1]) := by kernel_rfl
theorem q27_16_7 (G : Ex → AF → AH → Option AV) (y7 y6 y5 y4 y3 y2 y1 : Int) (s : Nat → Bool) : rd27 [y7, y6, y5, y4, y3, y2, y1] 16 G s = G (.exit 0) (fr27 (outS 3 [y7, y6, y5, y4, y3, y2, y1]) 16) (hpS 3 (heap0 (roomF s)) [y7, y6, y5, y4, y3, y2, y1]) := by kernel_rfl
theorem e27_7 (y7 y6 y5 y4 y3 y2 y1 : Int) (s : Nat → Bool) : ke27 s (.exit 0) (fr27 (outS 3 [y7, y6, y5, y4, y3, y2, y1]) 16) (hpS 3 (heap0 (roomF s)) [y7, y6, y5, y4, y3, y2, y1]) = some (resS [y7, y6, y5, y4, y3, y2, y1]) := by kernel_rfl
theorem q27_16_8 (G : Ex → AF → AH → Option AV) (y8 y7 y6 y5 y4 y3 y2 y1 : Int) (s : Nat → Bool) : rd27 [y8, y7, y6, y5, y4, y3, y2, y1] 16 G s = G (.exit 0) (fr27 (outS 3 [y8, y7, y6, y5, y4, y3, y2, y1]) 16) (hpS 3 (heap0 (roomF s)) [y8, y7, y6, y5, y4, y3, y2, y1]) := by kernel_rfl
theorem e27_8 (y8 y7 y6 y5 y4 y3 y2 y1 : Int) (s : Nat → Bool) : ke27 s (.exit 0) (fr27 (outS 3 [y8, y7, y6, y5, y4, y3, y2, y1]) 16) (hpS 3 (heap0 (roomF s)) [y8, y7, y6, y5, y4, y3, y2, y1]) = some (resS [y8, y7, y6, y5, y4, y3, y2, y1]) := by kernel_rfl
theorem q27_16_9 (G : Ex → AF → AH → Option AV) (y9 y8 y7 y6 y5 y4 y3 y2 y1 : Int) (s : Nat → Bool) : rd27 [y9, y8, y7, y6, y5, y4, y3, y2, y1] 16 G s = G (.exit 0) (fr27 (outS 3 [y9, y8, y7, y6, y5, y4, y3, y2, y1]) 16) (hpS 3 (heap0 (roomF s)) [y9, y8, y7, y6, y5, y4, y3, y2, y1]) := by kernel_rfl
theorem e27_9 (y9 y8 y7 y6 y5 y4 y3 y2 y1 : Int) (s : Nat → Bool) : ke27 s (.exit 0) (fr27 (outS 3 [y9, y8, y7, y6, y5, y4, y3, y2, y1]) 16) (hpS 3 (heap0 (roomF s)) [y9, y8, y7, y6, y5, y4, y3, y2, y1]) = some (resS [y9, y8, y7, y6, y5, y4, y3, y2, y1]) := by kernel_rfl
theorem q27_16_10 (G : Ex → AF → AH → Option AV) (y10 y9 y8 y7 y6 y5 y4 y3 y2 y1 : Int) (s : Nat → Bool) : rd27 [y10, y9, y8, y7, y6, y5, y4, y3, y2, y1] 16 G s = G (.exit 0) (fr27 (outS 3 [y10, y9, y8, y7, y6, y5, y4, y3, y2, y1]) 16) (hpS 3 (heap0 (roomF s)) [y10, y9, y8, y7, y6, y5, y4, y3, y2, y1]) := by kernel_rfl
theorem e27_10 (y10 y9 y8 y7 y6 y5 y4 y3 y2 y1 : Int) (s : Nat → Bool) : ke27 s (.exit 0) (fr27 (outS 3 [y10, y9, y8, y7, y6, y5, y4, y3, y2, y1]) 16) (hpS 3 (heap0 (roomF s)) [y10, y9, y8, y7, y6, y5, y4, y3, y2, y1]) = some (resS [y10, y9, y8, y7, y6, y5, y4, y3, y2, y1]) := by kernel_rfl
theorem q27_16_11 (G : Ex → AF → AH → Option AV) (y11 y10 y9 y8 y7 y6 y5 y4 y3 y2 y1 : Int) (s : Nat → Bool) : rd27 [y11, y10, y9, y8, y7, y6, y5, y4, y3, y2, y1] 16 G s = G (.exit 0) (fr27 (outS 3 [y11, y10, y9, y8, y7, y6, y5, y4, y3, y2, y1]) 16) (hpS 3 (heap0 (roomF s)) [y11, y10, y9, y8, y7, y6, y5, y4, y3, y2, y1]) := by kernel_rfl
theorem e27_11 (y11 y10 y9 y8 y7 y6 y5 y4 y3 y2 y1 : Int) (s : Nat → Bool) : ke27 s (.exit 0) (fr27 (outS 3 [y11, y10, y9, y8, y7, y6, y5, y4, y3, y2, y1]) 16) (hpS 3 (heap0 (roomF s)) [y11, y10, y9, y8, y7, y6, y5, y4, y3, y2, y1]) = some (resS [y11, y10, y9, y8, y7, y6, y5, y4, y3, y2, y1]) := by kernel_rfl
theorem q27_16_12 (G : Ex → AF → AH → Option AV) (y12 y11 y10 y9 y8 y7 y6 y5 y4 y3 y2 y1 : Int) (s : Nat → Bool) : rd27 [y12, y11, y10, y9, y8, y7, y6, y5, y4, y3, y2, y1] 16 G s = G (.exit 0) (fr27 (outS 3 [y12, y11, y10, y9, y8, y7, y6, y5, y4, y3, y2, y1]) 16) (hpS 3 (heap0 (roomF s)) [y12, y11, y10, y9, y8, y7, y6, y5, y4, y3, y2, y1]) := by kernel_rfl
theorem e27_12 (y12 y11 y10 y9 y8 y7 y6 y5 y4 y3 y2 y1 : Int) (s : Nat → Bool) : ke27 s (.exit 0) (fr27 (outS 3 [y12, y11, y10, y9, y8, y7, y6, y5, y4, y3, y2, y1]) 16) (hpS 3 (heap0 (roomF s)) [y12, y11, y10, y9, y8, y7, y6, y5, y4, y3, y2, y1]) = some (resS [y12, y11, y10, y9, y8, y7, y6, y5, y4, y3, y2, y1]) := by kernel_rfl
theorem q27_16_13 (G : Ex → AF → AH → Option AV) (y13 y12 y11 y10 y9 y8 y7 y6 y5 y4 y3 y2 y1 : Int) (s : Nat → Bool) : rd27 [y13, y12, y11, y10, y9, y8, y7, y6, y5, y4, y3, y2, y1] 16 G s = G (.exit 0) (fr27 (outS 3 [y13, y12, y11, y10, y9, y8, y7, y6, y5, y4, y3, y2, y1]) 16) (hpS 3 (heap0 (roomF s)) [y13, y12, y11, y10, y9, y8, y7, y6, y5, y4, y3, y2, y1]) := by kernel_rfl
theorem e27_13 (y13 y12 y11 y10 y9 y8 y7 y6 y5 y4 y3 y2 y1 : Int) (s : Nat → Bool) : ke27 s (.exit 0) (fr27 (outS 3 [y13, y12, y11, y10, y9, y8, y7, y6, y5, y4, y3, y2, y1]) 16) (hpS 3 (heap0 (roomF s)) [y13, y12, y11, y10, y9, y8, y7, y6, y5, y4, y3, y2, y1]) = some (resS [y13, y12, y11, y10, y9, y8, y7, y6, y5, y4, y3, y2, y1]) := by kernel_rfl
theorem q27_16_14 (G : Ex → AF → AH → Option AV) (y14 y13 y12 y11 y10 y9 y8 y7 y6 y5 y4 y3 y2 y1 : Int) (s : Nat → Bool) : rd27 [y14, y13, y12, y11, y10, y9, y8, y7, y6, y5, y4, y3, y2, y1] 16 G s = G (.exit 0) (fr27 (outS 3 [y14, y13, y12, y11, y10, y9, y8, y7, y6, y5, y4, y3, y2, y1]) 16) (hpS 3 (heap0 (roomF s)) [y14, y13, y12, y11, y10, y9, y8, y7, y6, y5, y4, y3, y2, y1]) := by kernel_rfl
theorem e27_14 (y14 y13 y12 y11 y10 y9 y8 y7 y6 y5 y4 y3 y2 y1 : Int) (s : Nat → Bool) : ke27 s (.exit 0) (fr27 (outS 3 [y14, y13, y12, y11, y10, y9, y8, y7, y6, y5, y4, y3, y2, y1]) 16) (hpS 3 (heap0 (roomF s)) [y14, y13, y12, y11, y10, y9, y8, y7, y6, y5, y4, y3, y2, y1]) = some (resS [y14, y13, y12, y11, y10, y9, y8, y7, y6, y5, y4, y3, y2, y1]) := by kernel_rfl
theorem q27_16_15 (G : Ex → AF → AH → Option AV) (y15 y14 y13 y12 y11 y10 y9 y8 y7 y6 y5 y4 y3 y2 y1 : Int) (s : Nat → Bool) : rd27 [y15, y14, y13, y12, y11, y10, y9, y8, y7, y6, y5, y4, y3, y2, y1] 16 G s = G (.exit 0) (fr27 (outS 3 [y15, y14, y13, y12, y11, y10, y9, y8, y7, y6, y5, y4, y3, y2, y1]) 16) (hpS 3 (heap0 (roomF s)) [y15, y14, y13, y12, y11, y10, y9, y8, y7, y6, y5, y4, y3, y2, y1]) := by kernel_rfl
theorem e27_15 (y15 y14 y13 y12 y11 y10 y9 y8 y7 y6 y5 y4 y3 y2 y1 : Int) (s : Nat → Bool) : ke27 s (.exit 0) (fr27 (outS 3 [y15, y14, y13, y12, y11, y10, y9, y8, y7, y6, y5, y4, y3, y2, y1]) 16) (hpS 3 (heap0 (roomF s)) [y15, y14, y13, y12, y11, y10, y9, y8, y7, y6, y5, y4, y3, y2, y1]) = some (resS [y15, y14, y13, y12, y11, y10, y9, y8, y7, y6, y5, y4, y3, y2, y1]) := by kernel_rfl
theorem q27_16_16 (G : Ex → AF → AH → Option AV) (y16 y15 y14 y13 y12 y11 y10 y9 y8 y7 y6 y5 y4 y3 y2 y1 : Int) (s : Nat → Bool) : rd27 [y16, y15, y14, y13, y12, y11, y10, y9, y8, y7, y6, y5, y4, y3, y2, y1] 16 G s = G (.exit 0) (fr27 (outS 3 [y16, y15, y14, y13, y12, y11, y10, y9, y8, y7, y6, y5, y4, y3, y2, y1]) 16) (hpS 3 (heap0 (roomF s)) [y16, y15, y14, y13, y12, y11, y10, y9, y8, y7, y6, y5, y4, y3, y2, y1]) := by kernel_rfl
theorem e27_16 (y16 y15 y14 y13 y12 y11 y10 y9 y8 y7 y6 y5 y4 y3 y2 y1 : Int) (s : Nat → Bool) : ke27 s (.exit 0) (fr27 (outS 3 [y16, y15, y14, y13, y12, y11, y10, y9, y8, y7, y6, y5, y4, y3, y2, y1]) 16) (hpS 3 (heap0 (roomF s)) [y16, y15, y14, y13, y12, y11, y10, y9, y8, y7, y6, y5, y4, y3, y2, y1]) = some (resS [y16, y15, y14, y13, y12, y11, y10, y9, y8, y7, y6, y5, y4, y3, y2, y1]) := by kernel_rfl
theorem p27_16 (m : Nat) (s : Nat → Bool) : ∀ ys : List Int, ys.length ≤ 16 → lp27 (m + 1) ys 16 (ke27 s) s = some (resS (accS 17 [] ys)) := by
  intro ys hy
  match ys, hy with
  | [], _ => rw [st27, q27_16_0, gx27]; exact e27_0  s
  | [y1], _ => rw [st27, q27_16_1, gx27]; exact e27_1 y1 s
  | [y2, y1], _ => rw [st27, q27_16_2, gx27]; exact e27_2 y2 y1 s
  | [y3, y2, y1], _ => rw [st27, q27_16_3, gx27]; exact e27_3 y3 y2 y1 s
  | [y4, y3, y2, y1], _ => rw [st27, q27_16_4, gx27]; exact e27_4 y4 y3 y2 y1 s
  | [y5, y4, y3, y2, y1], _ => rw [st27, q27_16_5, gx27]; exact e27_5 y5 y4 y3 y2 y1 s
  | [y6, y5, y4, y3, y2, y1], _ => rw [st27, q27_16_6, gx27]; exact e27_6 y6 y5 y4 y3 y2 y1 s
  | [y7, y6, y5, y4, y3, y2, y1], _ => rw [st27, q27_16_7, gx27]; exact e27_7 y7 y6 y5 y4 y3 y2 y1 s
  | [y8, y7, y6, y5, y4, y3, y2, y1], _ => rw [st27, q27_16_8, gx27]; exact e27_8 y8 y7 y6 y5 y4 y3 y2 y1 s
  | [y9, y8, y7, y6, y5, y4, y3, y2, y1], _ => rw [st27, q27_16_9, gx27]; exact e27_9 y9 y8 y7 y6 y5 y4 y3 y2 y1 s
  | [y10, y9, y8, y7, y6, y5, y4, y3, y2, y1], _ => rw [st27, q27_16_10, gx27]; exact e27_10 y10 y9 y8 y7 y6 y5 y4 y3 y2 y1 s
  | [y11, y10, y9, y8, y7, y6, y5, y4, y3, y2, y1], _ => rw [st27, q27_16_11, gx27]; exact e27_11 y11 y10 y9 y8 y7 y6 y5 y4 y3 y2 y1 s
  | [y12, y11, y10, y9, y8, y7, y6, y5, y4, y3, y2, y1], _ => rw [st27, q27_16_12, gx27]; exact e27_12 y12 y11 y10 y9 y8 y7 y6 y5 y4 y3 y2 y1 s
  | [y13, y12, y11, y10, y9, y8, y7, y6, y5, y4, y3, y2, y1], _ => rw [st27, q27_16_13, gx27]; exact e27_13 y13 y12 y11 y10 y9 y8 y7 y6 y5 y4 y3 y2 y1 s
  | [y14, y13, y12, y11, y10, y9, y8, y7, y6, y5, y4, y3, y2, y1], _ => rw [st27, q27_16_14, gx27]; exact e27_14 y14 y13 y12 y11 y10 y9 y8 y7 y6 y5 y4 y3 y2 y1 s
  | [y15, y14, y13, y12, y11, y10, y9, y8, y7, y6, y5, y4, y3, y2, y1], _ => rw [st27, q27_16_15, gx27]; exact e27_15 y15 y14 y13 y12 y11 y10 y9 y8 y7 y6 y5 y4 y3 y2 y1 s
  | [y16, y15, y14, y13, y12, y11, y10, y9, y8, y7, y6, y5, y4, y3, y2, y1], _ => rw [st27, q27_16_16, gx27]; exact e27_16 y16 y15 y14 y13 y12 y11 y10 y9 y8 y7 y6 y5 y4 y3 y2 y1 s
  | _ :: _ :: _ :: _ :: _ :: _ :: _ :: _ :: _ :: _ :: _ :: _ :: _ :: _ :: _ :: _ :: _ :: _, h => simp at h; try omega
theorem p27_15 (m : Nat) (s : Nat → Bool) : ∀ ys : List Int, ys.length ≤ 15 → lp27 (m + 2) ys 15 (ke27 s) s = some (resS (accS 16 [s 16] ys)) := by
  intro ys hy
  match ys, hy with
  | [], _ => rw [show m + 2 = (m + 1) + 1 from rfl, st27, q27_15_0, gn27, gn27, accS_cons, show (16 : Int) + 1 = 17 from rfl]; cases s 16 with
    | true => rw [cond_true, cond_true]; exact p27_16 m s [16] (by simp)
    | false => rw [cond_false, cond_false]; exact p27_16 m s [] (by simp)
  | [y1], _ => rw [show m + 2 = (m + 1) + 1 from rfl, st27, q27_15_1, gn27, gn27, accS_cons, show (16 : Int) + 1 = 17 from rfl]; cases s 16 with
    | true => rw [cond_true, cond_true]; exact p27_16 m s [16, y1] (by simp)
    | false => rw [cond_false, cond_false]; exact p27_16 m s [y1] (by simp)
  | [y2, y1], _ => rw [show m + 2 = (m + 1) + 1 from rfl, st27, q27_15_2, gn27, gn27, accS_cons, show (16 : Int) + 1 = 17 from rfl]; cases s 16 with
    | true => rw [cond_true, cond_true]; exact p27_16 m s [16, y2, y1] (by simp)
    | false => rw [cond_false, cond_false]; exact p27_16 m s [y2, y1] (by simp)
  | [y3, y2, y1], _ => rw [show m + 2 = (m + 1) + 1 from rfl, st27, q27_15_3, gn27, gn27, accS_cons, show (16 : Int) + 1 = 17 from rfl]; cases s 16 with
    | true => rw [cond_true, cond_true]; exact p27_16 m s [16, y3, y2, y1] (by simp)
    | false => rw [cond_false, cond_false]; exact p27_16 m s [y3, y2, y1] (by simp)
  | [y4, y3, y2, y1], _ => rw [show m + 2 = (m + 1) + 1 from rfl, st27, q27_15_4, gn27, gn27, accS_cons, show (16 : Int) + 1 = 17 from rfl]; cases s 16 with
    | true => rw [cond_true, cond_true]; exact p27_16 m s [16, y4, y3, y2, y1] (by simp)
    | false => rw [cond_false, cond_false]; exact p27_16 m s [y4, y3, y2, y1] (by simp)
  | [y5, y4, y3, y2, y1], _ => rw [show m + 2 = (m + 1) + 1 from rfl, st27, q27_15_5, gn27, gn27, accS_cons, show (16 : Int) + 1 = 17 from rfl]; cases s 16 with
    | true => rw [cond_true, cond_true]; exact p27_16 m s [16, y5, y4, y3, y2, y1] (by simp)
    | false => rw [cond_false, cond_false]; exact p27_16 m s [y5, y4, y3, y2, y1] (by simp)
  | [y6, y5, y4, y3, y2, y1], _ => rw [show m + 2 = (m + 1) + 1 from rfl, st27, q27_15_6, gn27, gn27, accS_cons, show (16 : Int) + 1 = 17 from rfl]; cases s 16 with
    | true => rw [cond_true, cond_true]; exact p27_16 m s [16, y6, y5, y4, y3, y2, y1] (by simp)
    | false => rw [cond_false, cond_false]; exact p27_16 m s [y6, y5, y4, y3, y2, y1] (by simp)
  | [y7, y6, y5, y4, y3, y2, y1], _ => rw [show m + 2 = (m + 1) + 1 from rfl, st27, q27_15_7, gn27, gn27, accS_cons, show (16 : Int) + 1 = 17 from rfl]; cases s 16 with
    | true => rw [cond_true, cond_true]; exact p27_16 m s [16, y7, y6, y5, y4, y3, y2, y1] (by simp)
    | false => rw [cond_false, cond_false]; exact p27_16 m s [y7, y6, y5, y4, y3, y2, y1] (by simp)
  | [y8, y7, y6, y5, y4, y3, y2, y1], _ => rw [show m + 2 = (m + 1) + 1 from rfl, st27, q27_15_8, gn27, gn27, accS_cons, show (16 : Int) + 1 = 17 from rfl]; cases s 16 with
    | true => rw [cond_true, cond_true]; exact p27_16 m s [16, y8, y7, y6, y5, y4, y3, y2, y1] (by simp)
    | false => rw [cond_false, cond_false]; exact p27_16 m s [y8, y7, y6, y5, y4, y3, y2, y1] (by simp)
  | [y9, y8, y7, y6, y5, y4, y3, y2, y1], _ => rw [show m + 2 = (m + 1) + 1 from rfl, st27, q27_15_9, gn27, gn27, accS_cons, show (16 : Int) + 1 = 17 from rfl]; cases s 16 with
    | true => rw [cond_true, cond_true]; exact p27_16 m s [16, y9, y8, y7, y6, y5, y4, y3, y2, y1] (by simp)
    | false => rw [cond_false, cond_false]; exact p27_16 m s [y9, y8, y7, y6, y5, y4, y3, y2, y1] (by simp)
  | [y10, y9, y8, y7, y6, y5, y4, y3, y2, y1], _ => rw [show m + 2 = (m + 1) + 1 from rfl, st27, q27_15_10, gn27, gn27, accS_cons, show (16 : Int) + 1 = 17 from rfl]; cases s 16 with
    | true => rw [cond_true, cond_true]; exact p27_16 m s [16, y10, y9, y8, y7, y6, y5, y4, y3, y2, y1] (by simp)
    | false => rw [cond_false, cond_false]; exact p27_16 m s [y10, y9, y8, y7, y6, y5, y4, y3, y2, y1] (by simp)
  | [y11, y10, y9, y8, y7, y6, y5, y4, y3, y2, y1], _ => rw [show m + 2 = (m + 1) + 1 from rfl, st27, q27_15_11, gn27, gn27, accS_cons, show (16 : Int) + 1 = 17 from rfl]; cases s 16 with
    | true => rw [cond_true, cond_true]; exact p27_16 m s [16, y11, y10, y9, y8, y7, y6, y5, y4, y3, y2, y1] (by simp)
    | false => rw [cond_false, cond_false]; exact p27_16 m s [y11, y10, y9, y8, y7, y6, y5, y4, y3, y2, y1] (by simp)
  | [y12, y11, y10, y9, y8, y7, y6, y5, y4, y3, y2, y1], _ => rw [show m + 2 = (m + 1) + 1 from rfl, st27, q27_15_12, gn27, gn27, accS_cons, show (16 : Int) + 1 = 17 from rfl]; cases s 16 with
    | true => rw [cond_true, cond_true]; exact p27_16 m s [16, y12, y11, y10, y9, y8, y7, y6, y5, y4, y3, y2, y1] (by simp)
    | false => rw [cond_false, cond_false]; exact p27_16 m s [y12, y11, y10, y9, y8, y7, y6, y5, y4, y3, y2, y1] (by simp)
  | [y13, y12, y11, y10, y9, y8, y7, y6, y5, y4, y3, y2, y1], _ => rw [show m + 2 = (m + 1) + 1 from rfl, st27, q27_15_13, gn27, gn27, accS_cons, show (16 : Int) + 1 = 17 from rfl]; cases s 16 with
    | true => rw [cond_true, cond_true]; exact p27_16 m s [16, y13, y12, y11, y10, y9, y8, y7, y6, y5, y4, y3, y2, y1] (by simp)
    | false => rw [cond_false, cond_false]; exact p27_16 m s [y13, y12, y11, y10, y9, y8, y7, y6, y5, y4, y3, y2, y1] (by simp)
  | [y14, y13, y12, y11, y10, y9, y8, y7, y6, y5, y4, y3, y2, y1], _ => rw [show m + 2 = (m + 1) + 1 from rfl, st27, q27_15_14, gn27, gn27, accS_cons, show (16 : Int) + 1 = 17 from rfl]; cases s 16 with
    | true => rw [cond_true, cond_true]; exact p27_16 m s [16, y14, y13, y12, y11, y10, y9, y8, y7, y6, y5, y4, y3, y2, y1] (by simp)
    | false => rw [cond_false, cond_false]; exact p27_16 m s [y14, y13, y12, y11, y10, y9, y8, y7, y6, y5, y4, y3, y2, y1] (by simp)
  | [y15, y14, y13, y12, y11, y10, y9, y8, y7, y6, y5, y4, y3, y2, y1], _ => rw [show m + 2 = (m + 1) + 1 from rfl, st27, q27_15_15, gn27, gn27, accS_cons, show (16 : Int) + 1 = 17 from rfl]; cases s 16 with
    | true => rw [cond_true, cond_true]; exact p27_16 m s [16, y15, y14, y13, y12, y11, y10, y9, y8, y7, y6, y5, y4, y3, y2, y1] (by simp)
    | false => rw [cond_false, cond_false]; exact p27_16 m s [y15, y14, y13, y12, y11, y10, y9, y8, y7, y6, y5, y4, y3, y2, y1] (by simp)
  | _ :: _ :: _ :: _ :: _ :: _ :: _ :: _ :: _ :: _ :: _ :: _ :: _ :: _ :: _ :: _ :: _, h => simp at h; try omega
theorem p27_14 (m : Nat) (s : Nat → Bool) : ∀ ys : List Int, ys.length ≤ 14 → lp27 (m + 3) ys 14 (ke27 s) s = some (resS (accS 15 [s 15, s 16] ys)) := by
  intro ys hy
  match ys, hy with
  | [], _ => rw [show m + 3 = (m + 2) + 1 from rfl, st27, q27_14_0, gn27, gn27, accS_cons, show (15 : Int) + 1 = 16 from rfl]; cases s 15 with
    | true => rw [cond_true, cond_true]; exact p27_15 m s [15] (by simp)
    | false => rw [cond_false, cond_false]; exact p27_15 m s [] (by simp)
  | [y1], _ => rw [show m + 3 = (m + 2) + 1 from rfl, st27, q27_14_1, gn27, gn27, accS_cons, show (15 : Int) + 1 = 16 from rfl]; cases s 15 with
    | true => rw [cond_true, cond_true]; exact p27_15 m s [15, y1] (by simp)
    | false => rw [cond_false, cond_false]; exact p27_15 m s [y1] (by simp)
  | [y2, y1], _ => rw [show m + 3 = (m + 2) + 1 from rfl, st27, q27_14_2, gn27, gn27, accS_cons, show (15 : Int) + 1 = 16 from rfl]; cases s 15 with
    | true => rw [cond_true, cond_true]; exact p27_15 m s [15, y2, y1] (by simp)
    | false => rw [cond_false, cond_false]; exact p27_15 m s [y2, y1] (by simp)
  | [y3, y2, y1], _ => rw [show m + 3 = (m + 2) + 1 from rfl, st27, q27_14_3, gn27, gn27, accS_cons, show (15 : Int) + 1 = 16 from rfl]; cases s 15 with
    | true => rw [cond_true, cond_true]; exact p27_15 m s [15, y3, y2, y1] (by simp)
    | false => rw [cond_false, cond_false]; exact p27_15 m s [y3, y2, y1] (by simp)
  | [y4, y3, y2, y1], _ => rw [show m + 3 = (m + 2) + 1 from rfl, st27, q27_14_4, gn27, gn27, accS_cons, show (15 : Int) + 1 = 16 from rfl]; cases s 15 with
    | true => rw [cond_true, cond_true]; exact p27_15 m s [15, y4, y3, y2, y1] (by simp)
    | false => rw [cond_false, cond_false]; exact p27_15 m s [y4, y3, y2, y1] (by simp)
  | [y5, y4, y3, y2, y1], _ => rw [show m + 3 = (m + 2) + 1 from rfl, st27, q27_14_5, gn27, gn27, accS_cons, show (15 : Int) + 1 = 16 from rfl]; cases s 15 with
    | true => rw [cond_true, cond_true]; exact p27_15 m s [15, y5, y4, y3, y2, y1] (by simp)
    | false => rw [cond_false, cond_false]; exact p27_15 m s [y5, y4, y3, y2, y1] (by simp)
  | [y6, y5, y4, y3, y2, y1], _ => rw [show m + 3 = (m + 2) + 1 from rfl, st27, q27_14_6, gn27, gn27, accS_cons, show (15 : Int) + 1 = 16 from rfl]; cases s 15 with
    | true => rw [cond_true, cond_true]; exact p27_15 m s [15, y6, y5, y4, y3, y2, y1] (by simp)
    | false => rw [cond_false, cond_false]; exact p27_15 m s [y6, y5, y4, y3, y2, y1] (by simp)
  | [y7, y6, y5, y4, y3, y2, y1], _ => rw [show m + 3 = (m + 2) + 1 from rfl, st27, q27_14_7, gn27, gn27, accS_cons, show (15 : Int) + 1 = 16 from rfl]; cases s 15 with
    | true => rw [cond_true, cond_true]; exact p27_15 m s [15, y7, y6, y5, y4, y3, y2, y1] (by simp)
    | false => rw [cond_false, cond_false]; exact p27_15 m s [y7, y6, y5, y4, y3, y2, y1] (by simp)
  | [y8, y7, y6, y5, y4, y3, y2, y1], _ => rw [show m + 3 = (m + 2) + 1 from rfl, st27, q27_14_8, gn27, gn27, accS_cons, show (15 : Int) + 1 = 16 from rfl]; cases s 15 with
    | true => rw [cond_true, cond_true]; exact p27_15 m s [15, y8, y7, y6, y5, y4, y3, y2, y1] (by simp)
    | false => rw [cond_false, cond_false]; exact p27_15 m s [y8, y7, y6, y5, y4, y3, y2, y1] (by simp)
  | [y9, y8, y7, y6, y5, y4, y3, y2, y1], _ => rw [show m + 3 = (m + 2) + 1 from rfl, st27, q27_14_9, gn27, gn27, accS_cons, show (15 : Int) + 1 = 16 from rfl]; cases s 15 with
    | true => rw [cond_true, cond_true]; exact p27_15 m s [15, y9, y8, y7, y6, y5, y4, y3, y2, y1] (by simp)
    | false => rw [cond_false, cond_false]; exact p27_15 m s [y9, y8, y7, y6, y5, y4, y3, y2, y1] (by simp)
  | [y10, y9, y8, y7, y6, y5, y4, y3, y2, y1], _ => rw [show m + 3 = (m + 2) + 1 from rfl, st27, q27_14_10, gn27, gn27, accS_cons, show (15 : Int) + 1 = 16 from rfl]; cases s 15 with
    | true => rw [cond_true, cond_true]; exact p27_15 m s [15, y10, y9, y8, y7, y6, y5, y4, y3, y2, y1] (by simp)
    | false => rw [cond_false, cond_false]; exact p27_15 m s [y10, y9, y8, y7, y6, y5, y4, y3, y2, y1] (by simp)
  | [y11, y10, y9, y8, y7, y6, y5, y4, y3, y2, y1], _ => rw [show m + 3 = (m + 2) + 1 from rfl, st27, q27_14_11, gn27, gn27, accS_cons, show (15 : Int) + 1 = 16 from rfl]; cases s 15 with
    | true => rw [cond_true, cond_true]; exact p27_15 m s [15, y11, y10, y9, y8, y7, y6, y5, y4, y3, y2, y1] (by simp)
    | false => rw [cond_false, cond_false]; exact p27_15 m s [y11, y10, y9, y8, y7, y6, y5, y4, y3, y2, y1] (by simp)
  | [y12, y11, y10, y9, y8, y7, y6, y5, y4, y3, y2, y1], _ => rw [show m + 3 = (m + 2) + 1 from rfl, st27, q27_14_12, gn27, gn27, accS_cons, show (15 : Int) + 1 = 16 from rfl]; cases s 15 with
    | true => rw [cond_true, cond_true]; exact p27_15 m s [15, y12, y11, y10, y9, y8, y7, y6, y5, y4, y3, y2, y1] (by simp)
    | false => rw [cond_false, cond_false]; exact p27_15 m s [y12, y11, y10, y9, y8, y7, y6, y5, y4, y3, y2, y1] (by simp)
  | [y13, y12, y11, y10, y9, y8, y7, y6, y5, y4, y3, y2, y1], _ => rw [show m + 3 = (m + 2) + 1 from rfl, st27, q27_14_13, gn27, gn27, accS_cons, show (15 : Int) + 1 = 16 from rfl]; cases s 15 with
    | true => rw [cond_true, cond_true]; exact p27_15 m s [15, y13, y12, y11, y10, y9, y8, y7, y6, y5, y4, y3, y2, y1] (by simp)
    | false => rw [cond_false, cond_false]; exact p27_15 m s [y13, y12, y11, y10, y9, y8, y7, y6, y5, y4, y3, y2, y1] (by simp)
  | [y14, y13, y12, y11, y10, y9, y8, y7, y6, y5, y4, y3, y2, y1], _ => rw [show m + 3 = (m + 2) + 1 from rfl, st27, q27_14_14, gn27, gn27, accS_cons, show (15 : Int) + 1 = 16 from rfl]; cases s 15 with
    | true => rw [cond_true, cond_true]; exact p27_15 m s [15, y14, y13, y12, y11, y10, y9, y8, y7, y6, y5, y4, y3, y2, y1] (by simp)
    | false => rw [cond_false, cond_false]; exact p27_15 m s [y14, y13, y12, y11, y10, y9, y8, y7, y6, y5, y4, y3, y2, y1] (by simp)
  | _ :: _ :: _ :: _ :: _ :: _ :: _ :: _ :: _ :: _ :: _ :: _ :: _ :: _ :: _ :: _, h => simp at h; try omega
theorem p27_13 (m : Nat) (s : Nat → Bool) : ∀ ys : List Int, ys.length ≤ 13 → lp27 (m + 4) ys 13 (ke27 s) s = some (resS (accS 14 [s 14, s 15, s 16] ys)) := by
  intro ys hy
  match ys, hy with
  | [], _ => rw [show m + 4 = (m + 3) + 1 from rfl, st27, q27_13_0, gn27, gn27, accS_cons, show (14 : Int) + 1 = 15 from rfl]; cases s 14 with
    | true => rw [cond_true, cond_true]; exact p27_14 m s [14] (by simp)
    | false => rw [cond_false, cond_false]; exact p27_14 m s [] (by simp)
  | [y1], _ => rw [show m + 4 = (m + 3) + 1 from rfl, st27, q27_13_1, gn27, gn27, accS_cons, show (14 : Int) + 1 = 15 from rfl]; cases s 14 with
    | true => rw [cond_true, cond_true]; exact p27_14 m s [14, y1] (by simp)
    | false => rw [cond_false, cond_false]; exact p27_14 m s [y1] (by simp)
  | [y2, y1], _ => rw [show m + 4 = (m + 3) + 1 from rfl, st27, q27_13_2, gn27, gn27, accS_cons, show (14 : Int) + 1 = 15 from rfl]; cases s 14 with
    | true => rw [cond_true, cond_true]; exact p27_14 m s [14, y2, y1] (by simp)
    | false => rw [cond_false, cond_false]; exact p27_14 m s [y2, y1] (by simp)
  | [y3, y2, y1], _ => rw [show m + 4 = (m + 3) + 1 from rfl, st27, q27_13_3, gn27, gn27, accS_cons, show (14 : Int) + 1 = 15 from rfl]; cases s 14 with
    | true => rw [cond_true, cond_true]; exact p27_14 m s [14, y3, y2, y1] (by simp)
    | false => rw [cond_false, cond_false]; exact p27_14 m s [y3, y2, y1] (by simp)
  | [y4, y3, y2, y1], _ => rw [show m + 4 = (m + 3) + 1 from rfl, st27, q27_13_4, gn27, gn27, accS_cons, show (14 : Int) + 1 = 15 from rfl]; cases s 14 with
    | true => rw [cond_true, cond_true]; exact p27_14 m s [14, y4, y3, y2, y1] (by simp)
    | false => rw [cond_false, cond_false]; exact p27_14 m s [y4, y3, y2, y1] (by simp)
  | [y5, y4, y3, y2, y1], _ => rw [show m + 4 = (m + 3) + 1 from rfl, st27, q27_13_5, gn27, gn27, accS_cons, show (14 : Int) + 1 = 15 from rfl]; cases s 14 with
    | true => rw [cond_true, cond_true]; exact p27_14 m s [14, y5, y4, y3, y2, y1] (by simp)
    | false => rw [cond_false, cond_false]; exact p27_14 m s [y5, y4, y3, y2, y1] (by simp)
  | [y6, y5, y4, y3, y2, y1], _ => rw [show m + 4 = (m + 3) + 1 from rfl, st27, q27_13_6, gn27, gn27, accS_cons, show (14 : Int) + 1 = 15 from rfl]; cases s 14 with
    | true => rw [cond_true, cond_true]; exact p27_14 m s [14, y6, y5, y4, y3, y2, y1] (by simp)
    | false => rw [cond_false, cond_false]; exact p27_14 m s [y6, y5, y4, y3, y2, y1] (by simp)
  | [y7, y6, y5, y4, y3, y2, y1], _ => rw [show m + 4 = (m + 3) + 1 from rfl, st27, q27_13_7, gn27, gn27, accS_cons, show (14 : Int) + 1 = 15 from rfl]; cases s 14 with
    | true => rw [cond_true, cond_true]; exact p27_14 m s [14, y7, y6, y5, y4, y3, y2, y1] (by simp)
    | false => rw [cond_false, cond_false]; exact p27_14 m s [y7, y6, y5, y4, y3, y2, y1] (by simp)
  | [y8, y7, y6, y5, y4, y3, y2, y1], _ => rw [show m + 4 = (m + 3) + 1 from rfl, st27, q27_13_8, gn27, gn27, accS_cons, show (14 : Int) + 1 = 15 from rfl]; cases s 14 with
    | true => rw [cond_true, cond_true]; exact p27_14 m s [14, y8, y7, y6, y5, y4, y3, y2, y1] (by simp)
    | false => rw [cond_false, cond_false]; exact p27_14 m s [y8, y7, y6, y5, y4, y3, y2, y1] (by simp)
  | [y9, y8, y7, y6, y5, y4, y3, y2, y1], _ => rw [show m + 4 = (m + 3) + 1 from rfl, st27, q27_13_9, gn27, gn27, accS_cons, show (14 : Int) + 1 = 15 from rfl]; cases s 14 with
    | true => rw [cond_true, cond_true]; exact p27_14 m s [14, y9, y8, y7, y6, y5, y4, y3, y2, y1] (by simp)
    | false => rw [cond_false, cond_false]; exact p27_14 m s [y9, y8, y7, y6, y5, y4, y3, y2, y1] (by simp)
  | [y10, y9, y8, y7, y6, y5, y4, y3, y2, y1], _ => rw [show m + 4 = (m + 3) + 1 from rfl, st27, q27_13_10, gn27, gn27, accS_cons, show (14 : Int) + 1 = 15 from rfl]; cases s 14 with
    | true => rw [cond_true, cond_true]; exact p27_14 m s [14, y10, y9, y8, y7, y6, y5, y4, y3, y2, y1] (by simp)
    | false => rw [cond_false, cond_false]; exact p27_14 m s [y10, y9, y8, y7, y6, y5, y4, y3, y2, y1] (by simp)
  | [y11, y10, y9, y8, y7, y6, y5, y4, y3, y2, y1], _ => rw [show m + 4 = (m + 3) + 1 from rfl, st27, q27_13_11, gn27, gn27, accS_cons, show (14 : Int) + 1 = 15 from rfl]; cases s 14 with
    | true => rw [cond_true, cond_true]; exact p27_14 m s [14, y11, y10, y9, y8, y7, y6, y5, y4, y3, y2, y1] (by simp)
    | false => rw [cond_false, cond_false]; exact p27_14 m s [y11, y10, y9, y8, y7, y6, y5, y4, y3, y2, y1] (by simp)
  | [y12, y11, y10, y9, y8, y7, y6, y5, y4, y3, y2, y1], _ => rw [show m + 4 = (m + 3) + 1 from rfl, st27, q27_13_12, gn27, gn27, accS_cons, show (14 : Int) + 1 = 15 from rfl]; cases s 14 with
    | true => rw [cond_true, cond_true]; exact p27_14 m s [14, y12, y11, y10, y9, y8, y7, y6, y5, y4, y3, y2, y1] (by simp)
    | false => rw [cond_false, cond_false]; exact p27_14 m s [y12, y11, y10, y9, y8, y7, y6, y5, y4, y3, y2, y1] (by simp)
  | [y13, y12, y11, y10, y9, y8, y7, y6, y5, y4, y3, y2, y1], _ => rw [show m + 4 = (m + 3) + 1 from rfl, st27, q27_13_13, gn27, gn27, accS_cons, show (14 : Int) + 1 = 15 from rfl]; cases s 14 with
    | true => rw [cond_true, cond_true]; exact p27_14 m s [14, y13, y12, y11, y10, y9, y8, y7, y6, y5, y4, y3, y2, y1] (by simp)
    | false => rw [cond_false, cond_false]; exact p27_14 m s [y13, y12, y11, y10, y9, y8, y7, y6, y5, y4, y3, y2, y1] (by simp)
  | _ :: _ :: _ :: _ :: _ :: _ :: _ :: _ :: _ :: _ :: _ :: _ :: _ :: _ :: _, h => simp at h; try omega
theorem p27_12 (m : Nat) (s : Nat → Bool) : ∀ ys : List Int, ys.length ≤ 12 → lp27 (m + 5) ys 12 (ke27 s) s = some (resS (accS 13 [s 13, s 14, s 15, s 16] ys)) := by
  intro ys hy
  match ys, hy with
  | [], _ => rw [show m + 5 = (m + 4) + 1 from rfl, st27, q27_12_0, gn27, gn27, accS_cons, show (13 : Int) + 1 = 14 from rfl]; cases s 13 with
    | true => rw [cond_true, cond_true]; exact p27_13 m s [13] (by simp)
    | false => rw [cond_false, cond_false]; exact p27_13 m s [] (by simp)
  | [y1], _ => rw [show m + 5 = (m + 4) + 1 from rfl, st27, q27_12_1, gn27, gn27, accS_cons, show (13 : Int) + 1 = 14 from rfl]; cases s 13 with
    | true => rw [cond_true, cond_true]; exact p27_13 m s [13, y1] (by simp)
    | false => rw [cond_false, cond_false]; exact p27_13 m s [y1] (by simp)
  | [y2, y1], _ => rw [show m + 5 = (m + 4) + 1 from rfl, st27, q27_12_2, gn27, gn27, accS_cons, show (13 : Int) + 1 = 14 from rfl]; cases s 13 with
    | true => rw [cond_true, cond_true]; exact p27_13 m s [13, y2, y1] (by simp)
    | false => rw [cond_false, cond_false]; exact p27_13 m s [y2, y1] (by simp)
  | [y3, y2, y1], _ => rw [show m + 5 = (m + 4) + 1 from rfl, st27, q27_12_3, gn27, gn27, accS_cons, show (13 : Int) + 1 = 14 from rfl]; cases s 13 with
    | true => rw [cond_true, cond_true]; exact p27_13 m s [13, y3, y2, y1] (by simp)
    | false => rw [cond_false, cond_false]; exact p27_13 m s [y3, y2, y1] (by simp)
  | [y4, y3, y2, y1], _ => rw [show m + 5 = (m + 4) + 1 from rfl, st27, q27_12_4, gn27, gn27, accS_cons, show (13 : Int) + 1 = 14 from rfl]; cases s 13 with
    | true => rw [cond_true, cond_true]; exact p27_13 m s [13, y4, y3, y2, y1] (by simp)
    | false => rw [cond_false, cond_false]; exact p27_13 m s [y4, y3, y2, y1] (by simp)
  | [y5, y4, y3, y2, y1], _ => rw [show m + 5 = (m + 4) + 1 from rfl, st27, q27_12_5, gn27, gn27, accS_cons, show (13 : Int) + 1 = 14 from rfl]; cases s 13 with
    | true => rw [cond_true, cond_true]; exact p27_13 m s [13, y5, y4, y3, y2, y1] (by simp)
    | false => rw [cond_false, cond_false]; exact p27_13 m s [y5, y4, y3, y2, y1] (by simp)
  | [y6, y5, y4, y3, y2, y1], _ => rw [show m + 5 = (m + 4) + 1 from rfl, st27, q27_12_6, gn27, gn27, accS_cons, show (13 : Int) + 1 = 14 from rfl]; cases s 13 with
    | true => rw [cond_true, cond_true]; exact p27_13 m s [13, y6, y5, y4, y3, y2, y1] (by simp)
    | false => rw [cond_false, cond_false]; exact p27_13 m s [y6, y5, y4, y3, y2, y1] (by simp)
  | [y7, y6, y5, y4, y3, y2, y1], _ => rw [show m + 5 = (m + 4) + 1 from rfl, st27, q27_12_7, gn27, gn27, accS_cons, show (13 : Int) + 1 = 14 from rfl]; cases s 13 with
    | true => rw [cond_true, cond_true]; exact p27_13 m s [13, y7, y6, y5, y4, y3, y2, y1] (by simp)
    | false => rw [cond_false, cond_false]; exact p27_13 m s [y7, y6, y5, y4, y3, y2, y1] (by simp)
  | [y8, y7, y6, y5, y4, y3, y2, y1], _ => rw [show m + 5 = (m + 4) + 1 from rfl, st27, q27_12_8, gn27, gn27, accS_cons, show (13 : Int) + 1 = 14 from rfl]; cases s 13 with
    | true => rw [cond_true, cond_true]; exact p27_13 m s [13, y8, y7, y6, y5, y4, y3, y2, y1] (by simp)
    | false => rw [cond_false, cond_false]; exact p27_13 m s [y8, y7, y6, y5, y4, y3, y2, y1] (by simp)
  | [y9, y8, y7, y6, y5, y4, y3, y2, y1], _ => rw [show m + 5 = (m + 4) + 1 from rfl, st27, q27_12_9, gn27, gn27, accS_cons, show (13 : Int) + 1 = 14 from rfl]; cases s 13 with
    | true => rw [cond_true, cond_true]; exact p27_13 m s [13, y9, y8, y7, y6, y5, y4, y3, y2, y1] (by simp)
    | false => rw [cond_false, cond_false]; exact p27_13 m s [y9, y8, y7, y6, y5, y4, y3, y2, y1] (by simp)
  | [y10, y9, y8, y7, y6, y5, y4, y3, y2, y1], _ => rw [show m + 5 = (m + 4) + 1 from rfl, st27, q27_12_10, gn27, gn27, accS_cons, show (13 : Int) + 1 = 14 from rfl]; cases s 13 with
    | true => rw [cond_true, cond_true]; exact p27_13 m s [13, y10, y9, y8, y7, y6, y5, y4, y3, y2, y1] (by simp)
    | false => rw [cond_false, cond_false]; exact p27_13 m s [y10, y9, y8, y7, y6, y5, y4, y3, y2, y1] (by simp)
  | [y11, y10, y9, y8, y7, y6, y5, y4, y3, y2, y1], _ => rw [show m + 5 = (m + 4) + 1 from rfl, st27, q27_12_11, gn27, gn27, accS_cons, show (13 : Int) + 1 = 14 from rfl]; cases s 13 with
    | true => rw [cond_true, cond_true]; exact p27_13 m s [13, y11, y10, y9, y8, y7, y6, y5, y4, y3, y2, y1] (by simp)
    | false => rw [cond_false, cond_false]; exact p27_13 m s [y11, y10, y9, y8, y7, y6, y5, y4, y3, y2, y1] (by simp)
  | [y12, y11, y10, y9, y8, y7, y6, y5, y4, y3, y2, y1], _ => rw [show m + 5 = (m + 4) + 1 from rfl, st27, q27_12_12, gn27, gn27, accS_cons, show (13 : Int) + 1 = 14 from rfl]; cases s 13 with
    | true => rw [cond_true, cond_true]; exact p27_13 m s [13, y12, y11, y10, y9, y8, y7, y6, y5, y4, y3, y2, y1] (by simp)
    | false => rw [cond_false, cond_false]; exact p27_13 m s [y12, y11, y10, y9, y8, y7, y6, y5, y4, y3, y2, y1] (by simp)
  | _ :: _ :: _ :: _ :: _ :: _ :: _ :: _ :: _ :: _ :: _ :: _ :: _ :: _, h => simp at h; try omega
theorem p27_11 (m : Nat) (s : Nat → Bool) : ∀ ys : List Int, ys.length ≤ 11 → lp27 (m + 6) ys 11 (ke27 s) s = some (resS (accS 12 [s 12, s 13, s 14, s 15, s 16] ys)) := by
  intro ys hy
  match ys, hy with
  | [], _ => rw [show m + 6 = (m + 5) + 1 from rfl, st27, q27_11_0, gn27, gn27, accS_cons, show (12 : Int) + 1 = 13 from rfl]; cases s 12 with
    | true => rw [cond_true, cond_true]; exact p27_12 m s [12] (by simp)
    | false => rw [cond_false, cond_false]; exact p27_12 m s [] (by simp)
  | [y1], _ => rw [show m + 6 = (m + 5) + 1 from rfl, st27, q27_11_1, gn27, gn27, accS_cons, show (12 : Int) + 1 = 13 from rfl]; cases s 12 with
    | true => rw [cond_true, cond_true]; exact p27_12 m s [12, y1] (by simp)
    | false => rw [cond_false, cond_false]; exact p27_12 m s [y1] (by simp)
  | [y2, y1], _ => rw [show m + 6 = (m + 5) + 1 from rfl, st27, q27_11_2, gn27, gn27, accS_cons, show (12 : Int) + 1 = 13 from rfl]; cases s 12 with
    | true => rw [cond_true, cond_true]; exact p27_12 m s [12, y2, y1] (by simp)
    | false => rw [cond_false, cond_false]; exact p27_12 m s [y2, y1] (by simp)
  | [y3, y2, y1], _ => rw [show m + 6 = (m + 5) + 1 from rfl, st27, q27_11_3, gn27, gn27, accS_cons, show (12 : Int) + 1 = 13 from rfl]; cases s 12 with
    | true => rw [cond_true, cond_true]; exact p27_12 m s [12, y3, y2, y1] (by simp)
    | false => rw [cond_false, cond_false]; exact p27_12 m s [y3, y2, y1] (by simp)
  | [y4, y3, y2, y1], _ => rw [show m + 6 = (m + 5) + 1 from rfl, st27, q27_11_4, gn27, gn27, accS_cons, show (12 : Int) + 1 = 13 from rfl]; cases s 12 with
    | true => rw [cond_true, cond_true]; exact p27_12 m s [12, y4, y3, y2, y1] (by simp)
    | false => rw [cond_false, cond_false]; exact p27_12 m s [y4, y3, y2, y1] (by simp)
  | [y5, y4, y3, y2, y1], _ => rw [show m + 6 = (m + 5) + 1 from rfl, st27, q27_11_5, gn27, gn27, accS_cons, show (12 : Int) + 1 = 13 from rfl]; cases s 12 with
    | true => rw [cond_true, cond_true]; exact p27_12 m s [12, y5, y4, y3, y2, y1] (by simp)
    | false => rw [cond_false, cond_false]; exact p27_12 m s [y5, y4, y3, y2, y1] (by simp)
  | [y6, y5, y4, y3, y2, y1], _ => rw [show m + 6 = (m + 5) + 1 from rfl, st27, q27_11_6, gn27, gn27, accS_cons, show (12 : Int) + 1 = 13 from rfl]; cases s 12 with
    | true => rw [cond_true, cond_true]; exact p27_12 m s [12, y6, y5, y4, y3, y2, y1] (by simp)
    | false => rw [cond_false, cond_false]; exact p27_12 m s [y6, y5, y4, y3, y2, y1] (by simp)
  | [y7, y6, y5, y4, y3, y2, y1], _ => rw [show m + 6 = (m + 5) + 1 from rfl, st27, q27_11_7, gn27, gn27, accS_cons, show (12 : Int) + 1 = 13 from rfl]; cases s 12 with
    | true => rw [cond_true, cond_true]; exact p27_12 m s [12, y7, y6, y5, y4, y3, y2, y1] (by simp)
    | false => rw [cond_false, cond_false]; exact p27_12 m s [y7, y6, y5, y4, y3, y2, y1] (by simp)
  | [y8, y7, y6, y5, y4, y3, y2, y1], _ => rw [show m + 6 = (m + 5) + 1 from rfl, st27, q27_11_8, gn27, gn27, accS_cons, show (12 : Int) + 1 = 13 from rfl]; cases s 12 with
    | true => rw [cond_true, cond_true]; exact p27_12 m s [12, y8, y7, y6, y5, y4, y3, y2, y1] (by simp)
    | false => rw [cond_false, cond_false]; exact p27_12 m s [y8, y7, y6, y5, y4, y3, y2, y1] (by simp)
  | [y9, y8, y7, y6, y5, y4, y3, y2, y1], _ => rw [show m + 6 = (m + 5) + 1 from rfl, st27, q27_11_9, gn27, gn27, accS_cons, show (12 : Int) + 1 = 13 from rfl]; cases s 12 with
    | true => rw [cond_true, cond_true]; exact p27_12 m s [12, y9, y8, y7, y6, y5, y4, y3, y2, y1] (by simp)
    | false => rw [cond_false, cond_false]; exact p27_12 m s [y9, y8, y7, y6, y5, y4, y3, y2, y1] (by simp)
  | [y10, y9, y8, y7, y6, y5, y4, y3, y2, y1], _ => rw [show m + 6 = (m + 5) + 1 from rfl, st27, q27_11_10, gn27, gn27, accS_cons, show (12 : Int) + 1 = 13 from rfl]; cases s 12 with
    | true => rw [cond_true, cond_true]; exact p27_12 m s [12, y10, y9, y8, y7, y6, y5, y4, y3, y2, y1] (by simp)
    | false => rw [cond_false, cond_false]; exact p27_12 m s [y10, y9, y8, y7, y6, y5, y4, y3, y2, y1] (by simp)
  | [y11, y10, y9, y8, y7, y6, y5, y4, y3, y2, y1], _ => rw [show m + 6 = (m + 5) + 1 from rfl, st27, q27_11_11, gn27, gn27, accS_cons, show (12 : Int) + 1 = 13 from rfl]; cases s 12 with
    | true => rw [cond_true, cond_true]; exact p27_12 m s [12, y11, y10, y9, y8, y7, y6, y5, y4, y3, y2, y1] (by simp)
    | false => rw [cond_false, cond_false]; exact p27_12 m s [y11, y10, y9, y8, y7, y6, y5, y4, y3, y2, y1] (by simp)
  | _ :: _ :: _ :: _ :: _ :: _ :: _ :: _ :: _ :: _ :: _ :: _ :: _, h => simp at h; try omega
theorem p27_10 (m : Nat) (s : Nat → Bool) : ∀ ys : List Int, ys.length ≤ 10 → lp27 (m + 7) ys 10 (ke27 s) s = some (resS (accS 11 [s 11, s 12, s 13, s 14, s 15, s 16] ys)) := by
  intro ys hy
  match ys, hy with
  | [], _ => rw [show m + 7 = (m + 6) + 1 from rfl, st27, q27_10_0, gn27, gn27, accS_cons, show (11 : Int) + 1 = 12 from rfl]; cases s 11 with
    | true => rw [cond_true, cond_true]; exact p27_11 m s [11] (by simp)
    | false => rw [cond_false, cond_false]; exact p27_11 m s [] (by simp)
  | [y1], _ => rw [show m + 7 = (m + 6) + 1 from rfl, st27, q27_10_1, gn27, gn27, accS_cons, show (11 : Int) + 1 = 12 from rfl]; cases s 11 with
    | true => rw [cond_true, cond_true]; exact p27_11 m s [11, y1] (by simp)
    | false => rw [cond_false, cond_false]; exact p27_11 m s [y1] (by simp)
  | [y2, y1], _ => rw [show m + 7 = (m + 6) + 1 from rfl, st27, q27_10_2, gn27, gn27, accS_cons, show (11 : Int) + 1 = 12 from rfl]; cases s 11 with
    | true => rw [cond_true, cond_true]; exact p27_11 m s [11, y2, y1] (by simp)
    | false => rw [cond_false, cond_false]; exact p27_11 m s [y2, y1] (by simp)
  | [y3, y2, y1], _ => rw [show m + 7 = (m + 6) + 1 from rfl, st27, q27_10_3, gn27, gn27, accS_cons, show (11 : Int) + 1 = 12 from rfl]; cases s 11 with
    | true => rw [cond_true, cond_true]; exact p27_11 m s [11, y3, y2, y1] (by simp)
    | false => rw [cond_false, cond_false]; exact p27_11 m s [y3, y2, y1] (by simp)
  | [y4, y3, y2, y1], _ => rw [show m + 7 = (m + 6) + 1 from rfl, st27, q27_10_4, gn27, gn27, accS_cons, show (11 : Int) + 1 = 12 from rfl]; cases s 11 with
    | true => rw [cond_true, cond_true]; exact p27_11 m s [11, y4, y3, y2, y1] (by simp)
    | false => rw [cond_false, cond_false]; exact p27_11 m s [y4, y3, y2, y1] (by simp)
  | [y5, y4, y3, y2, y1], _ => rw [show m + 7 = (m + 6) + 1 from rfl, st27, q27_10_5, gn27, gn27, accS_cons, show (11 : Int) + 1 = 12 from rfl]; cases s 11 with
    | true => rw [cond_true, cond_true]; exact p27_11 m s [11, y5, y4, y3, y2, y1] (by simp)
    | false => rw [cond_false, cond_false]; exact p27_11 m s [y5, y4, y3, y2, y1] (by simp)
  | [y6, y5, y4, y3, y2, y1], _ => rw [show m + 7 = (m + 6) + 1 from rfl, st27, q27_10_6, gn27, gn27, accS_cons, show (11 : Int) + 1 = 12 from rfl]; cases s 11 with
    | true => rw [cond_true, cond_true]; exact p27_11 m s [11, y6, y5, y4, y3, y2, y1] (by simp)
    | false => rw [cond_false, cond_false]; exact p27_11 m s [y6, y5, y4, y3, y2, y1] (by simp)
  | [y7, y6, y5, y4, y3, y2, y1], _ => rw [show m + 7 = (m + 6) + 1 from rfl, st27, q27_10_7, gn27, gn27, accS_cons, show (11 : Int) + 1 = 12 from rfl]; cases s 11 with
    | true => rw [cond_true, cond_true]; exact p27_11 m s [11, y7, y6, y5, y4, y3, y2, y1] (by simp)
    | false => rw [cond_false, cond_false]; exact p27_11 m s [y7, y6, y5, y4, y3, y2, y1] (by simp)
  | [y8, y7, y6, y5, y4, y3, y2, y1], _ => rw [show m + 7 = (m + 6) + 1 from rfl, st27, q27_10_8, gn27, gn27, accS_cons, show (11 : Int) + 1 = 12 from rfl]; cases s 11 with
    | true => rw [cond_true, cond_true]; exact p27_11 m s [11, y8, y7, y6, y5, y4, y3, y2, y1] (by simp)
    | false => rw [cond_false, cond_false]; exact p27_11 m s [y8, y7, y6, y5, y4, y3, y2, y1] (by simp)
  | [y9, y8, y7, y6, y5, y4, y3, y2, y1], _ => rw [show m + 7 = (m + 6) + 1 from rfl, st27, q27_10_9, gn27, gn27, accS_cons, show (11 : Int) + 1 = 12 from rfl]; cases s 11 with
    | true => rw [cond_true, cond_true]; exact p27_11 m s [11, y9, y8, y7, y6, y5, y4, y3, y2, y1] (by simp)
    | false => rw [cond_false, cond_false]; exact p27_11 m s [y9, y8, y7, y6, y5, y4, y3, y2, y1] (by simp)
  | [y10, y9, y8, y7, y6, y5, y4, y3, y2, y1], _ => rw [show m + 7 = (m + 6) + 1 from rfl, st27, q27_10_10, gn27, gn27, accS_cons, show (11 : Int) + 1 = 12 from rfl]; cases s 11 with
    | true => rw [cond_true, cond_true]; exact p27_11 m s [11, y10, y9, y8, y7, y6, y5, y4, y3, y2, y1] (by simp)
    | false => rw [cond_false, cond_false]; exact p27_11 m s [y10, y9, y8, y7, y6, y5, y4, y3, y2, y1] (by simp)
  | _ :: _ :: _ :: _ :: _ :: _ :: _ :: _ :: _ :: _ :: _ :: _, h => simp at h; try omega
theorem p27_9 (m : Nat) (s : Nat → Bool) : ∀ ys : List Int, ys.length ≤ 9 → lp27 (m + 8) ys 9 (ke27 s) s = some (resS (accS 10 [s 10, s 11, s 12, s 13, s 14, s 15, s 16] ys)) := by
  intro ys hy
  match ys, hy with
  | [], _ => rw [show m + 8 = (m + 7) + 1 from rfl, st27, q27_9_0, gn27, gn27, accS_cons, show (10 : Int) + 1 = 11 from rfl]; cases s 10 with
    | true => rw [cond_true, cond_true]; exact p27_10 m s [10] (by simp)
    | false => rw [cond_false, cond_false]; exact p27_10 m s [] (by simp)
  | [y1], _ => rw [show m + 8 = (m + 7) + 1 from rfl, st27, q27_9_1, gn27, gn27, accS_cons, show (10 : Int) + 1 = 11 from rfl]; cases s 10 with
    | true => rw [cond_true, cond_true]; exact p27_10 m s [10, y1] (by simp)
    | false => rw [cond_false, cond_false]; exact p27_10 m s [y1] (by simp)
  | [y2, y1], _ => rw [show m + 8 = (m + 7) + 1 from rfl, st27, q27_9_2, gn27, gn27, accS_cons, show (10 : Int) + 1 = 11 from rfl]; cases s 10 with
    | true => rw [cond_true, cond_true]; exact p27_10 m s [10, y2, y1] (by simp)
    | false => rw [cond_false, cond_false]; exact p27_10 m s [y2, y1] (by simp)
  | [y3, y2, y1], _ => rw [show m + 8 = (m + 7) + 1 from rfl, st27, q27_9_3, gn27, gn27, accS_cons, show (10 : Int) + 1 = 11 from rfl]; cases s 10 with
    | true => rw [cond_true, cond_true]; exact p27_10 m s [10, y3, y2, y1] (by simp)
    | false => rw [cond_false, cond_false]; exact p27_10 m s [y3, y2, y1] (by simp)
  | [y4, y3, y2, y1], _ => rw [show m + 8 = (m + 7) + 1 from rfl, st27, q27_9_4, gn27, gn27, accS_cons, show (10 : Int) + 1 = 11 from rfl]; cases s 10 with
    | true => rw [cond_true, cond_true]; exact p27_10 m s [10, y4, y3, y2, y1] (by simp)
    | false => rw [cond_false, cond_false]; exact p27_10 m s [y4, y3, y2, y1] (by simp)
  | [y5, y4, y3, y2, y1], _ => rw [show m + 8 = (m + 7) + 1 from rfl, st27, q27_9_5, gn27, gn27, accS_cons, show (10 : Int) + 1 = 11 from rfl]; cases s 10 with
    | true => rw [cond_true, cond_true]; exact p27_10 m s [10, y5, y4, y3, y2, y1] (by simp)
    | false => rw [cond_false, cond_false]; exact p27_10 m s [y5, y4, y3, y2, y1] (by simp)
  | [y6, y5, y4, y3, y2, y1], _ => rw [show m + 8 = (m + 7) + 1 from rfl, st27, q27_9_6, gn27, gn27, accS_cons, show (10 : Int) + 1 = 11 from rfl]; cases s 10 with
    | true => rw [cond_true, cond_true]; exact p27_10 m s [10, y6, y5, y4, y3, y2, y1] (by simp)
    | false => rw [cond_false, cond_false]; exact p27_10 m s [y6, y5, y4, y3, y2, y1] (by simp)
  | [y7, y6, y5, y4, y3, y2, y1], _ => rw [show m + 8 = (m + 7) + 1 from rfl, st27, q27_9_7, gn27, gn27, accS_cons, show (10 : Int) + 1 = 11 from rfl]; cases s 10 with
    | true => rw [cond_true, cond_true]; exact p27_10 m s [10, y7, y6, y5, y4, y3, y2, y1] (by simp)
    | false => rw [cond_false, cond_false]; exact p27_10 m s [y7, y6, y5, y4, y3, y2, y1] (by simp)
  | [y8, y7, y6, y5, y4, y3, y2, y1], _ => rw [show m + 8 = (m + 7) + 1 from rfl, st27, q27_9_8, gn27, gn27, accS_cons, show (10 : Int) + 1 = 11 from rfl]; cases s 10 with
    | true => rw [cond_true, cond_true]; exact p27_10 m s [10, y8, y7, y6, y5, y4, y3, y2, y1] (by simp)
    | false => rw [cond_false, cond_false]; exact p27_10 m s [y8, y7, y6, y5, y4, y3, y2, y1] (by simp)
  | [y9, y8, y7, y6, y5, y4, y3, y2, y1], _ => rw [show m + 8 = (m + 7) + 1 from rfl, st27, q27_9_9, gn27, gn27, accS_cons, show (10 : Int) + 1 = 11 from rfl]; cases s 10 with
    | true => rw [cond_true, cond_true]; exact p27_10 m s [10, y9, y8, y7, y6, y5, y4, y3, y2, y1] (by simp)
    | false => rw [cond_false, cond_false]; exact p27_10 m s [y9, y8, y7, y6, y5, y4, y3, y2, y1] (by simp)
  | _ :: _ :: _ :: _ :: _ :: _ :: _ :: _ :: _ :: _ :: _, h => simp at h; try omega
theorem p27_8 (m : Nat) (s : Nat → Bool) : ∀ ys : List Int, ys.length ≤ 8 → lp27 (m + 9) ys 8 (ke27 s) s = some (resS (accS 9 [s 9, s 10, s 11, s 12, s 13, s 14, s 15, s 16] ys)) := by
  intro ys hy
  match ys, hy with
  | [], _ => rw [show m + 9 = (m + 8) + 1 from rfl, st27, q27_8_0, gn27, gn27, accS_cons, show (9 : Int) + 1 = 10 from rfl]; cases s 9 with
    | true => rw [cond_true, cond_true]; exact p27_9 m s [9] (by simp)
    | false => rw [cond_false, cond_false]; exact p27_9 m s [] (by simp)
  | [y1], _ => rw [show m + 9 = (m + 8) + 1 from rfl, st27, q27_8_1, gn27, gn27, accS_cons, show (9 : Int) + 1 = 10 from rfl]; cases s 9 with
    | true => rw [cond_true, cond_true]; exact p27_9 m s [9, y1] (by simp)
    | false => rw [cond_false, cond_false]; exact p27_9 m s [y1] (by simp)
  | [y2, y1], _ => rw [show m + 9 = (m + 8) + 1 from rfl, st27, q27_8_2, gn27, gn27, accS_cons, show (9 : Int) + 1 = 10 from rfl]; cases s 9 with
    | true => rw [cond_true, cond_true]; exact p27_9 m s [9, y2, y1] (by simp)
    | false => rw [cond_false, cond_false]; exact p27_9 m s [y2, y1] (by simp)
  | [y3, y2, y1], _ => rw [show m + 9 = (m + 8) + 1 from rfl, st27, q27_8_3, gn27, gn27, accS_cons, show (9 : Int) + 1 = 10 from rfl]; cases s 9 with
    | true => rw [cond_true, cond_true]; exact p27_9 m s [9, y3, y2, y1] (by simp)
    | false => rw [cond_false, cond_false]; exact p27_9 m s [y3, y2, y1] (by simp)
  | [y4, y3, y2, y1], _ => rw [show m + 9 = (m + 8) + 1 from rfl, st27, q27_8_4, gn27, gn27, accS_cons, show (9 : Int) + 1 = 10 from rfl]; cases s 9 with
    | true => rw [cond_true, cond_true]; exact p27_9 m s [9, y4, y3, y2, y1] (by simp)
    | false => rw [cond_false, cond_false]; exact p27_9 m s [y4, y3, y2, y1] (by simp)
  | [y5, y4, y3, y2, y1], _ => rw [show m + 9 = (m + 8) + 1 from rfl, st27, q27_8_5, gn27, gn27, accS_cons, show (9 : Int) + 1 = 10 from rfl]; cases s 9 with
    | true => rw [cond_true, cond_true]; exact p27_9 m s [9, y5, y4, y3, y2, y1] (by simp)
    | false => rw [cond_false, cond_false]; exact p27_9 m s [y5, y4, y3, y2, y1] (by simp)
  | [y6, y5, y4, y3, y2, y1], _ => rw [show m + 9 = (m + 8) + 1 from rfl, st27, q27_8_6, gn27, gn27, accS_cons, show (9 : Int) + 1 = 10 from rfl]; cases s 9 with
    | true => rw [cond_true, cond_true]; exact p27_9 m s [9, y6, y5, y4, y3, y2, y1] (by simp)
    | false => rw [cond_false, cond_false]; exact p27_9 m s [y6, y5, y4, y3, y2, y1] (by simp)
  | [y7, y6, y5, y4, y3, y2, y1], _ => rw [show m + 9 = (m + 8) + 1 from rfl, st27, q27_8_7, gn27, gn27, accS_cons, show (9 : Int) + 1 = 10 from rfl]; cases s 9 with
    | true => rw [cond_true, cond_true]; exact p27_9 m s [9, y7, y6, y5, y4, y3, y2, y1] (by simp)
    | false => rw [cond_false, cond_false]; exact p27_9 m s [y7, y6, y5, y4, y3, y2, y1] (by simp)
  | [y8, y7, y6, y5, y4, y3, y2, y1], _ => rw [show m + 9 = (m + 8) + 1 from rfl, st27, q27_8_8, gn27, gn27, accS_cons, show (9 : Int) + 1 = 10 from rfl]; cases s 9 with
    | true => rw [cond_true, cond_true]; exact p27_9 m s [9, y8, y7, y6, y5, y4, y3, y2, y1] (by simp)
    | false => rw [cond_false, cond_false]; exact p27_9 m s [y8, y7, y6, y5, y4, y3, y2, y1] (by simp)
  | _ :: _ :: _ :: _ :: _ :: _ :: _ :: _ :: _ :: _, h => simp at h; try omega
theorem p27_7 (m : Nat) (s : Nat → Bool) : ∀ ys : List Int, ys.length ≤ 7 → lp27 (m + 10) ys 7 (ke27 s) s = some (resS (accS 8 [s 8, s 9, s 10, s 11, s 12, s 13, s 14, s 15, s 16] ys)) := by
  intro ys hy
  match ys, hy with
  | [], _ => rw [show m + 10 = (m + 9) + 1 from rfl, st27, q27_7_0, gn27, gn27, accS_cons, show (8 : Int) + 1 = 9 from rfl]; cases s 8 with
    | true => rw [cond_true, cond_true]; exact p27_8 m s [8] (by simp)
    | false => rw [cond_false, cond_false]; exact p27_8 m s [] (by simp)
  | [y1], _ => rw [show m + 10 = (m + 9) + 1 from rfl, st27, q27_7_1, gn27, gn27, accS_cons, show (8 : Int) + 1 = 9 from rfl]; cases s 8 with
    | true => rw [cond_true, cond_true]; exact p27_8 m s [8, y1] (by simp)
    | false => rw [cond_false, cond_false]; exact p27_8 m s [y1] (by simp)
  | [y2, y1], _ => rw [show m + 10 = (m + 9) + 1 from rfl, st27, q27_7_2, gn27, gn27, accS_cons, show (8 : Int) + 1 = 9 from rfl]; cases s 8 with
    | true => rw [cond_true, cond_true]; exact p27_8 m s [8, y2, y1] (by simp)
    | false => rw [cond_false, cond_false]; exact p27_8 m s [y2, y1] (by simp)
  | [y3, y2, y1], _ => rw [show m + 10 = (m + 9) + 1 from rfl, st27, q27_7_3, gn27, gn27, accS_cons, show (8 : Int) + 1 = 9 from rfl]; cases s 8 with
    | true => rw [cond_true, cond_true]; exact p27_8 m s [8, y3, y2, y1] (by simp)
    | false => rw [cond_false, cond_false]; exact p27_8 m s [y3, y2, y1] (by simp)
  | [y4, y3, y2, y1], _ => rw [show m + 10 = (m + 9) + 1 from rfl, st27, q27_7_4, gn27, gn27, accS_cons, show (8 : Int) + 1 = 9 from rfl]; cases s 8 with
    | true => rw [cond_true, cond_true]; exact p27_8 m s [8, y4, y3, y2, y1] (by simp)
    | false => rw [cond_false, cond_false]; exact p27_8 m s [y4, y3, y2, y1] (by simp)
  | [y5, y4, y3, y2, y1], _ => rw [show m + 10 = (m + 9) + 1 from rfl, st27, q27_7_5, gn27, gn27, accS_cons, show (8 : Int) + 1 = 9 from rfl]; cases s 8 with
    | true => rw [cond_true, cond_true]; exact p27_8 m s [8, y5, y4, y3, y2, y1] (by simp)
    | false => rw [cond_false, cond_false]; exact p27_8 m s [y5, y4, y3, y2, y1] (by simp)
  | [y6, y5, y4, y3, y2, y1], _ => rw [show m + 10 = (m + 9) + 1 from rfl, st27, q27_7_6, gn27, gn27, accS_cons, show (8 : Int) + 1 = 9 from rfl]; cases s 8 with
    | true => rw [cond_true, cond_true]; exact p27_8 m s [8, y6, y5, y4, y3, y2, y1] (by simp)
    | false => rw [cond_false, cond_false]; exact p27_8 m s [y6, y5, y4, y3, y2, y1] (by simp)
  | [y7, y6, y5, y4, y3, y2, y1], _ => rw [show m + 10 = (m + 9) + 1 from rfl, st27, q27_7_7, gn27, gn27, accS_cons, show (8 : Int) + 1 = 9 from rfl]; cases s 8 with
    | true => rw [cond_true, cond_true]; exact p27_8 m s [8, y7, y6, y5, y4, y3, y2, y1] (by simp)
    | false => rw [cond_false, cond_false]; exact p27_8 m s [y7, y6, y5, y4, y3, y2, y1] (by simp)
  | _ :: _ :: _ :: _ :: _ :: _ :: _ :: _ :: _, h => simp at h; try omega
theorem p27_6 (m : Nat) (s : Nat → Bool) : ∀ ys : List Int, ys.length ≤ 6 → lp27 (m + 11) ys 6 (ke27 s) s = some (resS (accS 7 [s 7, s 8, s 9, s 10, s 11, s 12, s 13, s 14, s 15, s 16] ys)) := by
  intro ys hy
  match ys, hy with
  | [], _ => rw [show m + 11 = (m + 10) + 1 from rfl, st27, q27_6_0, gn27, gn27, accS_cons, show (7 : Int) + 1 = 8 from rfl]; cases s 7 with
    | true => rw [cond_true, cond_true]; exact p27_7 m s [7] (by simp)
    | false => rw [cond_false, cond_false]; exact p27_7 m s [] (by simp)
  | [y1], _ => rw [show m + 11 = (m + 10) + 1 from rfl, st27, q27_6_1, gn27, gn27, accS_cons, show (7 : Int) + 1 = 8 from rfl]; cases s 7 with
    | true => rw [cond_true, cond_true]; exact p27_7 m s [7, y1] (by simp)
    | false => rw [cond_false, cond_false]; exact p27_7 m s [y1] (by simp)
  | [y2, y1], _ => rw [show m + 11 = (m + 10) + 1 from rfl, st27, q27_6_2, gn27, gn27, accS_cons, show (7 : Int) + 1 = 8 from rfl]; cases s 7 with
    | true => rw [cond_true, cond_true]; exact p27_7 m s [7, y2, y1] (by simp)
    | false => rw [cond_false, cond_false]; exact p27_7 m s [y2, y1] (by simp)
  | [y3, y2, y1], _ => rw [show m + 11 = (m + 10) + 1 from rfl, st27, q27_6_3, gn27, gn27, accS_cons, show (7 : Int) + 1 = 8 from rfl]; cases s 7 with
    | true => rw [cond_true, cond_true]; exact p27_7 m s [7, y3, y2, y1] (by simp)
    | false => rw [cond_false, cond_false]; exact p27_7 m s [y3, y2, y1] (by simp)
  | [y4, y3, y2, y1], _ => rw [show m + 11 = (m + 10) + 1 from rfl, st27, q27_6_4, gn27, gn27, accS_cons, show (7 : Int) + 1 = 8 from rfl]; cases s 7 with
    | true => rw [cond_true, cond_true]; exact p27_7 m s [7, y4, y3, y2, y1] (by simp)
    | false => rw [cond_false, cond_false]; exact p27_7 m s [y4, y3, y2, y1] (by simp)
  | [y5, y4, y3, y2, y1], _ => rw [show m + 11 = (m + 10) + 1 from rfl, st27, q27_6_5, gn27, gn27, accS_cons, show (7 : Int) + 1 = 8 from rfl]; cases s 7 with
    | true => rw [cond_true, cond_true]; exact p27_7 m s [7, y5, y4, y3, y2, y1] (by simp)
    | false => rw [cond_false, cond_false]; exact p27_7 m s [y5, y4, y3, y2, y1] (by simp)
  | [y6, y5, y4, y3, y2, y1], _ => rw [show m + 11 = (m + 10) + 1 from rfl, st27, q27_6_6, gn27, gn27, accS_cons, show (7 : Int) + 1 = 8 from rfl]; cases s 7 with
    | true => rw [cond_true, cond_true]; exact p27_7 m s [7, y6, y5, y4, y3, y2, y1] (by simp)
    | false => rw [cond_false, cond_false]; exact p27_7 m s [y6, y5, y4, y3, y2, y1] (by simp)
  | _ :: _ :: _ :: _ :: _ :: _ :: _ :: _, h => simp at h; try omega
theorem p27_5 (m : Nat) (s : Nat → Bool) : ∀ ys : List Int, ys.length ≤ 5 → lp27 (m + 12) ys 5 (ke27 s) s = some (resS (accS 6 [s 6, s 7, s 8, s 9, s 10, s 11, s 12, s 13, s 14, s 15, s 16] ys)) := by
  intro ys hy
  match ys, hy with
  | [], _ => rw [show m + 12 = (m + 11) + 1 from rfl, st27, q27_5_0, gn27, gn27, accS_cons, show (6 : Int) + 1 = 7 from rfl]; cases s 6 with
    | true => rw [cond_true, cond_true]; exact p27_6 m s [6] (by simp)
    | false => rw [cond_false, cond_false]; exact p27_6 m s [] (by simp)
  | [y1], _ => rw [show m + 12 = (m + 11) + 1 from rfl, st27, q27_5_1, gn27, gn27, accS_cons, show (6 : Int) + 1 = 7 from rfl]; cases s 6 with
    | true => rw [cond_true, cond_true]; exact p27_6 m s [6, y1] (by simp)
    | false => rw [cond_false, cond_false]; exact p27_6 m s [y1] (by simp)
  | [y2, y1], _ => rw [show m + 12 = (m + 11) + 1 from rfl, st27, q27_5_2, gn27, gn27, accS_cons, show (6 : Int) + 1 = 7 from rfl]; cases s 6 with
    | true => rw [cond_true, cond_true]; exact p27_6 m s [6, y2, y1] (by simp)
    | false => rw [cond_false, cond_false]; exact p27_6 m s [y2, y1] (by simp)
  | [y3, y2, y1], _ => rw [show m + 12 = (m + 11) + 1 from rfl, st27, q27_5_3, gn27, gn27, accS_cons, show (6 : Int) + 1 = 7 from rfl]; cases s 6 with
    | true => rw [cond_true, cond_true]; exact p27_6 m s [6, y3, y2, y1] (by simp)
    | false => rw [cond_false, cond_false]; exact p27_6 m s [y3, y2, y1] (by simp)
  | [y4, y3, y2, y1], _ => rw [show m + 12 = (m + 11) + 1 from rfl, st27, q27_5_4, gn27, gn27, accS_cons, show (6 : Int) + 1 = 7 from rfl]; cases s 6 with
    | true => rw [cond_true, cond_true]; exact p27_6 m s [6, y4, y3, y2, y1] (by simp)
    | false => rw [cond_false, cond_false]; exact p27_6 m s [y4, y3, y2, y1] (by simp)
  | [y5, y4, y3, y2, y1], _ => rw [show m + 12 = (m + 11) + 1 from rfl, st27, q27_5_5, gn27, gn27, accS_cons, show (6 : Int) + 1 = 7 from rfl]; cases s 6 with
    | true => rw [cond_true, cond_true]; exact p27_6 m s [6, y5, y4, y3, y2, y1] (by simp)
    | false => rw [cond_false, cond_false]; exact p27_6 m s [y5, y4, y3, y2, y1] (by simp)
  | _ :: _ :: _ :: _ :: _ :: _ :: _, h => simp at h; try omega
theorem p27_4 (m : Nat) (s : Nat → Bool) : ∀ ys : List Int, ys.length ≤ 4 → lp27 (m + 13) ys 4 (ke27 s) s = some (resS (accS 5 [s 5, s 6, s 7, s 8, s 9, s 10, s 11, s 12, s 13, s 14, s 15, s 16] ys)) := by
  intro ys hy
  match ys, hy with
  | [], _ => rw [show m + 13 = (m + 12) + 1 from rfl, st27, q27_4_0, gn27, gn27, accS_cons, show (5 : Int) + 1 = 6 from rfl]; cases s 5 with
    | true => rw [cond_true, cond_true]; exact p27_5 m s [5] (by simp)
    | false => rw [cond_false, cond_false]; exact p27_5 m s [] (by simp)
  | [y1], _ => rw [show m + 13 = (m + 12) + 1 from rfl, st27, q27_4_1, gn27, gn27, accS_cons, show (5 : Int) + 1 = 6 from rfl]; cases s 5 with
    | true => rw [cond_true, cond_true]; exact p27_5 m s [5, y1] (by simp)
    | false => rw [cond_false, cond_false]; exact p27_5 m s [y1] (by simp)
  | [y2, y1], _ => rw [show m + 13 = (m + 12) + 1 from rfl, st27, q27_4_2, gn27, gn27, accS_cons, show (5 : Int) + 1 = 6 from rfl]; cases s 5 with
    | true => rw [cond_true, cond_true]; exact p27_5 m s [5, y2, y1] (by simp)
    | false => rw [cond_false, cond_false]; exact p27_5 m s [y2, y1] (by simp)
  | [y3, y2, y1], _ => rw [show m + 13 = (m + 12) + 1 from rfl, st27, q27_4_3, gn27, gn27, accS_cons, show (5 : Int) + 1 = 6 from rfl]; cases s 5 with
    | true => rw [cond_true, cond_true]; exact p27_5 m s [5, y3, y2, y1] (by simp)
    | false => rw [cond_false, cond_false]; exact p27_5 m s [y3, y2, y1] (by simp)
  | [y4, y3, y2, y1], _ => rw [show m + 13 = (m + 12) + 1 from rfl, st27, q27_4_4, gn27, gn27, accS_cons, show (5 : Int) + 1 = 6 from rfl]; cases s 5 with
    | true => rw [cond_true, cond_true]; exact p27_5 m s [5, y4, y3, y2, y1] (by simp)
    | false => rw [cond_false, cond_false]; exact p27_5 m s [y4, y3, y2, y1] (by simp)
  | _ :: _ :: _ :: _ :: _ :: _, h => simp at h; try omega
theorem p27_3 (m : Nat) (s : Nat → Bool) : ∀ ys : List Int, ys.length ≤ 3 → lp27 (m + 14) ys 3 (ke27 s) s = some (resS (accS 4 [s 4, s 5, s 6, s 7, s 8, s 9, s 10, s 11, s 12, s 13, s 14, s 15, s 16] ys)) := by
  intro ys hy
  match ys, hy with
  | [], _ => rw [show m + 14 = (m + 13) + 1 from rfl, st27, q27_3_0, gn27, gn27, accS_cons, show (4 : Int) + 1 = 5 from rfl]; cases s 4 with
    | true => rw [cond_true, cond_true]; exact p27_4 m s [4] (by simp)
    | false => rw [cond_false, cond_false]; exact p27_4 m s [] (by simp)
  | [y1], _ => rw [show m + 14 = (m + 13) + 1 from rfl, st27, q27_3_1, gn27, gn27, accS_cons, show (4 : Int) + 1 = 5 from rfl]; cases s 4 with
    | true => rw [cond_true, cond_true]; exact p27_4 m s [4, y1] (by simp)
    | false => rw [cond_false, cond_false]; exact p27_4 m s [y1] (by simp)
  | [y2, y1], _ => rw [show m + 14 = (m + 13) + 1 from rfl, st27, q27_3_2, gn27, gn27, accS_cons, show (4 : Int) + 1 = 5 from rfl]; cases s 4 with
    | true => rw [cond_true, cond_true]; exact p27_4 m s [4, y2, y1] (by simp)
    | false => rw [cond_false, cond_false]; exact p27_4 m s [y2, y1] (by simp)
  | [y3, y2, y1], _ => rw [show m + 14 = (m + 13) + 1 from rfl, st27, q27_3_3, gn27, gn27, accS_cons, show (4 : Int) + 1 = 5 from rfl]; cases s 4 with
    | true => rw [cond_true, cond_true]; exact p27_4 m s [4, y3, y2, y1] (by simp)
    | false => rw [cond_false, cond_false]; exact p27_4 m s [y3, y2, y1] (by simp)
  | _ :: _ :: _ :: _ :: _, h => simp at h; try omega
theorem p27_2 (m : Nat) (s : Nat → Bool) : ∀ ys : List Int, ys.length ≤ 2 → lp27 (m + 15) ys 2 (ke27 s) s = some (resS (accS 3 [s 3, s 4, s 5, s 6, s 7, s 8, s 9, s 10, s 11, s 12, s 13, s 14, s 15, s 16] ys)) := by
  intro ys hy
  match ys, hy with
  | [], _ => rw [show m + 15 = (m + 14) + 1 from rfl, st27, q27_2_0, gn27, gn27, accS_cons, show (3 : Int) + 1 = 4 from rfl]; cases s 3 with
    | true => rw [cond_true, cond_true]; exact p27_3 m s [3] (by simp)
    | false => rw [cond_false, cond_false]; exact p27_3 m s [] (by simp)
  | [y1], _ => rw [show m + 15 = (m + 14) + 1 from rfl, st27, q27_2_1, gn27, gn27, accS_cons, show (3 : Int) + 1 = 4 from rfl]; cases s 3 with
    | true => rw [cond_true, cond_true]; exact p27_3 m s [3, y1] (by simp)
    | false => rw [cond_false, cond_false]; exact p27_3 m s [y1] (by simp)
  | [y2, y1], _ => rw [show m + 15 = (m + 14) + 1 from rfl, st27, q27_2_2, gn27, gn27, accS_cons, show (3 : Int) + 1 = 4 from rfl]; cases s 3 with
    | true => rw [cond_true, cond_true]; exact p27_3 m s [3, y2, y1] (by simp)
    | false => rw [cond_false, cond_false]; exact p27_3 m s [y2, y1] (by simp)
  | _ :: _ :: _ :: _, h => simp at h; try omega
theorem p27_1 (m : Nat) (s : Nat → Bool) : ∀ ys : List Int, ys.length ≤ 1 → lp27 (m + 16) ys 1 (ke27 s) s = some (resS (accS 2 [s 2, s 3, s 4, s 5, s 6, s 7, s 8, s 9, s 10, s 11, s 12, s 13, s 14, s 15, s 16] ys)) := by
  intro ys hy
  match ys, hy with
  | [], _ => rw [show m + 16 = (m + 15) + 1 from rfl, st27, q27_1_0, gn27, gn27, accS_cons, show (2 : Int) + 1 = 3 from rfl]; cases s 2 with
    | true => rw [cond_true, cond_true]; exact p27_2 m s [2] (by simp)
    | false => rw [cond_false, cond_false]; exact p27_2 m s [] (by simp)
  | [y1], _ => rw [show m + 16 = (m + 15) + 1 from rfl, st27, q27_1_1, gn27, gn27, accS_cons, show (2 : Int) + 1 = 3 from rfl]; cases s 2 with
    | true => rw [cond_true, cond_true]; exact p27_2 m s [2, y1] (by simp)
    | false => rw [cond_false, cond_false]; exact p27_2 m s [y1] (by simp)
  | _ :: _ :: _, h => simp at h; try omega
theorem p27_0 (m : Nat) (s : Nat → Bool) : ∀ ys : List Int, ys.length ≤ 0 → lp27 (m + 17) ys 0 (ke27 s) s = some (resS (accS 1 [s 1, s 2, s 3, s 4, s 5, s 6, s 7, s 8, s 9, s 10, s 11, s 12, s 13, s 14, s 15, s 16] ys)) := by
  intro ys hy
  match ys, hy with
  | [], _ => rw [show m + 17 = (m + 16) + 1 from rfl, st27, q27_0_0, gn27, gn27, accS_cons, show (1 : Int) + 1 = 2 from rfl]; cases s 1 with
    | true => rw [cond_true, cond_true]; exact p27_1 m s [1] (by simp)
    | false => rw [cond_false, cond_false]; exact p27_1 m s [] (by simp)
  | _ :: _, h => simp at h; try omega
theorem into27 (LP : Code → AF → AH → (Ex → AF → AH → Option AV) → Option AV) (s : Nat → Bool) :
    runH ttc ntc (funK ft27 ttc ntc ot5 1000000 29) 1000000 LP fi27 [.ptr 0 1 0 0] (heap0 (roomF s)) (fun u H => readR (roomF s).length u H) =
    LP (loopAt fi27 0) (fr27 .nils 0) (hpS 3 (heap0 (roomF s)) []) (contH ttc ntc (funK ft27 ttc ntc ot5 1000000 29) 1000000 fi27.trim LP fi27.body 0 (kendK ttc fi27 fun u H => readR (roomF s).length u H)) := by kernel_rfl
theorem get27 : ft27.get 27 = some fi27 := by kernel_rfl
theorem no27 : ot5.get 27 = none := by kernel_rfl
theorem ftok27 : FTok Go.Proofs.Tryz.prog ft27 := ftok_set ftok (fi0 := fiOf Go.Proofs.Tryz.f27) (by kernel_rfl) rfl rfl rfl (fun i => rfl)
theorem run27 (s : Nat → Bool) : funK ft27 ttc ntc ot5 1000000 30 (.fn 27) [.ptr 0 1 0 0] (heap0 (roomF s)) (fun u H => readR (roomF s).length u H) = some (resS (accS 1 [s 1, s 2, s 3, s 4, s 5, s 6, s 7, s 8, s 9, s 10, s 11, s 12, s 13, s 14, s 15, s 16] [])) := by
  rw [funK_H no27 get27 trim27, into27]
  exact p27_0 999983 s [] (by simp)
def S27 : RS
  | [.ptr 0 1 0 0], [.arr 1 [[.ptr 1 19 0 0]], .arr 19 [[.ptr 2 1 0 0, .bool b0, .bool b1, .bool b2, .bool b3, .bool b4, .bool b5, .bool b6, .bool b7, .bool b8, .bool b9, .bool b10, .bool b11, .bool b12, .bool b13, .bool b14, .bool b15, .bool b16, .nils]], .arr 1 []] => some ([], .list 1 (rowsS (accS 1 [b1, b2, b3, b4, b5, b6, b7, b8, b9, b10, b11, b12, b13, b14, b15, b16] [])))
  | _, _ => none
theorem sum27 : SumOk Go.Proofs.Tryz.prog 27 (readS rhoA S27) := sumOk_readK mixed ftok27 ttok ntok ot5_ok (lf := 1000000) (m := 30) (by
  intro a os cs v h hcs
  unfold S27 at h
  split at h
  · cases h
    exact ⟨_, run27 (seatF _ _ _ _ _ _ _ _ _ _ _ _ _ _ _ _ _), tell_resS _⟩
  · cases h)
end
end Go.VM

