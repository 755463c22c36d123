/- A part of the proof: Cov. No condition. -/
import Derived.Test.YtchfpiimkmphjaaGreatTab
import Derived.Test.YtchfpiimkmphjaaGreatVmP8
import Derived.Test.YtchfpiimkmphjaaGreatVmPa
import Derived.KernelRfl
import Derived.Test.YtchfpiimkmphjaaGreatTok
import Derived.Test.YtchfpiimkmphjaaGreatTok2
import Derived.Test.YtchfpiimkmphjaaGreatTok3
namespace Go.VM
open Go
noncomputable def fi411 : FI := { fiOf Go.Proofs.Tryz.f411 with trim := trimAt 4 [1, 2, 4, 5, 6, 7] }
noncomputable def ft411 : Tr FI := ftc.set 40 411 (some fi411)
noncomputable def fr411 (d rest i : Int) : AF := { tmps := ((((((Tr.nil.set 40 7 (some (.int .i64 i))).set 40 6 (some (.int .u64 rest))).set 40 5 (some (.ptr 2 3 0 0))).set 40 4 (some (.ptr 1 3 0 0))).set 40 2 (some (.ptr 0 3 0 0))).set 40 1 (some (.int .u64 d))), sz := 58, marks := [], rnd := none }
noncomputable def hp411 (neg : Bool) (ahi alo qhi qlo : Int) : AH := { next := 3, tr := ((Tr.nil.set 40 0 (some (.arr 3 [[.bool neg, .int .u64 ahi, .int .u64 alo]]))).set 40 1 (some (.arr 3 [[.bool false, .int .u64 0, .int .u64 0]]))).set 40 2 (some (.arr 3 [[.bool neg, .int .u64 qhi, .int .u64 qlo]])), log := [2, 1, 0] }
end Go.VM

namespace Go.VM
open Go
set_option maxRecDepth 1000000
noncomputable section
def fin411 (neg : Bool) (ahi alo d qhi qlo i r : Int) : Option (Ex × AF × AH) :=
  cond (decide (r ≥ d)) (some (.norm, fr411 d (uw (r - d)) (iw (i - 1)), hp411 neg ahi alo (bor (shl qhi 1) (shr qlo 63)) (bor (shl qlo 1) 1)))
    (some (.norm, fr411 d r (iw (i - 1)), hp411 neg ahi alo (bor (shl qhi 1) (shr qlo 63)) (shl qlo 1)))
theorem round411 (neg : Bool) (ahi alo d qhi qlo rest i : Int) : roundT ttc ntc (funK ft411 ttc ntc .nil 1000 20) 1000 fi411.trim (loopAt fi411 0) (fr411 d rest i) (hp411 neg ahi alo qhi qlo) =
    cond (decide (i ≥ 0)) (cond (decide (uw i < 0)) none (cond (decide (i ≥ 64)) (cond (decide (uw (iw (i - 64)) < 0)) none
      (fin411 neg ahi alo d qhi qlo i (bor (shl rest 1) (band (shr ahi (uw (iw (i - 64)))) 1))))
      (fin411 neg ahi alo d qhi qlo i (bor (shl rest 1) (band (shr alo (uw i)) 1)))))
      (some (.exit 0, fr411 d rest i, hp411 neg ahi alo qhi qlo)) := by kernel_rfl
end
end Go.VM

namespace Go.VM
open Go
set_option maxRecDepth 1000000
noncomputable section

theorem topB_zero (A : Int) (h0 : 0 ≤ A) (h1 : A < 340282366920938463463374607431768211456) : topB A 0 = 0 := by
  unfold topB
  exact Int.ediv_eq_zero_of_lt h0 h1

theorem topB_all (A : Int) : topB A 128 = A := by
  unfold topB
  exact Int.ediv_one A

theorem topB_nonneg (A : Int) (h0 : 0 ≤ A) (j : Nat) : 0 ≤ topB A j := Int.ediv_nonneg h0 (Int.natCast_nonneg _)

theorem topB_lt (A : Int) (h0 : 0 ≤ A) (h1 : A < 340282366920938463463374607431768211456) (j : Nat) (hj : j ≤ 127) : topB A j < 170141183460469231731687303715884105728 := by
  have h2 : (2 : Int) ≤ ((2 ^ (128 - j) : Nat) : Int) := by
    have : 2 ^ 1 ≤ 2 ^ (128 - j) := Nat.pow_le_pow_right (by omega) (by omega)
    omega
  unfold topB
  refine Int.ediv_lt_of_lt_mul (by omega) ?_
  generalize ((2 ^ (128 - j) : Nat) : Int) = p at h2
  have : 170141183460469231731687303715884105728 * 2 ≤ 170141183460469231731687303715884105728 * p := Int.mul_le_mul_of_nonneg_left h2 (by omega)
  omega

def st411 (neg : Bool) (ahi alo d : Int) (j : Nat) : AF × AH :=
  (fr411 d (topB (ahi * 18446744073709551616 + alo) j % d) (127 - (j : Int)),
   hp411 neg ahi alo (topB (ahi * 18446744073709551616 + alo) j / d / 18446744073709551616) (topB (ahi * 18446744073709551616 + alo) j / d % 18446744073709551616))

theorem fin_step (neg : Bool) (ahi alo d P bit i : Int) (hd : 0 < d) (hd2 : d ≤ 9223372036854775808) (hP : 0 ≤ P) (hP2 : P < 170141183460469231731687303715884105728) (hb0 : 0 ≤ bit) (hb1 : bit < 2)
    (hi0 : 0 ≤ i) (hi1 : i ≤ 127) :
    fin411 neg ahi alo d (P / d / 18446744073709551616) (P / d % 18446744073709551616) i (bor (shl (P % d) 1) bit) =
      some (.norm, fr411 d ((2 * P + bit) % d) (i - 1), hp411 neg ahi alo ((2 * P + bit) / d / 18446744073709551616) ((2 * P + bit) / d % 18446744073709551616)) := by
  have h2 := Int.emod_nonneg P (by omega : d ≠ 0)
  have h3 := Int.emod_lt_of_pos P hd
  have hq0 : 0 ≤ P / d := Int.ediv_nonneg hP (by omega)
  have hq1 : P / d ≤ P := Int.ediv_le_self _ hP
  obtain ⟨r1, r2⟩ := div_round P d bit hd hb0 hb1
  have e1 : shl (P % d) 1 = 2 * (P % d) := by rw [shl_1]; omega
  have e2 : bor (shl (P % d) 1) bit = 2 * (P % d) + bit := by rw [e1]; exact bor_1 (by omega) (by omega) (by omega) hb0 hb1
  have ei : iw (i - 1) = i - 1 := iw_in (by omega) (by omega)
  generalize P / d = q at hq0 hq1 r1 r2 ⊢
  have f1 : shl (q / 18446744073709551616) 1 = 2 * (q / 18446744073709551616) := by rw [shl_1]; omega
  have f2 : bor (shl (q / 18446744073709551616) 1) (shr (q % 18446744073709551616) 63) = (2 * q) / 18446744073709551616 := by
    rw [f1, shr_63, bor_1 (by omega) (by omega) (by omega) (by omega) (by omega)]; omega
  have f3 : shl (q % 18446744073709551616) 1 = (2 * q) % 18446744073709551616 := by rw [shl_1]; omega
  unfold fin411
  rw [e2, f2, f3, ei]
  by_cases hc : 2 * (P % d) + bit ≥ d
  · obtain ⟨k1, k2⟩ := r1 hc
    have g1 : uw (2 * (P % d) + bit - d) = 2 * (P % d) + bit - d := uw_in (by omega) (by omega)
    have g2 : bor ((2 * q) % 18446744073709551616) 1 = (2 * q + 1) % 18446744073709551616 := by
      rw [bor_1 (by omega) (by omega) (by omega) (by omega) (by omega)]; omega
    have g3 : (2 * q) / 18446744073709551616 = (2 * q + 1) / 18446744073709551616 := by omega
    rw [decide_eq_true hc, cond_true, g1, g2, g3, k1, k2]
  · obtain ⟨k1, k2⟩ := r2 hc
    rw [decide_eq_false hc, cond_false, k1, k2]

theorem step411 (neg : Bool) (ahi alo d : Int) (a0 : 0 ≤ ahi) (a1 : ahi < 18446744073709551616) (b0 : 0 ≤ alo) (b1 : alo < 18446744073709551616) (hd : 1 ≤ d) (hd2 : d ≤ 9223372036854775808) (j : Nat) (hj : j < 128) :
    roundT ttc ntc (funK ft411 ttc ntc .nil 1000 20) 1000 fi411.trim (loopAt fi411 0) (st411 neg ahi alo d j).1 (st411 neg ahi alo d j).2 = some (.norm, (st411 neg ahi alo d (j + 1)).1, (st411 neg ahi alo d (j + 1)).2) := by
  have hA0 : 0 ≤ ahi * 18446744073709551616 + alo := by omega
  have hA1 : ahi * 18446744073709551616 + alo < 340282366920938463463374607431768211456 := by omega
  have ht := topB_succ (ahi * 18446744073709551616 + alo) j hj
  have hlt := topB_lt _ hA0 hA1 j (by omega)
  have hnn := topB_nonneg _ hA0 j
  have ei : (127 : Int) - ((j + 1 : Nat) : Int) = (127 - (j : Int)) - 1 := by omega
  have hbit : ∀ x : Int, 0 ≤ x % 2 ∧ x % 2 < 2 := fun x => by omega
  simp only [st411, round411, ht, ei]
  have eN : (127 : Int) - (j : Int) = ((127 - j : Nat) : Int) := by omega
  rw [decide_eq_true (by omega : (127 : Int) - (j : Int) ≥ 0), cond_true, uw_in (by omega) (by omega), decide_eq_false (by omega), cond_false]
  by_cases hc : (127 : Int) - (j : Int) ≥ 64
  · have e1 : iw (127 - (j : Int) - 64) = ((127 - j - 64 : Nat) : Int) := by rw [iw_in (by omega) (by omega)]; omega
    have e2 : uw ((127 - j - 64 : Nat) : Int) = ((127 - j - 64 : Nat) : Int) := uw_in (by omega) (by omega)
    have hs0 : 0 ≤ ahi / ((2 ^ (127 - j - 64) : Nat) : Int) := Int.ediv_nonneg a0 (Int.natCast_nonneg _)
    have hs1 : ahi / ((2 ^ (127 - j - 64) : Nat) : Int) ≤ ahi := Int.ediv_le_self _ a0
    rw [decide_eq_true hc, cond_true, e1, e2, decide_eq_false (by omega), cond_false, shr_n ahi _ (by omega), band_1 hs0 (by omega), ← bit_hi ahi alo b0 b1 (127 - j) (by omega)]
    rw [fin_step neg ahi alo d _ _ _ (by omega) hd2 hnn hlt (hbit _).1 (hbit _).2 (by omega) (by omega)]
  · have hs0 : 0 ≤ alo / ((2 ^ (127 - j) : Nat) : Int) := Int.ediv_nonneg b0 (Int.natCast_nonneg _)
    have hs1 : alo / ((2 ^ (127 - j) : Nat) : Int) ≤ alo := Int.ediv_le_self _ b0
    rw [decide_eq_false hc, cond_false]
    have e3 : shr alo (127 - (j : Int)) = alo / ((2 ^ (127 - j) : Nat) : Int) := by rw [eN]; exact shr_n alo _ (by omega)
    rw [e3, band_1 hs0 (by omega), ← bit_lo ahi alo (127 - j) (by omega)]
    rw [fin_step neg ahi alo d _ _ _ (by omega) hd2 hnn hlt (hbit _).1 (hbit _).2 (by omega) (by omega)]

theorem last411 (neg : Bool) (ahi alo d : Int) : roundT ttc ntc (funK ft411 ttc ntc .nil 1000 20) 1000 fi411.trim (loopAt fi411 0) (st411 neg ahi alo d 128).1 (st411 neg ahi alo d 128).2 = some (.exit 0, (st411 neg ahi alo d 128).1, (st411 neg ahi alo d 128).2) := by
  simp only [st411, round411]
  rw [decide_eq_false (by omega), cond_false]

theorem into411 (LP : Code → AF → AH → (Ex → AF → AH → Option AV) → Option AV) (neg : Bool) (ahi alo d : Int) :
    runH ttc ntc (funK ft411 ttc ntc .nil 1000 20) 1000 LP fi411 [.agg [.bool neg, .int .u64 ahi, .int .u64 alo], .int .u64 d] H0 (fun u H => frzA H false 30 u) =
    LP (loopAt fi411 0) (fr411 d 0 127) (hp411 neg ahi alo 0 0) (contH ttc ntc (funK ft411 ttc ntc .nil 1000 20) 1000 fi411.trim LP fi411.body 0 (kendK ttc fi411 fun u H => frzA H false 30 u)) := by kernel_rfl

theorem out411 (LP : Code → AF → AH → (Ex → AF → AH → Option AV) → Option AV) (neg : Bool) (ahi alo d rest i qhi qlo : Int) :
    contH ttc ntc (funK ft411 ttc ntc .nil 1000 20) 1000 fi411.trim LP fi411.body 0 (kendK ttc fi411 fun u H => frzA H false 30 u) (.exit 0) (fr411 d rest i) (hp411 neg ahi alo qhi qlo) =
      some (.agg [.bool neg, .int .u64 qhi, .int .u64 qlo]) := by kernel_rfl

theorem trim411 : TrimB fi411.trim := by
  intro key l h
  have : cond (Nat.beq key 4) (some [1, 2, 4, 5, 6, 7]) none = some l := h
  cases hb : Nat.beq key 4 with
  | false => rw [hb] at this; cases this
  | true =>
    rw [hb] at this
    cases this
    intro x hx
    simp at hx
    omega

theorem get411 : ft411.get 411 = some fi411 := by kernel_rfl
theorem key411 : fi411.trim (keyC (loopAt fi411 0)) = some [1, 2, 4, 5, 6, 7] := by kernel_rfl

theorem run411 (neg : Bool) (ahi alo d : Int) (a0 : 0 ≤ ahi) (a1 : ahi < 18446744073709551616) (b0 : 0 ≤ alo) (b1 : alo < 18446744073709551616) (hd : 1 ≤ d) (hd2 : d ≤ 9223372036854775808) :
    funK ft411 ttc ntc .nil 1000 21 (.fn 411) [.agg [.bool neg, .int .u64 ahi, .int .u64 alo], .int .u64 d] H0 (fun u H => frzA H false 30 u) =
      some (.agg [.bool neg, .int .u64 ((ahi * 18446744073709551616 + alo) / d / 18446744073709551616), .int .u64 ((ahi * 18446744073709551616 + alo) / d % 18446744073709551616)]) := by
  rw [funK_H rfl get411 trim411, into411]
  have hz : topB (ahi * 18446744073709551616 + alo) 0 = 0 := topB_zero _ (by omega) (by omega)
  have := loopK_ind (R := AV) (ft := ft411) (tt := ttc) (nt := ntc) (ot := .nil) (lf := 1000) (q := 20) (tm := fi411.trim) (b := loopAt fi411 0) (st := st411 neg ahi alo d) (n := 128) (e := .exit 0) (fin := st411 neg ahi alo d 128)
    (fun i _ => by rw [key411]; rfl) (fun i _ => by rw [key411]; rfl)
    (fun i hi => step411 neg ahi alo d a0 a1 b0 b1 hd hd2 i hi) (last411 neg ahi alo d) (by intro h; cases h) (m := 1000) (by omega) (fr := fr411 d 0 127) (H := hp411 neg ahi alo 0 0)
    (by rw [key411]; simp only [st411, hz]; simp; rfl) (by rw [key411]; simp only [st411, hz]; simp; rfl)
  unfold loopLP
  rw [this]
  simp only [st411, out411, topB_all]

def overS : List AV → Option (List Bool × AV)
  | [.agg [.bool neg, .int .u64 ahi, .int .u64 alo], .int .u64 d] =>
    some ([decide (0 ≤ ahi), decide (ahi < 18446744073709551616), decide (0 ≤ alo), decide (alo < 18446744073709551616), decide (1 ≤ d), decide (d ≤ 9223372036854775808)],
      .agg [.bool neg, .int .u64 ((ahi * 18446744073709551616 + alo) / d / 18446744073709551616), .int .u64 ((ahi * 18446744073709551616 + alo) / d % 18446744073709551616)])
  | _ => none

theorem ftok411 : FTok Go.Proofs.Tryz.prog ft411 := ftok_set ftok (fi0 := fiOf Go.Proofs.Tryz.f411) (by kernel_rfl) rfl rfl rfl (fun i => rfl)

theorem sum411 : SumOk Go.Proofs.Tryz.prog 411 (pureS overS) := by
  refine sumOk_pureK mixed ftok411 ttok ntok (otok_nil _) (lf := 1000) (n := 21) ?_
  intro args cs v h hcs
  unfold overS at h
  split at h
  · simp only [Option.some.injEq, Prod.mk.injEq] at h
    obtain ⟨rfl, rfl⟩ := h
    obtain ⟨c1, hcs⟩ := allB_cons hcs
    obtain ⟨c2, hcs⟩ := allB_cons hcs
    obtain ⟨c3, hcs⟩ := allB_cons hcs
    obtain ⟨c4, hcs⟩ := allB_cons hcs
    obtain ⟨c5, hcs⟩ := allB_cons hcs
    obtain ⟨c6, hcs⟩ := allB_cons hcs
    rw [decide_eq_true_eq] at c1 c2 c3 c4 c5 c6
    exact run411 _ _ _ _ c1 c2 c3 c4 c5 c6
  · cases h

end
end Go.VM

