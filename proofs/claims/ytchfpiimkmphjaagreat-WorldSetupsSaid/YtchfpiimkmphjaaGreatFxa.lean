/- A part of the proof: Fxa. No condition. -/
import Derived.Test.YtchfpiimkmphjaaGreatTab
import Derived.Test.YtchfpiimkmphjaaGreatVmPa
import Derived.Test.YtchfpiimkmphjaaGreatTok
import Derived.Test.YtchfpiimkmphjaaGreatTok2
import Derived.Test.YtchfpiimkmphjaaGreatTok3
import Derived.KernelRfl
namespace Go.VM
open Go
set_option maxRecDepth 1000000
noncomputable section

abbrev kf (n : Nat) (ot : OT) (args : List AV) : Option AV := funK ftc ttc ntc ot 1000000 30 (.fn n) args H0 (fun u H => frzA H false 30 u)

theorem pureOk {ot : OT} (hot : OTok Go.Proofs.Tryz.prog ot) {k : Nat} {S : List AV → Option (List Bool × AV)} (h : ∀ args cs v, S args = some (cs, v) → allB cs = true → kf k ot args = some v) : SumOk Go.Proofs.Tryz.prog k (pureS S) :=
  sumOk_pureK mixed ftok ttok ntok hot (lf := 1000000) (n := 30) h

-- sound
theorem tr158 (a : Int) (f : Bool) : kf 158 .nil [.agg [.int .i64 a, .bool f]] = cond (a == -9223372036854775808) (some (.agg [.int .i64 (-9223372036854775807), .bool true])) (some (.agg [.int .i64 a, .bool f])) := by kernel_rfl
def S158 : List AV → Option (List Bool × AV)
  | [.agg [.int .i64 a, .bool f]] => some ([], .agg [.int .i64 (sV a), .bool (sF a f)])
  | _ => none
theorem sum158 : SumOk Go.Proofs.Tryz.prog 158 (pureS S158) := pureOk (otok_nil _) (by
  intro args cs v h _
  unfold S158 at h
  split at h
  · cases h
    rw [tr158]
    unfold sV sF
    cases (_ == (-9223372036854775808 : Int)) <;> rfl
  · cases h)

-- of
theorem tr159 (a : Int) : kf 159 .nil [.int .i64 a] = cond (decide (a < 0)) (some (.agg [.bool true, .int .u64 (uw (0 - uw a)), .int .u64 0])) (some (.agg [.bool false, .int .u64 (uw a), .int .u64 0])) := by kernel_rfl
def S159 : List AV → Option (List Bool × AV)
  | [.int .i64 a] => some ([inI a], .agg [.bool (decide (a < 0)), .int .u64 (absI a), .int .u64 0])
  | _ => none
theorem sum159 : SumOk Go.Proofs.Tryz.prog 159 (pureS S159) := pureOk (otok_nil _) (by
  intro args cs v h hcs
  unfold S159 at h
  split at h
  · rename_i a
    cases h
    obtain ⟨c1, _⟩ := allB_cons hcs
    rw [tr159]
    unfold absI
    by_cases hn : a < 0
    · rw [decide_eq_true hn, cond_true, cond_true, neg_u c1 hn]
    · rw [decide_eq_false hn, cond_false, cond_false, uw_pos c1 hn]
  · cases h)

-- up
theorem tr160 (f : Bool) (lo hi : Int) : kf 160 .nil [.agg [.bool f, .int .u64 lo, .int .u64 hi]] = some (.agg [.bool f, .int .u64 (shl lo 32), .int .u64 (bor (shl hi 32) (shr lo 32))]) := by kernel_rfl
def S160 : List AV → Option (List Bool × AV)
  | [.agg [.bool f, .int .u64 lo, .int .u64 hi]] => some ([inU lo, inU hi], .agg [.bool f, .int .u64 ((lo * 4294967296) % 18446744073709551616), .int .u64 ((hi * 4294967296) % 18446744073709551616 + lo / 4294967296)])
  | _ => none
theorem sum160 : SumOk Go.Proofs.Tryz.prog 160 (pureS S160) := pureOk (otok_nil _) (by
  intro args cs v h hcs
  unfold S160 at h
  split at h
  · cases h
    obtain ⟨c1, hcs⟩ := allB_cons hcs
    obtain ⟨c2, _⟩ := allB_cons hcs
    rw [tr160, up_hi c1 c2, shl_32]
  · cases h)

-- down
theorem tr342 (f : Bool) (lo hi : Int) : kf 342 .nil [.agg [.bool f, .int .u64 lo, .int .u64 hi]] = some (.agg [.bool f, .int .u64 (bor (shl hi 32) (shr lo 32)), .int .u64 (shr hi 32)]) := by kernel_rfl
def S342 : List AV → Option (List Bool × AV)
  | [.agg [.bool f, .int .u64 lo, .int .u64 hi]] => some ([inU lo, inU hi], .agg [.bool f, .int .u64 ((hi * 4294967296) % 18446744073709551616 + lo / 4294967296), .int .u64 (hi / 4294967296)])
  | _ => none
theorem sum342 : SumOk Go.Proofs.Tryz.prog 342 (pureS S342) := pureOk (otok_nil _) (by
  intro args cs v h hcs
  unfold S342 at h
  split at h
  · cases h
    obtain ⟨c1, hcs⟩ := allB_cons hcs
    obtain ⟨c2, _⟩ := allB_cons hcs
    rw [tr342, up_hi c1 c2, shr_32]
  · cases h)

-- fit
theorem tr162 (neg : Bool) (lo hi : Int) (f : Bool) : kf 162 .nil [.agg [.bool neg, .int .u64 lo, .int .u64 hi], .bool f] =
    cond (hi == 0) (cond (decide (lo ≤ 9223372036854775807)) (cond neg (some (.agg [.int .i64 (iw (0 - iw lo)), .bool f])) (some (.agg [.int .i64 (iw lo), .bool f])))
      (cond neg (some (.agg [.int .i64 (iw (0 - 9223372036854775807)), .bool true])) (some (.agg [.int .i64 9223372036854775807, .bool true]))))
      (cond neg (some (.agg [.int .i64 (iw (0 - 9223372036854775807)), .bool true])) (some (.agg [.int .i64 9223372036854775807, .bool true]))) := by kernel_rfl
def S162 : List AV → Option (List Bool × AV)
  | [.agg [.bool neg, .int .u64 lo, .int .u64 hi], .bool f] => some ([inU lo], .agg [.int .i64 (fitV neg lo hi), .bool (fitF lo hi f)])
  | _ => none
theorem sum162 : SumOk Go.Proofs.Tryz.prog 162 (pureS S162) := pureOk (otok_nil _) (by
  intro args cs v h hcs
  unfold S162 at h
  split at h
  · rename_i neg lo hi f
    cases h
    obtain ⟨c1, _⟩ := allB_cons hcs
    rw [inU_iff] at c1
    rw [tr162]
    have e0 : iw (0 - 9223372036854775807) = -9223372036854775807 := iw_in (by omega) (by omega)
    unfold fitV fitF fits
    cases (hi == 0) with
    | false => simp only [cond_false, e0]; cases neg <;> rfl
    | true =>
      by_cases h2 : lo ≤ 9223372036854775807
      · have e1 : iw lo = lo := iw_in (by omega) h2
        have e2 : iw (0 - lo) = 0 - lo := iw_in (by omega) (by omega)
        simp only [decide_eq_true h2, cond_true, e1, e2]
        cases neg <;> rfl
      · simp only [decide_eq_false h2, cond_true, cond_false, e0]
        cases neg <;> rfl
  · cases h)

-- bits.Mul64
theorem tr430 (x y : Int) : kf 430 .nil [.int .u64 x, .int .u64 y] = some (.tup [.int .u64 (uw (uw (uw (shr x 32 * shr y 32) + shr (uw (uw (shr x 32 * band y 4294967295) + shr (uw (band x 4294967295 * band y 4294967295)) 32)) 32) +
      shr (uw (band (uw (uw (shr x 32 * band y 4294967295) + shr (uw (band x 4294967295 * band y 4294967295)) 32)) 4294967295 + uw (band x 4294967295 * shr y 32))) 32)), .int .u64 (uw (x * y))]) := by kernel_rfl
def S430 : List AV → Option (List Bool × AV)
  | [.int .u64 x, .int .u64 y] => some ([inU x, inU y], .tup [.int .u64 (x * y / 18446744073709551616), .int .u64 ((x * y) % 18446744073709551616)])
  | _ => none
theorem sum430 : SumOk Go.Proofs.Tryz.prog 430 (pureS S430) := pureOk (otok_nil _) (by
  intro args cs v h hcs
  unfold S430 at h
  split at h
  · cases h
    obtain ⟨c1, hcs⟩ := allB_cons hcs
    obtain ⟨c2, _⟩ := allB_cons hcs
    rw [tr430, mul_words _ _ c1 c2, uw_mod]
  · cases h)

-- cmp.Compare
theorem tr157 (a b : Int) : kf 157 .nil [.int .i64 a, .int .i64 b] = cond (a != a) (cond (b != b) (some (.int .i64 0)) (some (.int .i64 (-1)))) (cond (b != b) (some (.int .i64 1)) (cond (decide (a < b)) (some (.int .i64 (-1))) (cond (decide (a > b)) (some (.int .i64 1)) (some (.int .i64 0))))) := by kernel_rfl
theorem tr462 (a b : Int) : kf 462 .nil [.int .u64 a, .int .u64 b] = cond (a != a) (cond (b != b) (some (.int .i64 0)) (some (.int .i64 (-1)))) (cond (b != b) (some (.int .i64 1)) (cond (decide (a < b)) (some (.int .i64 (-1))) (cond (decide (a > b)) (some (.int .i64 1)) (some (.int .i64 0))))) := by kernel_rfl
def Scmp (k : IntKind) : List AV → Option (List Bool × AV)
  | [.int k1 a, .int k2 b] => cond (decide (k1 = k) && decide (k2 = k)) (some ([], .int .i64 (cmpI a b))) none
  | _ => none
theorem cmp_tree (a b : Int) : cond (a != a) (cond (b != b) (some (AV.int .i64 0)) (some (.int .i64 (-1)))) (cond (b != b) (some (.int .i64 1)) (cond (decide (a < b)) (some (.int .i64 (-1))) (cond (decide (a > b)) (some (.int .i64 1)) (some (.int .i64 0))))) = some (.int .i64 (cmpI a b)) := by
  have e : ∀ x : Int, (x != x) = false := fun x => by simp
  rw [e, e, cond_false, cond_false]
  unfold cmpI
  cases decide (a < b) with
  | true => rfl
  | false => cases decide (a > b) <;> rfl
theorem scmp_inv {k : IntKind} {args : List AV} {cs : List Bool} {v : AV} (h : Scmp k args = some (cs, v)) : ∃ a b, args = [.int k a, .int k b] ∧ v = .int .i64 (cmpI a b) := by
  unfold Scmp at h
  split at h
  · obtain ⟨hc, h⟩ := condSome h
    rw [Bool.and_eq_true, decide_eq_true_eq, decide_eq_true_eq] at hc
    obtain ⟨h1, h2⟩ := hc
    simp only [Option.some.injEq, Prod.mk.injEq] at h
    exact ⟨_, _, by rw [h1, h2], h.2.symm⟩
  · cases h
theorem sum157 : SumOk Go.Proofs.Tryz.prog 157 (pureS (Scmp .i64)) := pureOk (otok_nil _) (by
  intro args cs v h _
  obtain ⟨a, b, rfl, rfl⟩ := scmp_inv h
  rw [tr157, cmp_tree])
theorem sum462 : SumOk Go.Proofs.Tryz.prog 462 (pureS (Scmp .u64)) := pureOk (otok_nil _) (by
  intro args cs v h _
  obtain ⟨a, b, rfl, rfl⟩ := scmp_inv h
  rw [tr462, cmp_tree])
end
end Go.VM

namespace Go.VM
open Go
noncomputable def ot1 : OT := (.node (.node (.node (.node (.node (.node .nil none (.node (.node .nil (some (pureS S159)) .nil) none .nil)) none .nil) none .nil) none .nil) none (.node .nil none (.node .nil none (.node .nil none (.node (.node (.node .nil (some (pureS (Scmp .i64))) .nil) none .nil) none .nil))))) none (.node (.node (.node (.node (.node .nil none (.node (.node .nil (some (pureS S160)) .nil) none .nil)) none .nil) none .nil) none .nil) none (.node (.node (.node (.node .nil none (.node (.node .nil (some (pureS S162)) .nil) none .nil)) none .nil) none .nil) none (.node (.node .nil none (.node (.node .nil none (.node (.node .nil (some (pureS S342)) .nil) none .nil)) none .nil)) none (.node (.node (.node .nil none (.node .nil none (.node .nil (some (pureS (Scmp .u64))) .nil))) none (.node (.node .nil none (.node .nil (some (pureS S430)) .nil)) none .nil)) none (.node (.node (.node .nil (some (pureS S158)) .nil) none .nil) none .nil))))))
theorem ot1_ok : OTok Go.Proofs.Tryz.prog ot1 := otok_of (l := [(157, (pureS (Scmp .i64))), (158, (pureS S158)), (159, (pureS S159)), (160, (pureS S160)), (162, (pureS S162)), (342, (pureS S342)), (430, (pureS S430)), (462, (pureS (Scmp .u64)))]) ftok (by rfl) (by rfl) (by
  intro p hp
  rcases List.mem_cons.1 hp with rfl | hp
  · exact sum157
  rcases List.mem_cons.1 hp with rfl | hp
  · exact sum158
  rcases List.mem_cons.1 hp with rfl | hp
  · exact sum159
  rcases List.mem_cons.1 hp with rfl | hp
  · exact sum160
  rcases List.mem_cons.1 hp with rfl | hp
  · exact sum162
  rcases List.mem_cons.1 hp with rfl | hp
  · exact sum342
  rcases List.mem_cons.1 hp with rfl | hp
  · exact sum430
  rcases List.mem_cons.1 hp with rfl | hp
  · exact sum462
  cases hp)
end Go.VM

namespace Go.VM
open Go
set_option maxRecDepth 1000000
noncomputable section

theorem condI {α : Type} {b : Bool} (h : b = true) (x y : α) : cond b x y = x := by rw [h]; rfl

theorem abs_inU {a : Int} (h : inI a = true) : inU (absI a) = true := by
  have := abs_range h
  rw [inU_iff]; omega

-- product
theorem tr340 (a b : Int) : kf 340 ot1 [.int .i64 a, .int .i64 b] = cond (inI a) (cond (inI b) (cond (inU (absI a)) (cond (inU (absI b)) (some (.agg [.bool (decide (a < 0) != decide (b < 0)), .int .u64 (absI a * absI b % 18446744073709551616), .int .u64 (absI a * absI b / 18446744073709551616)])) none) none) none) none := by kernel_rfl
def S340 : List AV → Option (List Bool × AV)
  | [.int .i64 a, .int .i64 b] => some ([inI a, inI b], .agg [.bool (decide (a < 0) != decide (b < 0)), .int .u64 (absI a * absI b % 18446744073709551616), .int .u64 (absI a * absI b / 18446744073709551616)])
  | _ => none
theorem sum340 : SumOk Go.Proofs.Tryz.prog 340 (pureS S340) := pureOk ot1_ok (by
  intro args cs v h hcs
  unfold S340 at h
  split at h
  · cases h
    obtain ⟨c1, hcs⟩ := allB_cons hcs
    obtain ⟨c2, _⟩ := allB_cons hcs
    rw [tr340, condI c1, condI c2, condI (abs_inU c1), condI (abs_inU c2)]
  · cases h)

-- words.compare
def cmpW (a b c d : Int) : Int := cond (cmpI b d != 0) (cmpI b d) (cmpI a c)
theorem tr432 (a b c d : Int) : kf 432 ot1 [.agg [.int .u64 a, .int .u64 b], .agg [.int .u64 c, .int .u64 d]] = cond (cmpI b d != 0) (some (.int .i64 (cmpI b d))) (cond (cmpI a c != 0) (some (.int .i64 (cmpI a c))) (some (.int .i64 0))) := by kernel_rfl
def S432 : List AV → Option (List Bool × AV)
  | [.agg [.int .u64 a, .int .u64 b], .agg [.int .u64 c, .int .u64 d]] => some ([], .int .i64 (cmpW a b c d))
  | _ => none
theorem sum432 : SumOk Go.Proofs.Tryz.prog 432 (pureS S432) := pureOk ot1_ok (by
  intro args cs v h _
  unfold S432 at h
  split at h
  · rename_i a b c d
    cases h
    rw [tr432]
    unfold cmpW
    cases (cmpI b d != 0) with
    | true => rfl
    | false =>
      simp only [cond_false]
      cases e : (cmpI a c != 0) with
      | true => rfl
      | false =>
        have : cmpI a c = 0 := by simpa using e
        rw [this]; rfl
  · cases h)

-- flags
theorem tr343_2 (a b : Int) (f g : Bool) : kf 343 ot1 [.list 2 [[.int .i64 a, .bool f], [.int .i64 b, .bool g]]] = cond f (some (.bool true)) (cond g (some (.bool true)) (some (.bool false))) := by kernel_rfl
theorem tr343_4 (a b c d : Int) (f g h i : Bool) : kf 343 ot1 [.list 2 [[.int .i64 a, .bool f], [.int .i64 b, .bool g], [.int .i64 c, .bool h], [.int .i64 d, .bool i]]] =
    cond f (some (.bool true)) (cond g (some (.bool true)) (cond h (some (.bool true)) (cond i (some (.bool true)) (some (.bool false))))) := by kernel_rfl
def S343 : List AV → Option (List Bool × AV)
  | [.list 2 [[.int .i64 _, .bool f], [.int .i64 _, .bool g]]] => some ([], .bool (f || g))
  | [.list 2 [[.int .i64 _, .bool f], [.int .i64 _, .bool g], [.int .i64 _, .bool h], [.int .i64 _, .bool i]]] => some ([], .bool (f || g || h || i))
  | _ => none
theorem sum343 : SumOk Go.Proofs.Tryz.prog 343 (pureS S343) := pureOk ot1_ok (by
  intro args cs v h _
  unfold S343 at h
  split at h
  · rename_i a f b g
    cases h
    rw [tr343_2]
    cases f <;> cases g <;> rfl
  · rename_i a f b g c h' d i
    cases h
    rw [tr343_4]
    cases f <;> cases g <;> cases h' <;> cases i <;> rfl
  · cases h)

-- values
theorem tr330_1 (a : Int) (f : Bool) : kf 330 ot1 [.list 2 [[.int .i64 a, .bool f]]] = some (.tup [.list 1 [[.int .i64 (sV a)]], .bool (sF a f)]) := by kernel_rfl
theorem tr330_2 (a b : Int) (f g : Bool) : kf 330 ot1 [.list 2 [[.int .i64 a, .bool f], [.int .i64 b, .bool g]]] =
    cond (sF a f) (some (.tup [.list 1 [[.int .i64 (sV a)], [.int .i64 (sV b)]], .bool true])) (some (.tup [.list 1 [[.int .i64 (sV a)], [.int .i64 (sV b)]], .bool (sF b g)])) := by kernel_rfl
theorem tr330_3 (a b c : Int) (f g h : Bool) : kf 330 ot1 [.list 2 [[.int .i64 a, .bool f], [.int .i64 b, .bool g], [.int .i64 c, .bool h]]] =
    cond (sF a f) (some (.tup [.list 1 [[.int .i64 (sV a)], [.int .i64 (sV b)], [.int .i64 (sV c)]], .bool true]))
      (cond (sF b g) (some (.tup [.list 1 [[.int .i64 (sV a)], [.int .i64 (sV b)], [.int .i64 (sV c)]], .bool true])) (some (.tup [.list 1 [[.int .i64 (sV a)], [.int .i64 (sV b)], [.int .i64 (sV c)]], .bool (sF c h)]))) := by kernel_rfl
def S330 : List AV → Option (List Bool × AV)
  | [.list 2 [[.int .i64 a, .bool f]]] => some ([], .tup [.list 1 [[.int .i64 (sV a)]], .bool (sF a f)])
  | [.list 2 [[.int .i64 a, .bool f], [.int .i64 b, .bool g]]] => some ([], .tup [.list 1 [[.int .i64 (sV a)], [.int .i64 (sV b)]], .bool (sF a f || sF b g)])
  | [.list 2 [[.int .i64 a, .bool f], [.int .i64 b, .bool g], [.int .i64 c, .bool h]]] => some ([], .tup [.list 1 [[.int .i64 (sV a)], [.int .i64 (sV b)], [.int .i64 (sV c)]], .bool (sF a f || sF b g || sF c h)])
  | _ => none
theorem sum330 : SumOk Go.Proofs.Tryz.prog 330 (pureS S330) := pureOk ot1_ok (by
  intro args cs v h _
  unfold S330 at h
  split at h
  · cases h; exact tr330_1 _ _
  · rename_i a f b g
    cases h
    rw [tr330_2]
    cases sF a f <;> rfl
  · rename_i a f b g c h'
    cases h
    rw [tr330_3]
    cases sF a f <;> cases sF b g <;> rfl
  · cases h)

-- Neg, Abs
theorem tr339 (a : Int) (f : Bool) : kf 339 ot1 [.agg [.int .i64 a, .bool f]] = some (.agg [.int .i64 (iw (0 - sV a)), .bool (sF a f)]) := by kernel_rfl
def S339 : List AV → Option (List Bool × AV)
  | [.agg [.int .i64 a, .bool f]] => some ([inI a], .agg [.int .i64 (0 - sV a), .bool (sF a f)])
  | _ => none
theorem sum339 : SumOk Go.Proofs.Tryz.prog 339 (pureS S339) := pureOk ot1_ok (by
  intro args cs v h hcs
  unfold S339 at h
  split at h
  · cases h
    obtain ⟨c1, _⟩ := allB_cons hcs
    have := sV_range c1
    rw [tr339, iw_in (by omega) (by omega)]
  · cases h)
theorem tr164 (a : Int) (f : Bool) : kf 164 ot1 [.agg [.int .i64 a, .bool f]] = some (.agg [.int .i64 (if decide (iw (0 - sV a) > sV a) = true then iw (0 - sV a) else sV a), .bool (sF a f)]) := by kernel_rfl
def S164 : List AV → Option (List Bool × AV)
  | [.agg [.int .i64 a, .bool f]] => some ([inI a], .agg [.int .i64 (absI (sV a)), .bool (sF a f)])
  | _ => none
theorem sum164 : SumOk Go.Proofs.Tryz.prog 164 (pureS S164) := pureOk ot1_ok (by
  intro args cs v h hcs
  unfold S164 at h
  split at h
  · cases h
    obtain ⟨c1, _⟩ := allB_cons hcs
    have := sV_range c1
    rw [tr164, iw_in (by omega) (by omega), absI_eq]
    congr 4
    simp only [decide_eq_true_eq]
    split <;> split <;> omega
  · cases h)
end
end Go.VM

namespace Go.VM
open Go
noncomputable def ot2 : OT := (.node (.node (.node (.node (.node (.node .nil none (.node (.node .nil (some (pureS S159)) .nil) none .nil)) none .nil) none (.node .nil none (.node (.node .nil none (.node (.node .nil (some (pureS S343)) .nil) none .nil)) none .nil))) none (.node (.node .nil none (.node (.node .nil none (.node (.node .nil (some (pureS S339)) .nil) none .nil)) none .nil)) none .nil)) none (.node .nil none (.node .nil none (.node .nil none (.node (.node (.node .nil (some (pureS (Scmp .i64))) .nil) none .nil) none .nil))))) none (.node (.node (.node (.node (.node .nil none (.node (.node .nil (some (pureS S160)) .nil) none .nil)) none (.node .nil none (.node (.node .nil none (.node .nil (some (pureS S432)) .nil)) none .nil))) none .nil) none (.node (.node (.node .nil none (.node (.node .nil (some (pureS S164)) .nil) none .nil)) none (.node (.node .nil none (.node (.node .nil (some (pureS S340)) .nil) none .nil)) none .nil)) none .nil)) none (.node (.node (.node (.node .nil none (.node (.node .nil (some (pureS S162)) .nil) none .nil)) none .nil) none (.node (.node (.node .nil none (.node (.node .nil (some (pureS S330)) .nil) none .nil)) none .nil) none .nil)) none (.node (.node .nil none (.node (.node .nil none (.node (.node .nil (some (pureS S342)) .nil) none .nil)) none .nil)) none (.node (.node (.node .nil none (.node .nil none (.node .nil (some (pureS (Scmp .u64))) .nil))) none (.node (.node .nil none (.node .nil (some (pureS S430)) .nil)) none .nil)) none (.node (.node (.node .nil (some (pureS S158)) .nil) none .nil) none .nil))))))
theorem ot2_ok : OTok Go.Proofs.Tryz.prog ot2 := otok_of (l := [(157, (pureS (Scmp .i64))), (158, (pureS S158)), (159, (pureS S159)), (160, (pureS S160)), (162, (pureS S162)), (164, (pureS S164)), (330, (pureS S330)), (339, (pureS S339)), (340, (pureS S340)), (342, (pureS S342)), (343, (pureS S343)), (430, (pureS S430)), (432, (pureS S432)), (462, (pureS (Scmp .u64)))]) ftok (by rfl) (by rfl) (by
  intro p hp
  rcases List.mem_cons.1 hp with rfl | hp
  · exact sum157
  rcases List.mem_cons.1 hp with rfl | hp
  · exact sum158
  rcases List.mem_cons.1 hp with rfl | hp
  · exact sum159
  rcases List.mem_cons.1 hp with rfl | hp
  · exact sum160
  rcases List.mem_cons.1 hp with rfl | hp
  · exact sum162
  rcases List.mem_cons.1 hp with rfl | hp
  · exact sum164
  rcases List.mem_cons.1 hp with rfl | hp
  · exact sum330
  rcases List.mem_cons.1 hp with rfl | hp
  · exact sum339
  rcases List.mem_cons.1 hp with rfl | hp
  · exact sum340
  rcases List.mem_cons.1 hp with rfl | hp
  · exact sum342
  rcases List.mem_cons.1 hp with rfl | hp
  · exact sum343
  rcases List.mem_cons.1 hp with rfl | hp
  · exact sum430
  rcases List.mem_cons.1 hp with rfl | hp
  · exact sum432
  rcases List.mem_cons.1 hp with rfl | hp
  · exact sum462
  cases hp)
end Go.VM

namespace Go.VM
open Go
set_option maxRecDepth 1000000
noncomputable section

-- plus
def addT (n : Bool) (a b c d : Int) : Option AV :=
  some (.agg [.bool n, .int .u64 ((a + c + 0) % 18446744073709551616), .int .u64 ((b + d + (a + c + 0) / 18446744073709551616) % 18446744073709551616)])
def subT (n : Bool) (a b c d : Int) : Option AV :=
  cond (decide (0 ≤ a)) (cond (decide (0 ≤ c)) (cond (decide (c ≤ 18446744073709551615)) (cond (decide (0 ≤ b)) (cond (decide (0 ≤ d)) (cond (decide (0 ≤ cond (decide (a < c + 0)) (1 : Int) 0)) (cond (decide (cond (decide (a < c + 0)) (1 : Int) 0 ≤ 1)) (cond (decide (d ≤ 18446744073709551615))
    (some (.agg [.bool n, .int .u64 ((a + 18446744073709551616 - c - 0) % 18446744073709551616), .int .u64 ((b + 18446744073709551616 - d - cond (decide (a < c + 0)) (1 : Int) 0) % 18446744073709551616)]))
    none) none) none) none) none) none) none) none
theorem tr341 (a b c d : Int) (f g : Bool) : kf 341 ot2 [.agg [.bool f, .int .u64 a, .int .u64 b], .agg [.bool g, .int .u64 c, .int .u64 d]] =
    cond (f == g) (cond (decide (0 ≤ a)) (cond (decide (0 ≤ c)) (cond (decide (0 ≤ b)) (cond (decide (0 ≤ d)) (cond (decide (0 ≤ (a + c + 0) / 18446744073709551616)) (cond (decide ((a + c + 0) / 18446744073709551616 ≤ 1)) (addT f a b c d) none) none) none) none) none) none)
      (cond (decide (cmpW a b c d < 0)) (subT g c d a b) (subT f a b c d)) := by kernel_rfl
def S341 : List AV → Option (List Bool × AV)
  | [.agg [.bool f, .int .u64 a, .int .u64 b], .agg [.bool g, .int .u64 c, .int .u64 d]] =>
    some ([inU a, inU b, inU c, inU d, decide (b < 9223372036854775808), decide (d < 9223372036854775808)],
      .agg [.bool (plusN f (b * 18446744073709551616 + a) g (d * 18446744073709551616 + c)),
        .int .u64 (plusM f (b * 18446744073709551616 + a) g (d * 18446744073709551616 + c) % 18446744073709551616),
        .int .u64 (plusM f (b * 18446744073709551616 + a) g (d * 18446744073709551616 + c) / 18446744073709551616)])
  | _ => none
theorem subT_eq (n : Bool) {a b c d : Int} (ha : 0 ≤ a ∧ a < 18446744073709551616) (hb : 0 ≤ b ∧ b < 18446744073709551616) (hc : 0 ≤ c ∧ c < 18446744073709551616) (hd : 0 ≤ d ∧ d < 18446744073709551616)
    (hle : d * 18446744073709551616 + c ≤ b * 18446744073709551616 + a) :
    subT n a b c d = some (.agg [.bool n, .int .u64 ((b * 18446744073709551616 + a - (d * 18446744073709551616 + c)) % 18446744073709551616), .int .u64 ((b * 18446744073709551616 + a - (d * 18446744073709551616 + c)) / 18446744073709551616)]) := by
  unfold subT
  rw [decide_eq_true ha.1, decide_eq_true hc.1, decide_eq_true (by omega : c ≤ 18446744073709551615), decide_eq_true hb.1, decide_eq_true hd.1, decide_eq_true (by omega : d ≤ 18446744073709551615)]
  simp only [cond_true]
  generalize hq : cond (decide (a < c + 0)) (1 : Int) 0 = q
  have hq2 : (a < c ∧ q = 1) ∨ (¬ a < c ∧ q = 0) := by
    by_cases h : a < c + 0
    · rw [decide_eq_true h, cond_true] at hq; omega
    · rw [decide_eq_false h, cond_false] at hq; omega
  rw [decide_eq_true (by omega : (0 : Int) ≤ q), decide_eq_true (by omega : q ≤ 1), cond_true, cond_true]
  have e1 : (a + 18446744073709551616 - c - 0) % 18446744073709551616 = (b * 18446744073709551616 + a - (d * 18446744073709551616 + c)) % 18446744073709551616 := by omega
  have e2 : (b + 18446744073709551616 - d - q) % 18446744073709551616 = (b * 18446744073709551616 + a - (d * 18446744073709551616 + c)) / 18446744073709551616 := by omega
  rw [e1, e2]
theorem sum341 : SumOk Go.Proofs.Tryz.prog 341 (pureS S341) := pureOk ot2_ok (by
  intro args cs v h hcs
  unfold S341 at h
  split at h
  · rename_i f a b g c d
    cases h
    obtain ⟨c1, hcs⟩ := allB_cons hcs
    obtain ⟨c2, hcs⟩ := allB_cons hcs
    obtain ⟨c3, hcs⟩ := allB_cons hcs
    obtain ⟨c4, hcs⟩ := allB_cons hcs
    obtain ⟨c5, hcs⟩ := allB_cons hcs
    obtain ⟨c6, _⟩ := allB_cons hcs
    rw [inU_iff] at c1 c2 c3 c4
    rw [decide_eq_true_eq] at c5 c6
    rw [tr341]
    unfold plusN plusM
    cases hfg : (f == g) with
    | true =>
      simp only [cond_true]
      rw [decide_eq_true c1.1, decide_eq_true c2.1, decide_eq_true c3.1, decide_eq_true c4.1, decide_eq_true (by omega : 0 ≤ (a + c + 0) / 18446744073709551616), decide_eq_true (by omega : (a + c + 0) / 18446744073709551616 ≤ 1)]
      simp only [cond_true, addT]
      have e1 : (a + c + 0) % 18446744073709551616 = (b * 18446744073709551616 + a + (d * 18446744073709551616 + c)) % 18446744073709551616 := by omega
      have e2 : (b + d + (a + c + 0) / 18446744073709551616) % 18446744073709551616 = (b * 18446744073709551616 + a + (d * 18446744073709551616 + c)) / 18446744073709551616 := by omega
      rw [e1, e2]
    | false =>
      simp only [cond_false]
      have hc : (cmpW a b c d < 0) ↔ (b < d ∨ (b = d ∧ a < c)) := cmpW_neg
      by_cases hlt : b * 18446744073709551616 + a < d * 18446744073709551616 + c
      · rw [decide_eq_true (hc.2 (by omega)), decide_eq_true hlt]
        simp only [cond_true]
        exact subT_eq g c3 c4 c1 c2 (by omega)
      · rw [decide_eq_false (fun hh => hlt (by have := hc.1 hh; omega)), decide_eq_false hlt]
        simp only [cond_false]
        exact subT_eq f c1 c2 c3 c4 (by omega)
  · cases h)

-- Mul
theorem sVI {a : Int} (h : inI a = true) : inI (sV a) = true := by
  have := sV_range h
  rw [inI_iff]; omega
theorem tr264 (a b : Int) (f g : Bool) : kf 264 ot2 [.agg [.int .i64 a, .bool f], .agg [.int .i64 b, .bool g]] =
    cond (inI (sV a)) (cond (inI (sV b)) (cond (inU (absI (sV a) * absI (sV b) % 18446744073709551616)) (cond (inU (absI (sV a) * absI (sV b) / 18446744073709551616))
      (cond (inU (absI (sV a) * absI (sV b) / 18446744073709551616 * 4294967296 % 18446744073709551616 + absI (sV a) * absI (sV b) % 18446744073709551616 / 4294967296))
        (some (.agg [.int .i64 (fitV (decide (sV a < 0) != decide (sV b < 0)) (absI (sV a) * absI (sV b) / 18446744073709551616 * 4294967296 % 18446744073709551616 + absI (sV a) * absI (sV b) % 18446744073709551616 / 4294967296) (absI (sV a) * absI (sV b) / 18446744073709551616 / 4294967296)),
          .bool (fitF (absI (sV a) * absI (sV b) / 18446744073709551616 * 4294967296 % 18446744073709551616 + absI (sV a) * absI (sV b) % 18446744073709551616 / 4294967296) (absI (sV a) * absI (sV b) / 18446744073709551616 / 4294967296) (sF a f || sF b g))]))
        none) none) none) none) none := by kernel_rfl
def S264 : List AV → Option (List Bool × AV)
  | [.agg [.int .i64 a, .bool f], .agg [.int .i64 b, .bool g]] => some ([inI a, inI b], .agg [.int .i64 (zV (mulZ (sV a) (sV b))), .bool (zF (mulZ (sV a) (sV b)) (sF a f || sF b g))])
  | _ => none
theorem prod_hi {x y : Int} (h : inI x = true) (k : inI y = true) : absI x * absI y ≤ 85070591730234615865843651857942052864 := by
  have h1 := abs_range h
  have h2 := abs_range k
  have a1 : absI x * absI y ≤ 9223372036854775808 * absI y := Int.mul_le_mul_of_nonneg_right h1.2 h2.1
  have a2 : 9223372036854775808 * absI y ≤ 9223372036854775808 * 9223372036854775808 := Int.mul_le_mul_of_nonneg_left h2.2 (by omega)
  omega
theorem down_lo (m : Int) : m / 18446744073709551616 * 4294967296 % 18446744073709551616 + m % 18446744073709551616 / 4294967296 = m / 4294967296 % 18446744073709551616 := by omega
theorem down_hi (m : Int) : m / 18446744073709551616 / 4294967296 = m / 4294967296 / 18446744073709551616 := by omega
theorem sum264 : SumOk Go.Proofs.Tryz.prog 264 (pureS S264) := pureOk ot2_ok (by
  intro args cs v h hcs
  unfold S264 at h
  split at h
  · rename_i a f b g
    cases h
    obtain ⟨c1, hcs⟩ := allB_cons hcs
    obtain ⟨c2, _⟩ := allB_cons hcs
    have hm0 := abs_mul_nonneg (sV a) (sV b)
    have hm1 := prod_hi (sVI c1) (sVI c2)
    rw [tr264, condI (sVI c1), condI (sVI c2)]
    unfold mulZ
    generalize absI (sV a) * absI (sV b) = m at hm0 hm1 ⊢
    rw [condI (inU_iff.2 (by omega)), condI (inU_iff.2 (by omega)), condI (inU_iff.2 (by omega)), down_lo, down_hi, fitV_z _ (by omega), fitF_z (decide (sV a < 0) != decide (sV b < 0)) (by omega)]
  · cases h)

-- Cmp, Of, Int
theorem tr80 (a b : Int) (f g : Bool) : kf 80 ot2 [.agg [.int .i64 a, .bool f], .agg [.int .i64 b, .bool g]] = some (.int .i64 (cmpI (sV a) (sV b))) := by kernel_rfl
def S80 : List AV → Option (List Bool × AV)
  | [.agg [.int .i64 a, .bool _], .agg [.int .i64 b, .bool _]] => some ([], .int .i64 (cmpI (sV a) (sV b)))
  | _ => none
theorem sum80 : SumOk Go.Proofs.Tryz.prog 80 (pureS S80) := pureOk ot2_ok (by
  intro args cs v h _
  unfold S80 at h
  split at h
  · cases h; exact tr80 _ _ _ _
  · cases h)
theorem tr425 (a : Int) : kf 425 ot2 [.int .i64 a] = some (.agg [.int .i64 (sV a), .bool (sF a false)]) := by kernel_rfl
def S425 : List AV → Option (List Bool × AV)
  | [.int .i64 a] => some ([], .agg [.int .i64 (sV a), .bool (sF a false)])
  | _ => none
theorem sum425 : SumOk Go.Proofs.Tryz.prog 425 (pureS S425) := pureOk ot2_ok (by
  intro args cs v h _
  unfold S425 at h
  split at h
  · cases h; exact tr425 _
  · cases h)
theorem tr347 (a : Int) : kf 347 ot2 [.int .i64 a] = cond (inI a) (cond (inU (absI a)) (cond (inU 0) (cond (inU (absI a * 4294967296 % 18446744073709551616))
    (some (.agg [.int .i64 (fitV (decide (a < 0)) (absI a * 4294967296 % 18446744073709551616) (0 * 4294967296 % 18446744073709551616 + absI a / 4294967296)),
      .bool (fitF (absI a * 4294967296 % 18446744073709551616) (0 * 4294967296 % 18446744073709551616 + absI a / 4294967296) false)])) none) none) none) none := by kernel_rfl
def S347 : List AV → Option (List Bool × AV)
  | [.int .i64 a] => some ([inI a], .agg [.int .i64 (zV (a * 4294967296)), .bool (zF (a * 4294967296) false)])
  | _ => none
theorem sum347 : SumOk Go.Proofs.Tryz.prog 347 (pureS S347) := pureOk ot2_ok (by
  intro args cs v h hcs
  unfold S347 at h
  split at h
  · rename_i a
    cases h
    obtain ⟨c1, _⟩ := allB_cons hcs
    have ha := abs_range c1
    have e0 : absI a * 4294967296 % 18446744073709551616 = absI a * 4294967296 % 18446744073709551616 := rfl
    have e1 : (0 : Int) * 4294967296 % 18446744073709551616 + absI a / 4294967296 = absI a * 4294967296 / 18446744073709551616 := by omega
    have e2 : sgn (decide (a < 0)) (absI a * 4294967296) = a * 4294967296 := by
      have := sgn_abs a
      unfold sgn at this ⊢
      cases hd : decide (a < 0) <;> rw [hd] at this <;> simp only [cond_true, cond_false] at this ⊢ <;> omega
    rw [tr347, condI c1, condI (abs_inU c1), condI (by rfl), condI (inU_iff.2 (by omega)), e1, fitV_z _ (by omega), fitF_z (decide (a < 0)) (by omega), e2]
  · cases h)

-- extreme
def exO (o a b : Int) : Int := cond (decide (iw (cmpI b a * o) < 0)) b a
theorem tr331_0 (o a : Int) : kf 331 ot2 [.int .i64 o, .int .i64 a, .list 1 []] = some (.int .i64 a) := by kernel_rfl
theorem tr331_1 (o a b : Int) : kf 331 ot2 [.int .i64 o, .int .i64 a, .list 1 [[.int .i64 b]]] = cond (decide (iw (cmpI b a * o) < 0)) (some (.int .i64 b)) (some (.int .i64 a)) := by kernel_rfl
theorem tr331_2 (o a b c : Int) : kf 331 ot2 [.int .i64 o, .int .i64 a, .list 1 [[.int .i64 b], [.int .i64 c]]] = cond (decide (iw (cmpI b a * o) < 0)) (cond (decide (iw (cmpI c b * o) < 0)) (some (.int .i64 c)) (some (.int .i64 b))) (cond (decide (iw (cmpI c a * o) < 0)) (some (.int .i64 c)) (some (.int .i64 a))) := by kernel_rfl
def S331 : List AV → Option (List Bool × AV)
  | [.int .i64 _, .int .i64 a, .list 1 []] => some ([], .int .i64 a)
  | [.int .i64 o, .int .i64 a, .list 1 [[.int .i64 b]]] => some ([], .int .i64 (exO o a b))
  | [.int .i64 o, .int .i64 a, .list 1 [[.int .i64 b], [.int .i64 c]]] => some ([], .int .i64 (exO o (exO o a b) c))
  | _ => none
theorem sum331 : SumOk Go.Proofs.Tryz.prog 331 (pureS S331) := pureOk ot2_ok (by
  intro args cs v h _
  unfold S331 at h
  split at h
  · cases h; exact tr331_0 _ _
  · rename_i o a b
    cases h
    rw [tr331_1]
    unfold exO
    cases decide (iw (cmpI b a * o) < 0) <;> rfl
  · rename_i o a b c
    cases h
    rw [tr331_2]
    cases hd : decide (iw (cmpI b a * o) < 0) with
    | true =>
      have e1 : exO o a b = b := by unfold exO; rw [hd]; rfl
      rw [e1, cond_true]; unfold exO; cases decide (iw (cmpI c b * o) < 0) <;> rfl
    | false =>
      have e1 : exO o a b = a := by unfold exO; rw [hd]; rfl
      rw [e1, cond_false]; unfold exO; cases decide (iw (cmpI c a * o) < 0) <;> rfl
  · cases h)
end
end Go.VM

namespace Go.VM
open Go
noncomputable def ot3 : OT := (.node (.node (.node (.node (.node (.node .nil none (.node (.node .nil (some (pureS S159)) .nil) none .nil)) none .nil) none (.node .nil none (.node (.node .nil none (.node (.node .nil (some (pureS S343)) .nil) none .nil)) none .nil))) none (.node (.node .nil none (.node (.node .nil none (.node (.node .nil (some (pureS S339)) .nil) none .nil)) none .nil)) none (.node (.node (.node .nil none (.node (.node .nil (some (pureS S331)) .nil) none .nil)) none .nil) none (.node (.node .nil none (.node (.node .nil (some (pureS S347)) .nil) none .nil)) none .nil)))) none (.node (.node .nil none (.node (.node .nil none (.node (.node .nil none (.node .nil (some (pureS S425)) .nil)) none .nil)) none .nil)) none (.node (.node .nil none (.node (.node .nil none (.node (.node .nil (some (pureS S341)) .nil) none .nil)) none .nil)) none (.node .nil none (.node (.node (.node .nil (some (pureS (Scmp .i64))) .nil) none .nil) none .nil))))) none (.node (.node (.node (.node (.node .nil none (.node (.node .nil (some (pureS S160)) .nil) none .nil)) none (.node (.node .nil (some (pureS S80)) .nil) none (.node (.node .nil none (.node .nil (some (pureS S432)) .nil)) none .nil))) none (.node (.node (.node (.node (.node .nil (some (pureS S264)) .nil) none .nil) none .nil) none .nil) none .nil)) none (.node (.node (.node .nil none (.node (.node .nil (some (pureS S164)) .nil) none .nil)) none (.node (.node .nil none (.node (.node .nil (some (pureS S340)) .nil) none .nil)) none .nil)) none .nil)) none (.node (.node (.node (.node .nil none (.node (.node .nil (some (pureS S162)) .nil) none .nil)) none .nil) none (.node (.node (.node .nil none (.node (.node .nil (some (pureS S330)) .nil) none .nil)) none .nil) none .nil)) none (.node (.node .nil none (.node (.node .nil none (.node (.node .nil (some (pureS S342)) .nil) none .nil)) none .nil)) none (.node (.node (.node .nil none (.node .nil none (.node .nil (some (pureS (Scmp .u64))) .nil))) none (.node (.node .nil none (.node .nil (some (pureS S430)) .nil)) none .nil)) none (.node (.node (.node .nil (some (pureS S158)) .nil) none .nil) none .nil))))))
theorem ot3_ok : OTok Go.Proofs.Tryz.prog ot3 := otok_of (l := [(80, (pureS S80)), (157, (pureS (Scmp .i64))), (158, (pureS S158)), (159, (pureS S159)), (160, (pureS S160)), (162, (pureS S162)), (164, (pureS S164)), (264, (pureS S264)), (330, (pureS S330)), (331, (pureS S331)), (339, (pureS S339)), (340, (pureS S340)), (341, (pureS S341)), (342, (pureS S342)), (343, (pureS S343)), (347, (pureS S347)), (425, (pureS S425)), (430, (pureS S430)), (432, (pureS S432)), (462, (pureS (Scmp .u64)))]) ftok (by rfl) (by rfl) (by
  intro p hp
  rcases List.mem_cons.1 hp with rfl | hp
  · exact sum80
  rcases List.mem_cons.1 hp with rfl | hp
  · exact sum157
  rcases List.mem_cons.1 hp with rfl | hp
  · exact sum158
  rcases List.mem_cons.1 hp with rfl | hp
  · exact sum159
  rcases List.mem_cons.1 hp with rfl | hp
  · exact sum160
  rcases List.mem_cons.1 hp with rfl | hp
  · exact sum162
  rcases List.mem_cons.1 hp with rfl | hp
  · exact sum164
  rcases List.mem_cons.1 hp with rfl | hp
  · exact sum264
  rcases List.mem_cons.1 hp with rfl | hp
  · exact sum330
  rcases List.mem_cons.1 hp with rfl | hp
  · exact sum331
  rcases List.mem_cons.1 hp with rfl | hp
  · exact sum339
  rcases List.mem_cons.1 hp with rfl | hp
  · exact sum340
  rcases List.mem_cons.1 hp with rfl | hp
  · exact sum341
  rcases List.mem_cons.1 hp with rfl | hp
  · exact sum342
  rcases List.mem_cons.1 hp with rfl | hp
  · exact sum343
  rcases List.mem_cons.1 hp with rfl | hp
  · exact sum347
  rcases List.mem_cons.1 hp with rfl | hp
  · exact sum425
  rcases List.mem_cons.1 hp with rfl | hp
  · exact sum430
  rcases List.mem_cons.1 hp with rfl | hp
  · exact sum432
  rcases List.mem_cons.1 hp with rfl | hp
  · exact sum462
  cases hp)
end Go.VM

namespace Go.VM
open Go
set_option maxRecDepth 1000000
noncomputable section

/-- Words of a size, and back. -/
def wl (m : Int) : Int := m % 18446744073709551616
def wh (m : Int) : Int := m / 18446744073709551616
def wm (lo hi : Int) : Int := hi * 18446744073709551616 + lo
theorem wm_eq (m : Int) : wm (wl m) (wh m) = m := by unfold wm wl wh; omega
theorem wm_0 (m : Int) : wm m 0 = m := by unfold wm; omega
theorem wl_U {m : Int} : inU (wl m) = true := by rw [inU_iff]; unfold wl; omega
theorem wh_U {m : Int} (h : 0 ≤ m) (k : m < 340282366920938463463374607431768211456) : inU (wh m) = true := by rw [inU_iff]; unfold wh; omega
theorem wh_lt {m : Int} (h : 0 ≤ m) (k : m < 170141183460469231731687303715884105728) : decide (wh m < 9223372036854775808) = true := decide_eq_true (by unfold wh; omega)
theorem fitV_w (neg : Bool) {m : Int} (h : 0 ≤ m) : fitV neg (wl m) (wh m) = zV (sgn neg m) := fitV_z neg h
theorem fitF_w (neg : Bool) {m : Int} (h : 0 ≤ m) (f : Bool) : fitF (wl m) (wh m) f = zF (sgn neg m) f := fitF_z neg h f

/-- Running sums. -/
def rN (n : Bool) (m : Int) (a : Int) : Bool := plusN n m (decide (a < 0)) (absI a)
def rM (n : Bool) (m : Int) (a : Int) : Int := plusM n m (decide (a < 0)) (absI a)
theorem r_sgn (n : Bool) (m a : Int) : sgn (rN n m a) (rM n m a) = sgn n m + a := by
  unfold rN rM; rw [plus_sgn, sgn_abs]
theorem abs0 (a : Int) : 0 ≤ absI a := by
  rw [absI_eq]; split <;> omega
theorem r_nn {n : Bool} {m : Int} (h : 0 ≤ m) (a : Int) : 0 ≤ rM n m a ∧ rM n m a ≤ m + absI a := plusM_nonneg h (abs0 a)

def qM1 (x : Int) : Int := plusM false (wm 0 0) (decide (x < 0)) (wm (absI x) 0)
def qN1 (x : Int) : Bool := plusN false (wm 0 0) (decide (x < 0)) (wm (absI x) 0)
def qM (n : Bool) (m x : Int) : Int := plusM n (wm (wl m) (wh m)) (decide (x < 0)) (wm (absI x) 0)
def qN (n : Bool) (m x : Int) : Bool := plusN n (wm (wl m) (wh m)) (decide (x < 0)) (wm (absI x) 0)
theorem qM1_eq (x : Int) : qM1 x = rM false 0 x := by unfold qM1 rM; rw [wm_0, wm_0]
theorem qN1_eq (x : Int) : qN1 x = rN false 0 x := by unfold qN1 rN; rw [wm_0, wm_0]
theorem qM_eq (n : Bool) (m x : Int) : qM n m x = rM n m x := by unfold qM rM; rw [wm_0, wm_eq]
theorem qN_eq (n : Bool) (m x : Int) : qN n m x = rN n m x := by unfold qN rN; rw [wm_0, wm_eq]

theorem tr250_1 (a : Int) (f : Bool) : kf 250 ot3 [.list 2 [[.int .i64 a, .bool f]]] =
    cond (inI (sV a)) (cond (inU (absI (sV a))) (cond (inU (wl (qM1 (sV a))))
      (some (.agg [.int .i64 (fitV (qN1 (sV a)) (wl (qM1 (sV a))) (wh (qM1 (sV a)))), .bool (fitF (wl (qM1 (sV a))) (wh (qM1 (sV a))) (sF a f))])) none) none) none := by kernel_rfl
theorem tr250_2 (a b : Int) (f g : Bool) : kf 250 ot3 [.list 2 [[.int .i64 a, .bool f], [.int .i64 b, .bool g]]] =
    cond (inI (sV a)) (cond (inU (absI (sV a)))
      (cond (inI (sV b)) (cond (inU (wl (qM1 (sV a)))) (cond (inU (wh (qM1 (sV a)))) (cond (inU (absI (sV b))) (cond (decide (wh (qM1 (sV a)) < 9223372036854775808))
        (cond (inU (wl (qM (qN1 (sV a)) (qM1 (sV a)) (sV b))))
          (some (.agg [.int .i64 (fitV (qN (qN1 (sV a)) (qM1 (sV a)) (sV b)) (wl (qM (qN1 (sV a)) (qM1 (sV a)) (sV b))) (wh (qM (qN1 (sV a)) (qM1 (sV a)) (sV b)))),
            .bool (fitF (wl (qM (qN1 (sV a)) (qM1 (sV a)) (sV b))) (wh (qM (qN1 (sV a)) (qM1 (sV a)) (sV b))) (sF a f || sF b g))])) none) none) none) none) none) none) none) none := by kernel_rfl
theorem tr250_3 (a b c : Int) (f g h : Bool) : kf 250 ot3 [.list 2 [[.int .i64 a, .bool f], [.int .i64 b, .bool g], [.int .i64 c, .bool h]]] =
    cond (inI (sV a)) (cond (inU (absI (sV a)))
      (cond (inI (sV b)) (cond (inU (wl (qM1 (sV a)))) (cond (inU (wh (qM1 (sV a)))) (cond (inU (absI (sV b))) (cond (decide (wh (qM1 (sV a)) < 9223372036854775808))
        (cond (inI (sV c)) (cond (inU (wl (qM (qN1 (sV a)) (qM1 (sV a)) (sV b)))) (cond (inU (wh (qM (qN1 (sV a)) (qM1 (sV a)) (sV b)))) (cond (inU (absI (sV c))) (cond (decide (wh (qM (qN1 (sV a)) (qM1 (sV a)) (sV b)) < 9223372036854775808))
        (cond (inU (wl (qM (qN (qN1 (sV a)) (qM1 (sV a)) (sV b)) (qM (qN1 (sV a)) (qM1 (sV a)) (sV b)) (sV c))))
          (some (.agg [.int .i64 (fitV (qN (qN (qN1 (sV a)) (qM1 (sV a)) (sV b)) (qM (qN1 (sV a)) (qM1 (sV a)) (sV b)) (sV c)) (wl (qM (qN (qN1 (sV a)) (qM1 (sV a)) (sV b)) (qM (qN1 (sV a)) (qM1 (sV a)) (sV b)) (sV c))) (wh (qM (qN (qN1 (sV a)) (qM1 (sV a)) (sV b)) (qM (qN1 (sV a)) (qM1 (sV a)) (sV b)) (sV c)))),
            .bool (fitF (wl (qM (qN (qN1 (sV a)) (qM1 (sV a)) (sV b)) (qM (qN1 (sV a)) (qM1 (sV a)) (sV b)) (sV c))) (wh (qM (qN (qN1 (sV a)) (qM1 (sV a)) (sV b)) (qM (qN1 (sV a)) (qM1 (sV a)) (sV b)) (sV c))) (sF a f || sF b g || sF c h))])) none) none) none) none) none) none) none) none) none) none) none) none) none := by kernel_rfl

def S250 : List AV → Option (List Bool × AV)
  | [.list 2 [[.int .i64 a, .bool f]]] => some ([inI a], .agg [.int .i64 (sV a), .bool (sF a f)])
  | [.list 2 [[.int .i64 a, .bool f], [.int .i64 b, .bool g]]] => some ([inI a, inI b], .agg [.int .i64 (zV (sV a + sV b)), .bool (zF (sV a + sV b) (sF a f || sF b g))])
  | [.list 2 [[.int .i64 a, .bool f], [.int .i64 b, .bool g], [.int .i64 c, .bool h]]] => some ([inI a, inI b, inI c], .agg [.int .i64 (zV (sV a + sV b + sV c)), .bool (zF (sV a + sV b + sV c) (sF a f || sF b g || sF c h))])
  | _ => none

theorem sV_abs {a : Int} (h : inI a = true) : 0 ≤ absI (sV a) ∧ absI (sV a) ≤ 9223372036854775807 := by
  have := sV_range h
  rw [absI_eq]; split <;> omega

theorem sgn0 (n : Bool) : sgn n 0 = 0 := by cases n <;> rfl

theorem sum250 : SumOk Go.Proofs.Tryz.prog 250 (pureS S250) := pureOk ot3_ok (by
  intro args cs v h hcs
  unfold S250 at h
  split at h
  · rename_i a f
    cases h
    obtain ⟨c1, _⟩ := allB_cons hcs
    have ra := sV_abs c1
    have r1 := @r_nn false 0 (by omega) (sV a)
    have s1 := sV_range c1
    rw [tr250_1, condI (sVI c1), condI (inU_iff.2 (by omega)), condI wl_U, qM1_eq, qN1_eq, fitV_w _ r1.1, fitF_w (rN false 0 (sV a)) r1.1, r_sgn, sgn0, Int.zero_add, zV_in s1.1 s1.2, zF_in s1.1 s1.2]
  · rename_i a f b g
    cases h
    obtain ⟨c1, hcs⟩ := allB_cons hcs
    obtain ⟨c2, _⟩ := allB_cons hcs
    have ra := sV_abs c1
    have rb := sV_abs c2
    have r1 := @r_nn false 0 (by omega) (sV a)
    have r2 := @r_nn (rN false 0 (sV a)) _ r1.1 (sV b)
    rw [tr250_2, qM1_eq, qN1_eq, qM_eq, qN_eq, condI (sVI c1), condI (inU_iff.2 (by omega)), condI (sVI c2), condI wl_U, condI (wh_U r1.1 (by omega)), condI (inU_iff.2 (by omega)), condI (wh_lt r1.1 (by omega)), condI wl_U,
      fitV_w _ r2.1, fitF_w (rN (rN false 0 (sV a)) (rM false 0 (sV a)) (sV b)) r2.1, r_sgn, r_sgn, sgn0, Int.zero_add]
  · rename_i a f b g c h
    cases h
    obtain ⟨c1, hcs⟩ := allB_cons hcs
    obtain ⟨c2, hcs⟩ := allB_cons hcs
    obtain ⟨c3, _⟩ := allB_cons hcs
    have ra := sV_abs c1
    have rb := sV_abs c2
    have rc := sV_abs c3
    have r1 := @r_nn false 0 (by omega) (sV a)
    have r2 := @r_nn (rN false 0 (sV a)) _ r1.1 (sV b)
    have r3 := @r_nn (rN (rN false 0 (sV a)) (rM false 0 (sV a)) (sV b)) _ r2.1 (sV c)
    simp only [tr250_3, qM1_eq, qN1_eq, qM_eq, qN_eq]
    rw [condI (sVI c1), condI (inU_iff.2 (by omega)), condI (sVI c2), condI wl_U, condI (wh_U r1.1 (by omega)), condI (inU_iff.2 (by omega)), condI (wh_lt r1.1 (by omega)),
      condI (sVI c3), condI wl_U, condI (wh_U r2.1 (by omega)), condI (inU_iff.2 (by omega)), condI (wh_lt r2.1 (by omega)), condI wl_U,
      fitV_w _ r3.1, fitF_w (rN (rN (rN false 0 (sV a)) (rM false 0 (sV a)) (sV b)) (rM (rN false 0 (sV a)) (rM false 0 (sV a)) (sV b)) (sV c)) r3.1, r_sgn, r_sgn, r_sgn, sgn0, Int.zero_add]
  · cases h)

-- most, of two
theorem tr244_2 (o a b : Int) (f g : Bool) : kf 244 ot3 [.int .i64 o, .list 2 [[.int .i64 a, .bool f], [.int .i64 b, .bool g]]] = some (.agg [.int .i64 (exO o (sV a) (sV b)), .bool (sF a f || sF b g)]) := by kernel_rfl
theorem tr244_3 (o a b c : Int) (f g h : Bool) : kf 244 ot3 [.int .i64 o, .list 2 [[.int .i64 a, .bool f], [.int .i64 b, .bool g], [.int .i64 c, .bool h]]] = some (.agg [.int .i64 (exO o (exO o (sV a) (sV b)) (sV c)), .bool (sF a f || sF b g || sF c h)]) := by kernel_rfl
def S244 : List AV → Option (List Bool × AV)
  | [.int .i64 o, .list 2 [[.int .i64 a, .bool f], [.int .i64 b, .bool g]]] => some ([], .agg [.int .i64 (exO o (sV a) (sV b)), .bool (sF a f || sF b g)])
  | [.int .i64 o, .list 2 [[.int .i64 a, .bool f], [.int .i64 b, .bool g], [.int .i64 c, .bool h]]] => some ([], .agg [.int .i64 (exO o (exO o (sV a) (sV b)) (sV c)), .bool (sF a f || sF b g || sF c h)])
  | _ => none
theorem sum244 : SumOk Go.Proofs.Tryz.prog 244 (pureS S244) := pureOk ot3_ok (by
  intro args cs v h _
  unfold S244 at h
  split at h
  · cases h; exact tr244_2 _ _ _ _ _
  · cases h; exact tr244_3 _ _ _ _ _ _ _
  · cases h)

/-- The lesser and the greater. -/
def mnI (a b : Int) : Int := cond (decide (b < a)) b a
def mxI (a b : Int) : Int := cond (decide (a < b)) b a
theorem exO_1 (a b : Int) : exO 1 a b = mnI a b := by
  unfold exO mnI
  congr 1
  have : iw (cmpI b a * 1) = cmpI b a := by
    rw [Int.mul_one]; unfold cmpI
    by_cases h : b < a
    · rw [decide_eq_true h]; rfl
    · rw [decide_eq_false h]; by_cases k : b > a
      · rw [decide_eq_true k]; rfl
      · rw [decide_eq_false k]; rfl
  rw [this]
  exact decide_eq_decide.2 cmpI_neg
theorem exO_m1 (a b : Int) : exO (-1) a b = mxI a b := by
  unfold exO mxI
  congr 1
  apply decide_eq_decide.2
  unfold cmpI
  by_cases h : b < a
  · rw [decide_eq_true h, cond_true, show iw (-1 * -1) = 1 by rfl]; omega
  · rw [decide_eq_false h, cond_false]; by_cases k : b > a
    · rw [decide_eq_true k, cond_true, show iw (1 * -1) = -1 by rfl]; omega
    · rw [decide_eq_false k, cond_false, show iw (0 * -1) = 0 by rfl]; omega
end
end Go.VM

namespace Go.VM
open Go
set_option maxRecDepth 1000000
noncomputable section

def dN (a b c d : Int) : Bool := plusN (decide (a < 0) != decide (b < 0)) (wm (wl (absI a * absI b)) (wh (absI a * absI b))) (decide (c < 0) != decide (d < 0)) (wm (wl (absI c * absI d)) (wh (absI c * absI d)))
def dM (a b c d : Int) : Int := plusM (decide (a < 0) != decide (b < 0)) (wm (wl (absI a * absI b)) (wh (absI a * absI b))) (decide (c < 0) != decide (d < 0)) (wm (wl (absI c * absI d)) (wh (absI c * absI d)))
def dnl (m : Int) : Int := wh m * 4294967296 % 18446744073709551616 + wl m / 4294967296
def dnh (m : Int) : Int := wh m / 4294967296
theorem tr249 (a b c d : Int) (f g h i : Bool) : kf 249 ot3 [.agg [.int .i64 a, .bool f], .agg [.int .i64 b, .bool g], .agg [.int .i64 c, .bool h], .agg [.int .i64 d, .bool i]] =
    cond (inI (sV a)) (cond (inI (sV b)) (cond (inI (sV c)) (cond (inI (sV d))
      (cond (inU (wl (absI (sV a) * absI (sV b)))) (cond (inU (wh (absI (sV a) * absI (sV b)))) (cond (inU (wl (absI (sV c) * absI (sV d)))) (cond (inU (wh (absI (sV c) * absI (sV d))))
        (cond (decide (wh (absI (sV a) * absI (sV b)) < 9223372036854775808)) (cond (decide (wh (absI (sV c) * absI (sV d)) < 9223372036854775808))
          (cond (inU (wl (dM (sV a) (sV b) (sV c) (sV d)))) (cond (inU (wh (dM (sV a) (sV b) (sV c) (sV d)))) (cond (inU (dnl (dM (sV a) (sV b) (sV c) (sV d))))
            (some (.agg [.int .i64 (fitV (dN (sV a) (sV b) (sV c) (sV d)) (dnl (dM (sV a) (sV b) (sV c) (sV d))) (dnh (dM (sV a) (sV b) (sV c) (sV d)))),
              .bool (fitF (dnl (dM (sV a) (sV b) (sV c) (sV d))) (dnh (dM (sV a) (sV b) (sV c) (sV d))) (sF a f || sF b g || sF c h || sF d i))]))
            none) none) none) none) none) none) none) none) none) none) none) none) none := by kernel_rfl
/-- a*b + c*d in fixed point. -/
def dotZ (a b c d : Int) : Int := sgn (plusN (decide (a < 0) != decide (b < 0)) (absI a * absI b) (decide (c < 0) != decide (d < 0)) (absI c * absI d)) (plusM (decide (a < 0) != decide (b < 0)) (absI a * absI b) (decide (c < 0) != decide (d < 0)) (absI c * absI d) / 4294967296)
def S249 : List AV → Option (List Bool × AV)
  | [.agg [.int .i64 a, .bool f], .agg [.int .i64 b, .bool g], .agg [.int .i64 c, .bool h], .agg [.int .i64 d, .bool i]] =>
    some ([inI a, inI b, inI c, inI d], .agg [.int .i64 (zV (dotZ (sV a) (sV b) (sV c) (sV d))), .bool (zF (dotZ (sV a) (sV b) (sV c) (sV d)) (sF a f || sF b g || sF c h || sF d i))])
  | _ => none
theorem dnl_eq (m : Int) : dnl m = wl (m / 4294967296) := by unfold dnl wh wl; omega
theorem dnh_eq (m : Int) : dnh m = wh (m / 4294967296) := by unfold dnh wh; omega
theorem sum249 : SumOk Go.Proofs.Tryz.prog 249 (pureS S249) := pureOk ot3_ok (by
  intro args cs v hh hcs
  unfold S249 at hh
  split at hh
  · rename_i a f b g c h d i
    cases hh
    obtain ⟨c1, hcs⟩ := allB_cons hcs
    obtain ⟨c2, hcs⟩ := allB_cons hcs
    obtain ⟨c3, hcs⟩ := allB_cons hcs
    obtain ⟨c4, _⟩ := allB_cons hcs
    rw [tr249, condI (sVI c1), condI (sVI c2), condI (sVI c3), condI (sVI c4)]
    have p0 := abs_mul_nonneg (sV a) (sV b)
    have p1 := prod_hi (sVI c1) (sVI c2)
    have q0 := abs_mul_nonneg (sV c) (sV d)
    have q1 := prod_hi (sVI c3) (sVI c4)
    unfold dotZ dM dN
    generalize absI (sV a) * absI (sV b) = m at p0 p1 ⊢
    generalize absI (sV c) * absI (sV d) = k at q0 q1 ⊢
    have r := @plusM_nonneg (decide (sV a < 0) != decide (sV b < 0)) m (decide (sV c < 0) != decide (sV d < 0)) k p0 q0
    rw [wm_eq, wm_eq]
    generalize plusM (decide (sV a < 0) != decide (sV b < 0)) m (decide (sV c < 0) != decide (sV d < 0)) k = s at r ⊢
    generalize plusN (decide (sV a < 0) != decide (sV b < 0)) m (decide (sV c < 0) != decide (sV d < 0)) k = n
    rw [condI wl_U, condI (wh_U p0 (by omega)), condI wl_U, condI (wh_U q0 (by omega)), condI (wh_lt p0 (by omega)), condI (wh_lt q0 (by omega)), condI wl_U, condI (wh_U r.1 (by omega)), dnl_eq, dnh_eq, condI wl_U,
      fitV_w _ (by omega), fitF_w n (by omega)]
  · cases hh)
end
end Go.VM

namespace Go.VM
open Go
noncomputable def ot4 : OT := (.node (.node (.node (.node (.node (.node .nil none (.node (.node .nil (some (pureS S159)) .nil) none .nil)) none .nil) none (.node .nil none (.node (.node .nil none (.node (.node .nil (some (pureS S343)) .nil) none .nil)) none .nil))) none (.node (.node .nil none (.node (.node .nil none (.node (.node .nil (some (pureS S339)) .nil) none .nil)) none .nil)) none (.node (.node (.node .nil none (.node (.node .nil (some (pureS S331)) .nil) none .nil)) none .nil) none (.node (.node .nil none (.node (.node .nil (some (pureS S347)) .nil) none .nil)) none .nil)))) none (.node (.node .nil none (.node (.node .nil none (.node (.node .nil none (.node .nil (some (pureS S425)) .nil)) none .nil)) none (.node .nil none (.node .nil none (.node .nil (some (pureS S249)) .nil))))) none (.node (.node .nil none (.node (.node .nil none (.node (.node .nil (some (pureS S341)) .nil) none .nil)) none .nil)) none (.node .nil none (.node (.node (.node .nil (some (pureS (Scmp .i64))) .nil) none .nil) none .nil))))) none (.node (.node (.node (.node (.node .nil none (.node (.node .nil (some (pureS S160)) .nil) none .nil)) none (.node (.node .nil (some (pureS S80)) .nil) none (.node (.node .nil none (.node .nil (some (pureS S432)) .nil)) none .nil))) none (.node (.node (.node (.node (.node .nil (some (pureS S264)) .nil) none .nil) none .nil) none .nil) none .nil)) none (.node (.node (.node .nil none (.node (.node .nil (some (pureS S164)) .nil) none .nil)) none (.node (.node .nil none (.node (.node .nil (some (pureS S340)) .nil) none .nil)) none (.node .nil none (.node .nil (some (pureS S244)) .nil)))) none .nil)) none (.node (.node (.node (.node .nil none (.node (.node .nil (some (pureS S162)) .nil) none .nil)) none .nil) none (.node (.node (.node .nil none (.node (.node .nil (some (pureS S330)) .nil) none .nil)) none .nil) none (.node .nil none (.node .nil none (.node .nil (some (pureS S250)) .nil))))) none (.node (.node .nil none (.node (.node .nil none (.node (.node .nil (some (pureS S342)) .nil) none .nil)) none .nil)) none (.node (.node (.node .nil none (.node .nil none (.node .nil (some (pureS (Scmp .u64))) .nil))) none (.node (.node .nil none (.node .nil (some (pureS S430)) .nil)) none .nil)) none (.node (.node (.node .nil (some (pureS S158)) .nil) none .nil) none .nil))))))
theorem ot4_ok : OTok Go.Proofs.Tryz.prog ot4 := otok_of (l := [(80, (pureS S80)), (157, (pureS (Scmp .i64))), (158, (pureS S158)), (159, (pureS S159)), (160, (pureS S160)), (162, (pureS S162)), (164, (pureS S164)), (244, (pureS S244)), (249, (pureS S249)), (250, (pureS S250)), (264, (pureS S264)), (330, (pureS S330)), (331, (pureS S331)), (339, (pureS S339)), (340, (pureS S340)), (341, (pureS S341)), (342, (pureS S342)), (343, (pureS S343)), (347, (pureS S347)), (425, (pureS S425)), (430, (pureS S430)), (432, (pureS S432)), (462, (pureS (Scmp .u64)))]) ftok (by rfl) (by rfl) (by
  intro p hp
  rcases List.mem_cons.1 hp with rfl | hp
  · exact sum80
  rcases List.mem_cons.1 hp with rfl | hp
  · exact sum157
  rcases List.mem_cons.1 hp with rfl | hp
  · exact sum158
  rcases List.mem_cons.1 hp with rfl | hp
  · exact sum159
  rcases List.mem_cons.1 hp with rfl | hp
  · exact sum160
  rcases List.mem_cons.1 hp with rfl | hp
  · exact sum162
  rcases List.mem_cons.1 hp with rfl | hp
  · exact sum164
  rcases List.mem_cons.1 hp with rfl | hp
  · exact sum244
  rcases List.mem_cons.1 hp with rfl | hp
  · exact sum249
  rcases List.mem_cons.1 hp with rfl | hp
  · exact sum250
  rcases List.mem_cons.1 hp with rfl | hp
  · exact sum264
  rcases List.mem_cons.1 hp with rfl | hp
  · exact sum330
  rcases List.mem_cons.1 hp with rfl | hp
  · exact sum331
  rcases List.mem_cons.1 hp with rfl | hp
  · exact sum339
  rcases List.mem_cons.1 hp with rfl | hp
  · exact sum340
  rcases List.mem_cons.1 hp with rfl | hp
  · exact sum341
  rcases List.mem_cons.1 hp with rfl | hp
  · exact sum342
  rcases List.mem_cons.1 hp with rfl | hp
  · exact sum343
  rcases List.mem_cons.1 hp with rfl | hp
  · exact sum347
  rcases List.mem_cons.1 hp with rfl | hp
  · exact sum425
  rcases List.mem_cons.1 hp with rfl | hp
  · exact sum430
  rcases List.mem_cons.1 hp with rfl | hp
  · exact sum432
  rcases List.mem_cons.1 hp with rfl | hp
  · exact sum462
  cases hp)
end Go.VM

namespace Go.VM
open Go
set_option maxRecDepth 1000000
noncomputable section

theorem sV_neg {a : Int} (h : inI a = true) : sV (0 - sV a) = 0 - sV a := by
  have := sV_range h
  generalize sV a = x at this ⊢
  unfold sV
  have e : (0 - x == -9223372036854775808) = false := by
    simp only [beq_eq_false_iff_ne]; omega
  rw [e, cond_false]
theorem sF_neg {a : Int} (h : inI a = true) (f : Bool) : sF (0 - sV a) f = f := by
  have := sV_range h
  generalize sV a = x at this ⊢
  unfold sF
  have e : (0 - x == -9223372036854775808) = false := by
    simp only [beq_eq_false_iff_ne]; omega
  rw [e, cond_false]
theorem neg_I {a : Int} (h : inI a = true) : inI (0 - sV a) = true := by
  have := sV_range h
  rw [inI_iff]; omega

theorem tr362 (a b : Int) (f g : Bool) : kf 362 ot4 [.agg [.int .i64 a, .bool f], .agg [.int .i64 b, .bool g]] =
    cond (inI b) (cond (inI a) (cond (inI (0 - sV b)) (some (.agg [.int .i64 (zV (sV a + sV (0 - sV b))), .bool (zF (sV a + sV (0 - sV b)) (sF a f || sF (0 - sV b) (sF b g)))])) none) none) none := by kernel_rfl
def S362 : List AV → Option (List Bool × AV)
  | [.agg [.int .i64 a, .bool f], .agg [.int .i64 b, .bool g]] => some ([inI a, inI b], .agg [.int .i64 (zV (sV a - sV b)), .bool (zF (sV a - sV b) (sF a f || sF b g))])
  | _ => none
theorem sum362 : SumOk Go.Proofs.Tryz.prog 362 (pureS S362) := pureOk ot4_ok (by
  intro args cs v h hcs
  unfold S362 at h
  split at h
  · rename_i a f b g
    cases h
    obtain ⟨c1, hcs⟩ := allB_cons hcs
    obtain ⟨c2, _⟩ := allB_cons hcs
    rw [tr362, condI c2, condI c1, condI (neg_I c2), sV_neg c2, sF_neg c2]
    have e : sV a + (0 - sV b) = sV a - sV b := by omega
    rw [e]
  · cases h)

theorem tr271 (a b : Int) (f g : Bool) : kf 271 ot4 [.agg [.int .i64 a, .bool f], .agg [.int .i64 b, .bool g]] =
    cond (inI a) (cond (inI b) (some (.agg [.int .i64 (zV (sV a + sV b)), .bool (zF (sV a + sV b) (sF a f || sF b g))])) none) none := by kernel_rfl
def S271 : List AV → Option (List Bool × AV)
  | [.agg [.int .i64 a, .bool f], .agg [.int .i64 b, .bool g]] => some ([inI a, inI b], .agg [.int .i64 (zV (sV a + sV b)), .bool (zF (sV a + sV b) (sF a f || sF b g))])
  | _ => none
theorem sum271 : SumOk Go.Proofs.Tryz.prog 271 (pureS S271) := pureOk ot4_ok (by
  intro args cs v h hcs
  unfold S271 at h
  split at h
  · cases h
    obtain ⟨c1, hcs⟩ := allB_cons hcs
    obtain ⟨c2, _⟩ := allB_cons hcs
    rw [tr271, condI c1, condI c2]
  · cases h)

theorem tr163 (a b : Int) (f g : Bool) : kf 163 ot4 [.list 2 [[.int .i64 a, .bool f], [.int .i64 b, .bool g]]] = some (.agg [.int .i64 (exO (-1) (sV a) (sV b)), .bool (sF a f || sF b g)]) := by kernel_rfl
def S163 : List AV → Option (List Bool × AV)
  | [.list 2 [[.int .i64 a, .bool f], [.int .i64 b, .bool g]]] => some ([], .agg [.int .i64 (mxI (sV a) (sV b)), .bool (sF a f || sF b g)])
  | _ => none
theorem sum163 : SumOk Go.Proofs.Tryz.prog 163 (pureS S163) := pureOk ot4_ok (by
  intro args cs v h _
  unfold S163 at h
  split at h
  · cases h; rw [tr163, exO_m1]
  · cases h)
theorem tr435 (a b : Int) (f g : Bool) : kf 435 ot4 [.list 2 [[.int .i64 a, .bool f], [.int .i64 b, .bool g]]] = some (.agg [.int .i64 (exO 1 (sV a) (sV b)), .bool (sF a f || sF b g)]) := by kernel_rfl
def S435 : List AV → Option (List Bool × AV)
  | [.list 2 [[.int .i64 a, .bool f], [.int .i64 b, .bool g]]] => some ([], .agg [.int .i64 (mnI (sV a) (sV b)), .bool (sF a f || sF b g)])
  | _ => none
theorem sum435 : SumOk Go.Proofs.Tryz.prog 435 (pureS S435) := pureOk ot4_ok (by
  intro args cs v h _
  unfold S435 at h
  split at h
  · cases h; rw [tr435, exO_1]
  · cases h)
theorem sV_id {a : Int} (h : -9223372036854775807 ≤ a) : sV a = a := by
  unfold sV
  have e : (a == -9223372036854775808) = false := by
    simp only [beq_eq_false_iff_ne]; omega
  rw [e, cond_false]
theorem sF_id {a : Int} (h : -9223372036854775807 ≤ a) (f : Bool) : sF a f = f := by
  unfold sF
  have e : (a == -9223372036854775808) = false := by
    simp only [beq_eq_false_iff_ne]; omega
  rw [e, cond_false]
theorem mnI_lo {a b m : Int} (h : m ≤ a) (k : m ≤ b) : m ≤ mnI a b := by
  unfold mnI; cases decide (b < a) <;> assumption
theorem mxI_lo {a b m : Int} (h : m ≤ a) (k : m ≤ b) : m ≤ mxI a b := by
  unfold mxI; cases decide (a < b) <;> assumption

theorem tr352 (a b c : Int) (f g h : Bool) : kf 352 ot4 [.agg [.int .i64 a, .bool f], .agg [.int .i64 b, .bool g], .agg [.int .i64 c, .bool h]] =
    some (.agg [.int .i64 (exO (-1) (sV b) (sV (exO 1 (sV a) (sV c)))), .bool (sF b g || sF (exO 1 (sV a) (sV c)) (sF a f || sF c h))]) := by kernel_rfl
def S352 : List AV → Option (List Bool × AV)
  | [.agg [.int .i64 a, .bool f], .agg [.int .i64 b, .bool g], .agg [.int .i64 c, .bool h]] => some ([inI a, inI c], .agg [.int .i64 (mxI (sV b) (mnI (sV a) (sV c))), .bool (sF b g || (sF a f || sF c h))])
  | _ => none
theorem sum352 : SumOk Go.Proofs.Tryz.prog 352 (pureS S352) := pureOk ot4_ok (by
  intro args cs v h hcs
  unfold S352 at h
  split at h
  · cases h
    obtain ⟨c1, hcs⟩ := allB_cons hcs
    obtain ⟨c2, _⟩ := allB_cons hcs
    have h1 := sV_range c1
    have h2 := sV_range c2
    rw [tr352, exO_1, exO_m1, sV_id (mnI_lo h1.1 h2.1), sF_id (mnI_lo h1.1 h2.1)]
  · cases h)

-- solid: way, cross, dot, turn
theorem tr346 (a b c d : Int) : kf 346 ot4 [.agg [.int .i64 a, .int .i64 b], .agg [.int .i64 c, .int .i64 d]] = some (.agg [.int .i64 (iw (c - a)), .int .i64 (iw (d - b))]) := by kernel_rfl
def S346 : List AV → Option (List Bool × AV)
  | [.agg [.int .i64 a, .int .i64 b], .agg [.int .i64 c, .int .i64 d]] => some ([], .agg [.int .i64 (iw (c - a)), .int .i64 (iw (d - b))])
  | _ => none
theorem sum346 : SumOk Go.Proofs.Tryz.prog 346 (pureS S346) := pureOk ot4_ok (by
  intro args cs v h _
  unfold S346 at h
  split at h
  · cases h; exact tr346 _ _ _ _
  · cases h)
theorem tr345 (a b c d : Int) : kf 345 ot4 [.agg [.int .i64 a, .int .i64 b], .agg [.int .i64 c, .int .i64 d]] = some (.int .i64 (iw (iw (a * d) - iw (b * c)))) := by kernel_rfl
def S345 : List AV → Option (List Bool × AV)
  | [.agg [.int .i64 a, .int .i64 b], .agg [.int .i64 c, .int .i64 d]] => some ([], .int .i64 (iw (iw (a * d) - iw (b * c))))
  | _ => none
theorem sum345 : SumOk Go.Proofs.Tryz.prog 345 (pureS S345) := pureOk ot4_ok (by
  intro args cs v h _
  unfold S345 at h
  split at h
  · cases h; exact tr345 _ _ _ _
  · cases h)
theorem tr386 (a b c d : Int) : kf 386 ot4 [.agg [.int .i64 a, .int .i64 b], .agg [.int .i64 c, .int .i64 d]] = some (.int .i64 (iw (iw (a * c) + iw (b * d)))) := by kernel_rfl
def S386 : List AV → Option (List Bool × AV)
  | [.agg [.int .i64 a, .int .i64 b], .agg [.int .i64 c, .int .i64 d]] => some ([], .int .i64 (iw (iw (a * c) + iw (b * d))))
  | _ => none
theorem sum386 : SumOk Go.Proofs.Tryz.prog 386 (pureS S386) := pureOk ot4_ok (by
  intro args cs v h _
  unfold S386 at h
  split at h
  · cases h; exact tr386 _ _ _ _
  · cases h)
theorem tr258 (a b c d e f : Int) : kf 258 ot4 [.agg [.int .i64 a, .int .i64 b], .agg [.int .i64 c, .int .i64 d], .agg [.int .i64 e, .int .i64 f]] =
    some (.int .i64 (iw (iw (iw (c - a) * iw (f - b)) - iw (iw (d - b) * iw (e - a))))) := by kernel_rfl
def S258 : List AV → Option (List Bool × AV)
  | [.agg [.int .i64 a, .int .i64 b], .agg [.int .i64 c, .int .i64 d], .agg [.int .i64 e, .int .i64 f]] => some ([], .int .i64 (iw (iw (iw (c - a) * iw (f - b)) - iw (iw (d - b) * iw (e - a)))))
  | _ => none
theorem sum258 : SumOk Go.Proofs.Tryz.prog 258 (pureS S258) := pureOk ot4_ok (by
  intro args cs v h _
  unfold S258 at h
  split at h
  · cases h; exact tr258 _ _ _ _ _ _
  · cases h)

-- Round
theorem tr348 (a : Int) (f : Bool) : kf 348 ot4 [.agg [.int .i64 a, .bool f]] =
    cond (decide (IntKind.u32.wrap (sV a) ≥ 2147483648)) (some (.int .i64 (iw (shr (sV a) 32 + 1)))) (some (.int .i64 (shr (sV a) 32))) := by kernel_rfl
/-- The next whole number. -/
def rndI (x : Int) : Int := (x + 2147483648) / 4294967296
def S348 : List AV → Option (List Bool × AV)
  | [.agg [.int .i64 a, .bool _]] => some ([inI a], .int .i64 (rndI (sV a)))
  | _ => none
theorem sum348 : SumOk Go.Proofs.Tryz.prog 348 (pureS S348) := pureOk ot4_ok (by
  intro args cs v h hcs
  unfold S348 at h
  split at h
  · rename_i a f
    cases h
    obtain ⟨c1, _⟩ := allB_cons hcs
    have h1 := sV_range c1
    have e1 : IntKind.u32.wrap (sV a) = sV a % 4294967296 := by
      generalize sV a = x
      simp [IntKind.wrap, IntKind.signed, IntKind.bits]
    rw [tr348, e1, shr_32]
    unfold rndI
    by_cases hq : sV a % 4294967296 ≥ 2147483648
    · rw [decide_eq_true hq, cond_true, iw_in (by omega) (by omega)]
      congr 2; omega
    · rw [decide_eq_false hq, cond_false]
      congr 2; omega
  · cases h)
end
end Go.VM

namespace Go.VM
open Go
noncomputable def ot5 : OT := (.node (.node (.node (.node (.node (.node .nil none (.node (.node .nil (some (pureS S159)) .nil) none .nil)) none (.node (.node (.node (.node .nil (some (pureS S271)) .nil) none .nil) none .nil) none .nil)) none (.node .nil none (.node (.node .nil none (.node (.node .nil (some (pureS S343)) .nil) none .nil)) none .nil))) none (.node (.node (.node .nil none (.node (.node .nil (some (pureS S163)) .nil) none .nil)) none (.node (.node .nil none (.node (.node .nil (some (pureS S339)) .nil) none .nil)) none (.node (.node .nil none (.node .nil (some (pureS S435)) .nil)) none .nil))) none (.node (.node (.node .nil none (.node (.node .nil (some (pureS S331)) .nil) none .nil)) none .nil) none (.node (.node .nil none (.node (.node .nil (some (pureS S347)) .nil) none .nil)) none .nil)))) none (.node (.node .nil none (.node (.node .nil none (.node (.node .nil none (.node .nil (some (pureS S425)) .nil)) none .nil)) none (.node (.node .nil none (.node (.node .nil (some (pureS S345)) .nil) none .nil)) none (.node .nil none (.node .nil (some (pureS S249)) .nil))))) none (.node (.node .nil none (.node (.node .nil none (.node (.node .nil (some (pureS S341)) .nil) none .nil)) none .nil)) none (.node .nil none (.node (.node (.node .nil (some (pureS (Scmp .i64))) .nil) none .nil) none .nil))))) none (.node (.node (.node (.node (.node .nil none (.node (.node .nil (some (pureS S160)) .nil) none (.node (.node .nil (some (pureS S352)) .nil) none .nil))) none (.node (.node .nil (some (pureS S80)) .nil) none (.node (.node .nil none (.node .nil (some (pureS S432)) .nil)) none .nil))) none (.node (.node (.node (.node (.node .nil (some (pureS S264)) .nil) none .nil) none .nil) none .nil) none .nil)) none (.node (.node (.node .nil none (.node (.node .nil (some (pureS S164)) .nil) none .nil)) none (.node (.node .nil none (.node (.node .nil (some (pureS S340)) .nil) none .nil)) none (.node .nil none (.node .nil (some (pureS S244)) .nil)))) none (.node .nil none (.node (.node .nil none (.node (.node .nil (some (pureS S348)) .nil) none .nil)) none .nil)))) none (.node (.node (.node (.node (.node (.node (.node .nil (some (pureS S258)) .nil) none (.node .nil (some (pureS S386)) .nil)) none .nil) none (.node (.node .nil (some (pureS S162)) .nil) none .nil)) none .nil) none (.node (.node (.node .nil none (.node (.node .nil (some (pureS S330)) .nil) none .nil)) none (.node .nil none (.node (.node .nil (some (pureS S362)) .nil) none .nil))) none (.node (.node .nil none (.node (.node .nil (some (pureS S346)) .nil) none .nil)) none (.node .nil none (.node .nil (some (pureS S250)) .nil))))) none (.node (.node .nil none (.node (.node .nil none (.node (.node .nil (some (pureS S342)) .nil) none .nil)) none .nil)) none (.node (.node (.node .nil none (.node .nil none (.node .nil (some (pureS (Scmp .u64))) .nil))) none (.node (.node .nil none (.node .nil (some (pureS S430)) .nil)) none .nil)) none (.node (.node (.node .nil (some (pureS S158)) .nil) none .nil) none .nil))))))
theorem ot5_ok : OTok Go.Proofs.Tryz.prog ot5 := otok_of (l := [(80, (pureS S80)), (157, (pureS (Scmp .i64))), (158, (pureS S158)), (159, (pureS S159)), (160, (pureS S160)), (162, (pureS S162)), (163, (pureS S163)), (164, (pureS S164)), (244, (pureS S244)), (249, (pureS S249)), (250, (pureS S250)), (258, (pureS S258)), (264, (pureS S264)), (271, (pureS S271)), (330, (pureS S330)), (331, (pureS S331)), (339, (pureS S339)), (340, (pureS S340)), (341, (pureS S341)), (342, (pureS S342)), (343, (pureS S343)), (345, (pureS S345)), (346, (pureS S346)), (347, (pureS S347)), (348, (pureS S348)), (352, (pureS S352)), (362, (pureS S362)), (386, (pureS S386)), (425, (pureS S425)), (430, (pureS S430)), (432, (pureS S432)), (435, (pureS S435)), (462, (pureS (Scmp .u64)))]) ftok (by rfl) (by rfl) (by
  intro p hp
  rcases List.mem_cons.1 hp with rfl | hp
  · exact sum80
  rcases List.mem_cons.1 hp with rfl | hp
  · exact sum157
  rcases List.mem_cons.1 hp with rfl | hp
  · exact sum158
  rcases List.mem_cons.1 hp with rfl | hp
  · exact sum159
  rcases List.mem_cons.1 hp with rfl | hp
  · exact sum160
  rcases List.mem_cons.1 hp with rfl | hp
  · exact sum162
  rcases List.mem_cons.1 hp with rfl | hp
  · exact sum163
  rcases List.mem_cons.1 hp with rfl | hp
  · exact sum164
  rcases List.mem_cons.1 hp with rfl | hp
  · exact sum244
  rcases List.mem_cons.1 hp with rfl | hp
  · exact sum249
  rcases List.mem_cons.1 hp with rfl | hp
  · exact sum250
  rcases List.mem_cons.1 hp with rfl | hp
  · exact sum258
  rcases List.mem_cons.1 hp with rfl | hp
  · exact sum264
  rcases List.mem_cons.1 hp with rfl | hp
  · exact sum271
  rcases List.mem_cons.1 hp with rfl | hp
  · exact sum330
  rcases List.mem_cons.1 hp with rfl | hp
  · exact sum331
  rcases List.mem_cons.1 hp with rfl | hp
  · exact sum339
  rcases List.mem_cons.1 hp with rfl | hp
  · exact sum340
  rcases List.mem_cons.1 hp with rfl | hp
  · exact sum341
  rcases List.mem_cons.1 hp with rfl | hp
  · exact sum342
  rcases List.mem_cons.1 hp with rfl | hp
  · exact sum343
  rcases List.mem_cons.1 hp with rfl | hp
  · exact sum345
  rcases List.mem_cons.1 hp with rfl | hp
  · exact sum346
  rcases List.mem_cons.1 hp with rfl | hp
  · exact sum347
  rcases List.mem_cons.1 hp with rfl | hp
  · exact sum348
  rcases List.mem_cons.1 hp with rfl | hp
  · exact sum352
  rcases List.mem_cons.1 hp with rfl | hp
  · exact sum362
  rcases List.mem_cons.1 hp with rfl | hp
  · exact sum386
  rcases List.mem_cons.1 hp with rfl | hp
  · exact sum425
  rcases List.mem_cons.1 hp with rfl | hp
  · exact sum430
  rcases List.mem_cons.1 hp with rfl | hp
  · exact sum432
  rcases List.mem_cons.1 hp with rfl | hp
  · exact sum435
  rcases List.mem_cons.1 hp with rfl | hp
  · exact sum462
  cases hp)
end Go.VM

namespace Go.VM
open Go
set_option maxRecDepth 1000000
noncomputable section

-- plane: Sub, Scale, Cross, Add
theorem tr350 (a b c d : Int) (f g h i : Bool) : kf 350 ot5 [.agg [.int .i64 a, .bool f, .int .i64 b, .bool g], .agg [.int .i64 c, .bool h, .int .i64 d, .bool i]] =
    cond (inI a) (cond (inI c) (cond (inI b) (cond (inI d)
      (some (.agg [.int .i64 (zV (sV a - sV c)), .bool (zF (sV a - sV c) (sF a f || sF c h)), .int .i64 (zV (sV b - sV d)), .bool (zF (sV b - sV d) (sF b g || sF d i))])) none) none) none) none := by kernel_rfl
def S350 : List AV → Option (List Bool × AV)
  | [.agg [.int .i64 a, .bool f, .int .i64 b, .bool g], .agg [.int .i64 c, .bool h, .int .i64 d, .bool i]] =>
    some ([inI a, inI c, inI b, inI d], .agg [.int .i64 (zV (sV a - sV c)), .bool (zF (sV a - sV c) (sF a f || sF c h)), .int .i64 (zV (sV b - sV d)), .bool (zF (sV b - sV d) (sF b g || sF d i))])
  | _ => none
theorem sum350 : SumOk Go.Proofs.Tryz.prog 350 (pureS S350) := pureOk ot5_ok (by
  intro args cs v hh hcs
  unfold S350 at hh
  split at hh
  · cases hh
    obtain ⟨c1, hcs⟩ := allB_cons hcs
    obtain ⟨c2, hcs⟩ := allB_cons hcs
    obtain ⟨c3, hcs⟩ := allB_cons hcs
    obtain ⟨c4, _⟩ := allB_cons hcs
    rw [tr350, condI c1, condI c2, condI c3, condI c4]
  · cases hh)

theorem tr269 (a b c : Int) (f g h : Bool) : kf 269 ot5 [.agg [.int .i64 a, .bool f, .int .i64 b, .bool g], .agg [.int .i64 c, .bool h]] =
    cond (inI a) (cond (inI c) (cond (inI b) (cond (inI c)
      (some (.agg [.int .i64 (zV (mulZ (sV a) (sV c))), .bool (zF (mulZ (sV a) (sV c)) (sF a f || sF c h)), .int .i64 (zV (mulZ (sV b) (sV c))), .bool (zF (mulZ (sV b) (sV c)) (sF b g || sF c h))])) none) none) none) none := by kernel_rfl
def S269 : List AV → Option (List Bool × AV)
  | [.agg [.int .i64 a, .bool f, .int .i64 b, .bool g], .agg [.int .i64 c, .bool h]] =>
    some ([inI a, inI c, inI b], .agg [.int .i64 (zV (mulZ (sV a) (sV c))), .bool (zF (mulZ (sV a) (sV c)) (sF a f || sF c h)), .int .i64 (zV (mulZ (sV b) (sV c))), .bool (zF (mulZ (sV b) (sV c)) (sF b g || sF c h))])
  | _ => none
theorem sum269 : SumOk Go.Proofs.Tryz.prog 269 (pureS S269) := pureOk ot5_ok (by
  intro args cs v hh hcs
  unfold S269 at hh
  split at hh
  · cases hh
    obtain ⟨c1, hcs⟩ := allB_cons hcs
    obtain ⟨c2, hcs⟩ := allB_cons hcs
    obtain ⟨c3, _⟩ := allB_cons hcs
    rw [tr269, condI c1, condI c2, condI c3, condI c2]
  · cases hh)

theorem tr265 (a b c d : Int) (f g h i : Bool) : kf 265 ot5 [.agg [.int .i64 a, .bool f, .int .i64 b, .bool g], .agg [.int .i64 c, .bool h, .int .i64 d, .bool i]] =
    cond (inI b) (cond (inI a) (cond (inI d) (cond (inI (0 - sV b)) (cond (inI c)
      (some (.agg [.int .i64 (zV (dotZ (sV a) (sV d) (sV (0 - sV b)) (sV c))), .bool (zF (dotZ (sV a) (sV d) (sV (0 - sV b)) (sV c)) (sF a f || sF d i || sF (0 - sV b) (sF b g) || sF c h))])) none) none) none) none) none := by kernel_rfl
def S265 : List AV → Option (List Bool × AV)
  | [.agg [.int .i64 a, .bool f, .int .i64 b, .bool g], .agg [.int .i64 c, .bool h, .int .i64 d, .bool i]] =>
    some ([inI a, inI b, inI c, inI d], .agg [.int .i64 (zV (dotZ (sV a) (sV d) (0 - sV b) (sV c))), .bool (zF (dotZ (sV a) (sV d) (0 - sV b) (sV c)) (sF a f || sF d i || sF b g || sF c h))])
  | _ => none
theorem sum265 : SumOk Go.Proofs.Tryz.prog 265 (pureS S265) := pureOk ot5_ok (by
  intro args cs v hh hcs
  unfold S265 at hh
  split at hh
  · cases hh
    obtain ⟨c1, hcs⟩ := allB_cons hcs
    obtain ⟨c2, hcs⟩ := allB_cons hcs
    obtain ⟨c3, hcs⟩ := allB_cons hcs
    obtain ⟨c4, _⟩ := allB_cons hcs
    rw [tr265, condI c2, condI c1, condI c4, condI (neg_I c2), condI c3, sV_neg c2, sF_neg c2]
  · cases hh)

theorem tr268_2 (a b c d : Int) (f g h i : Bool) : kf 268 ot5 [.list 4 [[.int .i64 a, .bool f, .int .i64 b, .bool g], [.int .i64 c, .bool h, .int .i64 d, .bool i]]] =
    cond (inI a) (cond (inI c) (cond (inI b) (cond (inI d)
      (some (.agg [.int .i64 (zV (sV a + sV c)), .bool (zF (sV a + sV c) (sF a f || sF c h)), .int .i64 (zV (sV b + sV d)), .bool (zF (sV b + sV d) (sF b g || sF d i))])) none) none) none) none := by kernel_rfl
theorem tr268_3 (a b c d j k : Int) (f g h i m n : Bool) : kf 268 ot5 [.list 4 [[.int .i64 a, .bool f, .int .i64 b, .bool g], [.int .i64 c, .bool h, .int .i64 d, .bool i], [.int .i64 j, .bool m, .int .i64 k, .bool n]]] =
    cond (inI a) (cond (inI c) (cond (inI j) (cond (inI b) (cond (inI d) (cond (inI k)
      (some (.agg [.int .i64 (zV (sV a + sV c + sV j)), .bool (zF (sV a + sV c + sV j) (sF a f || sF c h || sF j m)), .int .i64 (zV (sV b + sV d + sV k)), .bool (zF (sV b + sV d + sV k) (sF b g || sF d i || sF k n))])) none) none) none) none) none) none := by kernel_rfl
def S268 : List AV → Option (List Bool × AV)
  | [.list 4 [[.int .i64 a, .bool f, .int .i64 b, .bool g], [.int .i64 c, .bool h, .int .i64 d, .bool i]]] =>
    some ([inI a, inI c, inI b, inI d], .agg [.int .i64 (zV (sV a + sV c)), .bool (zF (sV a + sV c) (sF a f || sF c h)), .int .i64 (zV (sV b + sV d)), .bool (zF (sV b + sV d) (sF b g || sF d i))])
  | [.list 4 [[.int .i64 a, .bool f, .int .i64 b, .bool g], [.int .i64 c, .bool h, .int .i64 d, .bool i], [.int .i64 j, .bool m, .int .i64 k, .bool n]]] =>
    some ([inI a, inI c, inI j, inI b, inI d, inI k], .agg [.int .i64 (zV (sV a + sV c + sV j)), .bool (zF (sV a + sV c + sV j) (sF a f || sF c h || sF j m)), .int .i64 (zV (sV b + sV d + sV k)), .bool (zF (sV b + sV d + sV k) (sF b g || sF d i || sF k n))])
  | _ => none
theorem sum268 : SumOk Go.Proofs.Tryz.prog 268 (pureS S268) := pureOk ot5_ok (by
  intro args cs v hh hcs
  unfold S268 at hh
  split at hh
  · cases hh
    obtain ⟨c1, hcs⟩ := allB_cons hcs
    obtain ⟨c2, hcs⟩ := allB_cons hcs
    obtain ⟨c3, hcs⟩ := allB_cons hcs
    obtain ⟨c4, _⟩ := allB_cons hcs
    rw [tr268_2, condI c1, condI c2, condI c3, condI c4]
  · cases hh
    obtain ⟨c1, hcs⟩ := allB_cons hcs
    obtain ⟨c2, hcs⟩ := allB_cons hcs
    obtain ⟨c3, hcs⟩ := allB_cons hcs
    obtain ⟨c4, hcs⟩ := allB_cons hcs
    obtain ⟨c5, hcs⟩ := allB_cons hcs
    obtain ⟨c6, _⟩ := allB_cons hcs
    rw [tr268_3, condI c1, condI c2, condI c3, condI c4, condI c5, condI c6]
  · cases hh)
end
end Go.VM

namespace Go.VM
open Go
set_option maxRecDepth 1000000
noncomputable section
-- Max, of two or three
theorem tr163b_3 (a b c : Int) (f g h : Bool) : kf 163 ot4 [.list 2 [[.int .i64 a, .bool f], [.int .i64 b, .bool g], [.int .i64 c, .bool h]]] = some (.agg [.int .i64 (exO (-1) (exO (-1) (sV a) (sV b)) (sV c)), .bool (sF a f || sF b g || sF c h)]) := by kernel_rfl
theorem tr163b_2' (a b : Int) (f g : Bool) : kf 163 ot4 [.list 2 [[.int .i64 a, .bool f], [.int .i64 b, .bool g]]] = some (.agg [.int .i64 (exO (-1) (sV a) (sV b)), .bool (sF a f || sF b g)]) := by kernel_rfl
def S163b : List AV → Option (List Bool × AV)
  | [.list 2 [[.int .i64 a, .bool f], [.int .i64 b, .bool g]]] => some ([], .agg [.int .i64 (mxI (sV a) (sV b)), .bool (sF a f || sF b g)])
  | [.list 2 [[.int .i64 a, .bool f], [.int .i64 b, .bool g], [.int .i64 c, .bool h]]] => some ([], .agg [.int .i64 (mxI (mxI (sV a) (sV b)) (sV c)), .bool (sF a f || sF b g || sF c h)])
  | _ => none
theorem sum163b : SumOk Go.Proofs.Tryz.prog 163 (pureS S163b) := pureOk ot4_ok (by
  intro args cs v h _
  unfold S163b at h
  split at h
  · cases h; rw [tr163b_2', exO_m1]
  · cases h; rw [tr163b_3, exO_m1, exO_m1]
  · cases h)
end
end Go.VM

