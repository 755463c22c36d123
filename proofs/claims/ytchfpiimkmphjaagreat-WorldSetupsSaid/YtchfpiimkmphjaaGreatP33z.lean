/- A part of the proof: P33z. No condition. -/
import Derived.Test.YtchfpiimkmphjaaGreatP33a
import Derived.Test.YtchfpiimkmphjaaGreatP33b
import Derived.Test.YtchfpiimkmphjaaGreatP33c
import Derived.Test.YtchfpiimkmphjaaGreatP33d
namespace Go.VM
open Go
set_option maxRecDepth 1000000
noncomputable section
theorem q33 (a b c n it : Int) (f g h : Bool) (N2 : Nat) (xx : Bool) (bo : AV) (o4 o5 o6 : AO) (hn : 1 ≤ n ∧ n ≤ 64) : k33 a b c n it f g h n.toNat N2 xx bo (rep n.toNat row0) o4 o5 o6 = some (.str (strB (wBytes a b c n it n.toNat))) := by
  match n, hn with
  | .ofNat 1, _ => exact q33_1 a b c it f g h N2 xx bo o4 o5 o6
  | .ofNat 2, _ => exact q33_2 a b c it f g h N2 xx bo o4 o5 o6
  | .ofNat 3, _ => exact q33_3 a b c it f g h N2 xx bo o4 o5 o6
  | .ofNat 4, _ => exact q33_4 a b c it f g h N2 xx bo o4 o5 o6
  | .ofNat 5, _ => exact q33_5 a b c it f g h N2 xx bo o4 o5 o6
  | .ofNat 6, _ => exact q33_6 a b c it f g h N2 xx bo o4 o5 o6
  | .ofNat 7, _ => exact q33_7 a b c it f g h N2 xx bo o4 o5 o6
  | .ofNat 8, _ => exact q33_8 a b c it f g h N2 xx bo o4 o5 o6
  | .ofNat 9, _ => exact q33_9 a b c it f g h N2 xx bo o4 o5 o6
  | .ofNat 10, _ => exact q33_10 a b c it f g h N2 xx bo o4 o5 o6
  | .ofNat 11, _ => exact q33_11 a b c it f g h N2 xx bo o4 o5 o6
  | .ofNat 12, _ => exact q33_12 a b c it f g h N2 xx bo o4 o5 o6
  | .ofNat 13, _ => exact q33_13 a b c it f g h N2 xx bo o4 o5 o6
  | .ofNat 14, _ => exact q33_14 a b c it f g h N2 xx bo o4 o5 o6
  | .ofNat 15, _ => exact q33_15 a b c it f g h N2 xx bo o4 o5 o6
  | .ofNat 16, _ => exact q33_16 a b c it f g h N2 xx bo o4 o5 o6
  | .ofNat 17, _ => exact q33_17 a b c it f g h N2 xx bo o4 o5 o6
  | .ofNat 18, _ => exact q33_18 a b c it f g h N2 xx bo o4 o5 o6
  | .ofNat 19, _ => exact q33_19 a b c it f g h N2 xx bo o4 o5 o6
  | .ofNat 20, _ => exact q33_20 a b c it f g h N2 xx bo o4 o5 o6
  | .ofNat 21, _ => exact q33_21 a b c it f g h N2 xx bo o4 o5 o6
  | .ofNat 22, _ => exact q33_22 a b c it f g h N2 xx bo o4 o5 o6
  | .ofNat 23, _ => exact q33_23 a b c it f g h N2 xx bo o4 o5 o6
  | .ofNat 24, _ => exact q33_24 a b c it f g h N2 xx bo o4 o5 o6
  | .ofNat 25, _ => exact q33_25 a b c it f g h N2 xx bo o4 o5 o6
  | .ofNat 26, _ => exact q33_26 a b c it f g h N2 xx bo o4 o5 o6
  | .ofNat 27, _ => exact q33_27 a b c it f g h N2 xx bo o4 o5 o6
  | .ofNat 28, _ => exact q33_28 a b c it f g h N2 xx bo o4 o5 o6
  | .ofNat 29, _ => exact q33_29 a b c it f g h N2 xx bo o4 o5 o6
  | .ofNat 30, _ => exact q33_30 a b c it f g h N2 xx bo o4 o5 o6
  | .ofNat 31, _ => exact q33_31 a b c it f g h N2 xx bo o4 o5 o6
  | .ofNat 32, _ => exact q33_32 a b c it f g h N2 xx bo o4 o5 o6
  | .ofNat 33, _ => exact q33_33 a b c it f g h N2 xx bo o4 o5 o6
  | .ofNat 34, _ => exact q33_34 a b c it f g h N2 xx bo o4 o5 o6
  | .ofNat 35, _ => exact q33_35 a b c it f g h N2 xx bo o4 o5 o6
  | .ofNat 36, _ => exact q33_36 a b c it f g h N2 xx bo o4 o5 o6
  | .ofNat 37, _ => exact q33_37 a b c it f g h N2 xx bo o4 o5 o6
  | .ofNat 38, _ => exact q33_38 a b c it f g h N2 xx bo o4 o5 o6
  | .ofNat 39, _ => exact q33_39 a b c it f g h N2 xx bo o4 o5 o6
  | .ofNat 40, _ => exact q33_40 a b c it f g h N2 xx bo o4 o5 o6
  | .ofNat 41, _ => exact q33_41 a b c it f g h N2 xx bo o4 o5 o6
  | .ofNat 42, _ => exact q33_42 a b c it f g h N2 xx bo o4 o5 o6
  | .ofNat 43, _ => exact q33_43 a b c it f g h N2 xx bo o4 o5 o6
  | .ofNat 44, _ => exact q33_44 a b c it f g h N2 xx bo o4 o5 o6
  | .ofNat 45, _ => exact q33_45 a b c it f g h N2 xx bo o4 o5 o6
  | .ofNat 46, _ => exact q33_46 a b c it f g h N2 xx bo o4 o5 o6
  | .ofNat 47, _ => exact q33_47 a b c it f g h N2 xx bo o4 o5 o6
  | .ofNat 48, _ => exact q33_48 a b c it f g h N2 xx bo o4 o5 o6
  | .ofNat 49, _ => exact q33_49 a b c it f g h N2 xx bo o4 o5 o6
  | .ofNat 50, _ => exact q33_50 a b c it f g h N2 xx bo o4 o5 o6
  | .ofNat 51, _ => exact q33_51 a b c it f g h N2 xx bo o4 o5 o6
  | .ofNat 52, _ => exact q33_52 a b c it f g h N2 xx bo o4 o5 o6
  | .ofNat 53, _ => exact q33_53 a b c it f g h N2 xx bo o4 o5 o6
  | .ofNat 54, _ => exact q33_54 a b c it f g h N2 xx bo o4 o5 o6
  | .ofNat 55, _ => exact q33_55 a b c it f g h N2 xx bo o4 o5 o6
  | .ofNat 56, _ => exact q33_56 a b c it f g h N2 xx bo o4 o5 o6
  | .ofNat 57, _ => exact q33_57 a b c it f g h N2 xx bo o4 o5 o6
  | .ofNat 58, _ => exact q33_58 a b c it f g h N2 xx bo o4 o5 o6
  | .ofNat 59, _ => exact q33_59 a b c it f g h N2 xx bo o4 o5 o6
  | .ofNat 60, _ => exact q33_60 a b c it f g h N2 xx bo o4 o5 o6
  | .ofNat 61, _ => exact q33_61 a b c it f g h N2 xx bo o4 o5 o6
  | .ofNat 62, _ => exact q33_62 a b c it f g h N2 xx bo o4 o5 o6
  | .ofNat 63, _ => exact q33_63 a b c it f g h N2 xx bo o4 o5 o6
  | .ofNat 64, _ => exact q33_64 a b c it f g h N2 xx bo o4 o5 o6
  | .ofNat 0, h2 => exact absurd h2.1 (by decide)
  | .ofNat (m + 65), h2 => have h3 := h2.2; rw [Int.ofNat_eq_natCast] at h3; omega
  | .negSucc m, h2 => have := h2.1; omega
def W0 (a b c n it : Int) : ByteArray := strB (wBytes a b c n it n.toNat)
def S33 (W : Int → Int → Int → Int → Int → ByteArray) : RS
  | [.ptr 0 1 0 0], [.arr 1 [[.ptr 1 14 0 0]], .arr 14 [[.ptr 2 2 0 0, .ptr 4 1 0 0, .int .i64 a, .bool f, .int .i64 b, .bool g, .int .i64 c, .bool h, .int .i64 n, .int .i64 it, bo, .nils, .int .i64 0, .int .i64 0]], .arr 2 [[.int .u64 0, .slice 3 1 0 N N2 xx]], .arr 1 gens, o4, o5, o6] => some ([decide (1 ≤ n), decide (n ≤ 64), Nat.beq N n.toNat, repR N gens], .str (W a b c n it))
  | _, _ => none
theorem sum33 : SumOk Go.Proofs.Tryz.prog 33 (readS rhoA (S33 W0)) := sumOk_readK mixed ftok ttg_ok ntok ot33_ok (lf := 1000000) (m := 30) (by
  intro a os cs v h hcs
  unfold S33 at h
  split at h
  · cases h
    obtain ⟨c1, hcs⟩ := allB_cons hcs
    obtain ⟨c2, hcs⟩ := allB_cons hcs
    obtain ⟨c3, hcs⟩ := allB_cons hcs
    obtain ⟨c4, _⟩ := allB_cons hcs
    rw [decide_eq_true_eq] at c1 c2
    have e := Nat.eq_of_beq_eq_true c3
    subst e
    have e2 := repR_ok _ _ c4
    subst e2
    exact ⟨_, q33 _ _ _ _ _ _ _ _ _ _ _ _ _ _ ⟨c1, c2⟩, .inl rfl⟩
  · cases h)
end
end Go.VM

