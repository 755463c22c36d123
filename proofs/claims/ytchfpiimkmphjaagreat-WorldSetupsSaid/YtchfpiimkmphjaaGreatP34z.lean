/- A part of the proof: P34z. No condition. -/
import Derived.Test.YtchfpiimkmphjaaGreatP33z
import Derived.Test.YtchfpiimkmphjaaGreatP34a
import Derived.Test.YtchfpiimkmphjaaGreatP34b
import Derived.Test.YtchfpiimkmphjaaGreatP34c
import Derived.Test.YtchfpiimkmphjaaGreatP34d
namespace Go.VM
open Go
set_option maxRecDepth 1000000
noncomputable section
theorem repB_app : ∀ (N : Nat) (s : ByteArray), rcat s N ++ strB (beL [0]) = s ++ strB (repB N) := by
  intro N
  induction N with
  | zero => intro s; rfl
  | succ N ih =>
    intro s
    have h1 : ∀ (M : Nat) (s : ByteArray), rcat s (M + 1) = rcat (s ++ strB (beL [0, 0])) M := by
      intro M
      induction M with
      | zero => intro s; rfl
      | succ M ihM => intro s; show rcat s (M + 1) ++ _ = rcat _ M ++ _; rw [ihM]
    rw [h1, ih, ByteArray.append_assoc, strB_app]; rfl
theorem lit4_app (l : List AV) : lit4 ++ strB l = strB ([.int .u8 98, .int .u8 103, .int .u8 108, .int .u8 49] ++ l) := by
  have h : bytU ([.int .u8 98, .int .u8 103, .int .u8 108, .int .u8 49] ++ l) = [98, 103, 108, 49] ++ bytU l := rfl
  apply ByteArray.ext
  apply Array.ext'
  simp only [lit4, strB, h, ByteArray.data_append, Array.toList_append]
theorem w34 (a b c n it : Int) (N : Nat) : rcat (lit4 ++ strB (beL [a, b, c, n, it, 0, 0])) N ++ strB (beL [0]) = strB (wBytes a b c n it N) := by
  rw [repB_app, ByteArray.append_assoc, strB_app, lit4_app]
  rfl
theorem q34 (a b c n it : Int) (f g h : Bool) (N2 : Nat) (xx yy : Bool) (bo : AV) (o3 : AO) (hn : 1 ≤ n ∧ n ≤ 64) : funK ftc ttc ntc ot34 1000000 30 (.fn 34) [.ptr 0 14 0 0] (heap0 (vObj a b c n it f g h n.toNat N2 xx yy bo (rep n.toNat row0) (rep n.toNat rowF) o3)) (fun u H1 => readR 4 u H1) = some (.str (strB (wBytes a b c n it n.toNat))) := by
  rw [← w34]
  match n, hn with
  | .ofNat 1, _ => exact q34_1 a b c it f g h N2 xx yy bo o3
  | .ofNat 2, _ => exact q34_2 a b c it f g h N2 xx yy bo o3
  | .ofNat 3, _ => exact q34_3 a b c it f g h N2 xx yy bo o3
  | .ofNat 4, _ => exact q34_4 a b c it f g h N2 xx yy bo o3
  | .ofNat 5, _ => exact q34_5 a b c it f g h N2 xx yy bo o3
  | .ofNat 6, _ => exact q34_6 a b c it f g h N2 xx yy bo o3
  | .ofNat 7, _ => exact q34_7 a b c it f g h N2 xx yy bo o3
  | .ofNat 8, _ => exact q34_8 a b c it f g h N2 xx yy bo o3
  | .ofNat 9, _ => exact q34_9 a b c it f g h N2 xx yy bo o3
  | .ofNat 10, _ => exact q34_10 a b c it f g h N2 xx yy bo o3
  | .ofNat 11, _ => exact q34_11 a b c it f g h N2 xx yy bo o3
  | .ofNat 12, _ => exact q34_12 a b c it f g h N2 xx yy bo o3
  | .ofNat 13, _ => exact q34_13 a b c it f g h N2 xx yy bo o3
  | .ofNat 14, _ => exact q34_14 a b c it f g h N2 xx yy bo o3
  | .ofNat 15, _ => exact q34_15 a b c it f g h N2 xx yy bo o3
  | .ofNat 16, _ => exact q34_16 a b c it f g h N2 xx yy bo o3
  | .ofNat 17, _ => exact q34_17 a b c it f g h N2 xx yy bo o3
  | .ofNat 18, _ => exact q34_18 a b c it f g h N2 xx yy bo o3
  | .ofNat 19, _ => exact q34_19 a b c it f g h N2 xx yy bo o3
  | .ofNat 20, _ => exact q34_20 a b c it f g h N2 xx yy bo o3
  | .ofNat 21, _ => exact q34_21 a b c it f g h N2 xx yy bo o3
  | .ofNat 22, _ => exact q34_22 a b c it f g h N2 xx yy bo o3
  | .ofNat 23, _ => exact q34_23 a b c it f g h N2 xx yy bo o3
  | .ofNat 24, _ => exact q34_24 a b c it f g h N2 xx yy bo o3
  | .ofNat 25, _ => exact q34_25 a b c it f g h N2 xx yy bo o3
  | .ofNat 26, _ => exact q34_26 a b c it f g h N2 xx yy bo o3
  | .ofNat 27, _ => exact q34_27 a b c it f g h N2 xx yy bo o3
  | .ofNat 28, _ => exact q34_28 a b c it f g h N2 xx yy bo o3
  | .ofNat 29, _ => exact q34_29 a b c it f g h N2 xx yy bo o3
  | .ofNat 30, _ => exact q34_30 a b c it f g h N2 xx yy bo o3
  | .ofNat 31, _ => exact q34_31 a b c it f g h N2 xx yy bo o3
  | .ofNat 32, _ => exact q34_32 a b c it f g h N2 xx yy bo o3
  | .ofNat 33, _ => exact q34_33 a b c it f g h N2 xx yy bo o3
  | .ofNat 34, _ => exact q34_34 a b c it f g h N2 xx yy bo o3
  | .ofNat 35, _ => exact q34_35 a b c it f g h N2 xx yy bo o3
  | .ofNat 36, _ => exact q34_36 a b c it f g h N2 xx yy bo o3
  | .ofNat 37, _ => exact q34_37 a b c it f g h N2 xx yy bo o3
  | .ofNat 38, _ => exact q34_38 a b c it f g h N2 xx yy bo o3
  | .ofNat 39, _ => exact q34_39 a b c it f g h N2 xx yy bo o3
  | .ofNat 40, _ => exact q34_40 a b c it f g h N2 xx yy bo o3
  | .ofNat 41, _ => exact q34_41 a b c it f g h N2 xx yy bo o3
  | .ofNat 42, _ => exact q34_42 a b c it f g h N2 xx yy bo o3
  | .ofNat 43, _ => exact q34_43 a b c it f g h N2 xx yy bo o3
  | .ofNat 44, _ => exact q34_44 a b c it f g h N2 xx yy bo o3
  | .ofNat 45, _ => exact q34_45 a b c it f g h N2 xx yy bo o3
  | .ofNat 46, _ => exact q34_46 a b c it f g h N2 xx yy bo o3
  | .ofNat 47, _ => exact q34_47 a b c it f g h N2 xx yy bo o3
  | .ofNat 48, _ => exact q34_48 a b c it f g h N2 xx yy bo o3
  | .ofNat 49, _ => exact q34_49 a b c it f g h N2 xx yy bo o3
  | .ofNat 50, _ => exact q34_50 a b c it f g h N2 xx yy bo o3
  | .ofNat 51, _ => exact q34_51 a b c it f g h N2 xx yy bo o3
  | .ofNat 52, _ => exact q34_52 a b c it f g h N2 xx yy bo o3
  | .ofNat 53, _ => exact q34_53 a b c it f g h N2 xx yy bo o3
  | .ofNat 54, _ => exact q34_54 a b c it f g h N2 xx yy bo o3
  | .ofNat 55, _ => exact q34_55 a b c it f g h N2 xx yy bo o3
  | .ofNat 56, _ => exact q34_56 a b c it f g h N2 xx yy bo o3
  | .ofNat 57, _ => exact q34_57 a b c it f g h N2 xx yy bo o3
  | .ofNat 58, _ => exact q34_58 a b c it f g h N2 xx yy bo o3
  | .ofNat 59, _ => exact q34_59 a b c it f g h N2 xx yy bo o3
  | .ofNat 60, _ => exact q34_60 a b c it f g h N2 xx yy bo o3
  | .ofNat 61, _ => exact q34_61 a b c it f g h N2 xx yy bo o3
  | .ofNat 62, _ => exact q34_62 a b c it f g h N2 xx yy bo o3
  | .ofNat 63, _ => exact q34_63 a b c it f g h N2 xx yy bo o3
  | .ofNat 64, _ => exact q34_64 a b c it f g h N2 xx yy bo o3
  | .ofNat 0, h2 => exact absurd h2.1 (by decide)
  | .ofNat (m + 65), h2 => have h3 := h2.2; rw [Int.ofNat_eq_natCast] at h3; omega
  | .negSucc m, h2 => have := h2.1; omega
def repF (N : Nat) : List (List AV) → Bool
  | [] => Nat.beq N 0
  | [.bool x] :: l => match N with
    | 0 => false
    | N + 1 => cond x false (repF N l)
  | _ => false
theorem repF_ok : ∀ (l : List (List AV)) (N : Nat), repF N l = true → l = rep N rowF := by
  intro l
  induction l with
  | nil => intro N h; unfold repF at h; rw [Nat.eq_of_beq_eq_true h]; rfl
  | cons e l ih =>
    intro N h
    unfold repF at h
    split at h
    · rename_i heq; cases heq
    · rename_i x l' heq
      cases heq
      split at h
      · cases h
      · rename_i N
        cases x with
        | true => cases h
        | false => rw [cond_false] at h; rw [ih N h]; rfl
    · cases h
def S34 (W : Int → Int → Int → Int → Int → ByteArray) : RS
  | [.ptr 0 14 0 0], [.arr 14 [[.int .i64 a, .bool f, .int .i64 b, .bool g, .int .i64 c, .bool h, .int .i64 n, .int .i64 it, .slice 1 1 0 N N2 xx, .slice 2 1 0 M M2 yy, bo, .int .i64 0, .int .i64 0, .nils]], .arr 1 gens, .arr 1 tak, o3] =>
    some ([decide (1 ≤ n), decide (n ≤ 64), Nat.beq N n.toNat, Nat.beq M N, Nat.beq M2 N2, repR N gens, repF N tak], .str (W a b c n it))
  | _, _ => none
theorem sum34 : SumOk Go.Proofs.Tryz.prog 34 (readS rhoA (S34 W0)) := sumOk_readK mixed ftok ttok ntok ot34_ok (lf := 1000000) (m := 30) (by
  intro a os cs v h hcs
  unfold S34 at h
  split at h
  · cases h
    obtain ⟨c1, hcs⟩ := allB_cons hcs
    obtain ⟨c2, hcs⟩ := allB_cons hcs
    obtain ⟨c3, hcs⟩ := allB_cons hcs
    obtain ⟨c4, hcs⟩ := allB_cons hcs
    obtain ⟨c5, hcs⟩ := allB_cons hcs
    obtain ⟨c6, hcs⟩ := allB_cons hcs
    obtain ⟨c7, _⟩ := allB_cons hcs
    rw [decide_eq_true_eq] at c1 c2
    have e4 := Nat.eq_of_beq_eq_true c4
    have e5 := Nat.eq_of_beq_eq_true c5
    have e := Nat.eq_of_beq_eq_true c3
    subst e4; subst e5; subst e
    have e2 := repR_ok _ _ c6
    have e3 := repF_ok _ _ c7
    subst e2; subst e3
    exact ⟨_, q34 _ _ _ _ _ _ _ _ _ _ _ _ _ ⟨c1, c2⟩, .inl rfl⟩
  · cases h)
end
end Go.VM

