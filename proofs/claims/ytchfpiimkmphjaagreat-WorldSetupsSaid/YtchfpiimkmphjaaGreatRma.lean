/- A part of the proof: Rma. No condition. -/
import Derived.Test.YtchfpiimkmphjaaGreatFxa
import Derived.Test.YtchfpiimkmphjaaGreatVmPc
import Derived.KernelRfl
namespace Go.VM
open Go
set_option maxRecDepth 1000000
noncomputable section
-- CheckSetup, of the world and of the reference
/-- A setup that both take. -/
def okSt (a : Int) (f : Bool) (b : Int) (g : Bool) (c : Int) (h : Bool) (n it : Int) : Bool :=
  (!f && !g && !h) && (decide (-274877906944 ≤ a ∧ a ≤ 274877906944) && decide (-274877906944 ≤ b ∧ b ≤ 274877906944)) && (decide (4194304 ≤ c ∧ c ≤ 536870912) && decide (1 ≤ n ∧ n ≤ 64) && decide (1 ≤ it ∧ it ≤ 16))
def setS : List AV → Option (List Bool × AV)
  | [.agg [.int .i64 a, .bool f, .int .i64 b, .bool g, .int .i64 c, .bool h, .int .i64 n, .int .i64 it]] => some ([inI a, inI b, inI c], .int .i64 (cond (okSt a f b g c h n it) 0 3))
  | _ => none
theorem condD {α : Type} (p : Prop) [Decidable p] (x y : α) : cond (decide p) x y = if p then x else y := by
  by_cases h : p
  · rw [decide_eq_true h, if_pos h]; rfl
  · rw [decide_eq_false h, if_neg h]; rfl
theorem iteE {α : Type} {p : Prop} [Decidable p] {x y z : α} (a : p → x = z) (b : ¬ p → y = z) : (if p then x else y) = z := by
  by_cases h : p
  · rw [if_pos h]; exact a h
  · rw [if_neg h]; exact b h
def R3 : Option AV := some (.int .i64 3)
theorem tr32 (a b c it n : Int) (f g h : Bool) : kf 32 ot5 [.agg [.int .i64 a, .bool f, .int .i64 b, .bool g, .int .i64 c, .bool h, .int .i64 n, .int .i64 it]] =
    cond (a == -9223372036854775808) R3 (cond (!f) (cond (decide (a ≤ 274877906944)) (cond (decide (a ≥ -274877906944))
      (cond (b == -9223372036854775808) R3 (cond (!g) (cond (decide (b ≤ 274877906944)) (cond (!decide (b ≥ -274877906944)) R3
        (cond h R3 (cond (decide (c < 4194304)) R3 (cond (decide (c > 536870912)) R3 (cond (decide (n < 1)) R3 (cond (decide (n > 64)) R3 (cond (decide (it < 1)) R3 (cond (decide (it > 16)) R3 (some (.int .i64 0)))))))))) R3) R3))
      R3) R3) R3) := by kernel_rfl
theorem okSt_iff {a : Int} {f : Bool} {b : Int} {g : Bool} {c : Int} {h : Bool} {n it : Int} : okSt a f b g c h n it = true ↔
    (f = false ∧ g = false ∧ h = false) ∧ (-274877906944 ≤ a ∧ a ≤ 274877906944) ∧ (-274877906944 ≤ b ∧ b ≤ 274877906944) ∧ (4194304 ≤ c ∧ c ≤ 536870912) ∧ (1 ≤ n ∧ n ≤ 64) ∧ (1 ≤ it ∧ it ≤ 16) := by
  unfold okSt
  simp only [Bool.and_eq_true, Bool.not_eq_true', decide_eq_true_eq]
  constructor
  · rintro ⟨⟨⟨⟨h1, h2⟩, h3⟩, h4, h5⟩, ⟨h6, h7⟩, h8⟩; exact ⟨⟨h1, h2, h3⟩, h4, h5, h6, h7, h8⟩
  · rintro ⟨⟨h1, h2, h3⟩, h4, h5, h6, h7, h8⟩; exact ⟨⟨⟨⟨h1, h2⟩, h3⟩, h4, h5⟩, ⟨h6, h7⟩, h8⟩
theorem sum32 : SumOk Go.Proofs.Tryz.prog 32 (pureS setS) := pureOk ot5_ok (by
  intro args cs v hh hcs
  unfold setS at hh
  split at hh
  · rename_i a f b g c h n it
    cases hh
    rw [tr32]
    have e1 : ∀ x : Int, (x == -9223372036854775808) = decide (x = -9223372036854775808) := fun x => by
      by_cases hx : x = -9223372036854775808 <;> simp [hx]
    have e2 : (!decide (b ≥ -274877906944)) = decide (¬ b ≥ -274877906944) := by
      by_cases hx : b ≥ -274877906944
      · rw [decide_eq_true hx, decide_eq_false (fun k => k hx)]; rfl
      · rw [decide_eq_false hx, decide_eq_true hx]; rfl
    rw [e1, e1, e2]
    simp only [condD]
    have no : ¬ (okSt a f b g c h n it = true) → R3 = some (AV.int .i64 (cond (okSt a f b g c h n it) 0 3)) := fun hr => by
      rw [Bool.not_eq_true] at hr; rw [hr]; rfl
    have yes : okSt a f b g c h n it = true → some (AV.int .i64 0) = some (AV.int .i64 (cond (okSt a f b g c h n it) 0 3)) := fun hr => by rw [hr]; rfl
    rw [okSt_iff] at no yes
    generalize some (AV.int .i64 (cond (okSt a f b g c h n it) 0 3)) = z at no yes
    cases f with
    | true => rw [show (!true) = false from rfl, cond_false]; (repeat' refine iteE (fun _ => ?_) (fun _ => ?_)) <;> exact no (fun k => by cases k.1.1)
    | false =>
      rw [show (!false) = true from rfl, cond_true]
      cases g with
      | true => rw [show (!true) = false from rfl, cond_false]; (repeat' refine iteE (fun _ => ?_) (fun _ => ?_)) <;> exact no (fun k => by cases k.1.2.1)
      | false =>
        rw [show (!false) = true from rfl, cond_true]
        cases h with
        | true => rw [cond_true]; (repeat' refine iteE (fun _ => ?_) (fun _ => ?_)) <;> exact no (fun k => by cases k.1.2.2)
        | false =>
          rw [cond_false]
          (repeat' refine iteE (fun _ => ?_) (fun _ => ?_)) <;> first
            | exact no (fun k => by have := k.2; omega)
            | exact yes ⟨⟨rfl, rfl, rfl⟩, by omega⟩
  · cases hh)
end
end Go.VM

namespace Go.VM
open Go
set_option maxRecDepth 1000000
noncomputable section
theorem tr31 (a b c it n : Int) (f g h : Bool) : kf 31 ot5 [.agg [.int .i64 a, .bool f, .int .i64 b, .bool g, .int .i64 c, .bool h, .int .i64 n, .int .i64 it]] =
    cond (decide (cmpI (sV c) 4194304 ≥ 0)) (cond (decide (cmpI (sV c) 536870912 ≤ 0)) (cond (!!h) R3 (cond (inI a) (cond (inI b)
      (cond (sF (absI (sV a)) (sF a f) || sF (absI (sV b)) (sF b g)) R3 (cond (decide (mxI (sV (absI (sV a))) (sV (absI (sV b))) > 274877906944)) R3
        (cond (decide (n < 1)) R3 (cond (decide (n > 64)) R3 (cond (decide (it < 1)) R3 (cond (decide (it > 16)) R3 (some (.int .i64 0)))))))) none) none)) R3) R3 := by kernel_rfl
theorem cmpI_ge {a b : Int} : (cmpI a b ≥ 0) ↔ b ≤ a := by
  have := @cmpI_neg a b; omega
theorem cmpI_le {a b : Int} : (cmpI a b ≤ 0) ↔ a ≤ b := by
  unfold cmpI
  by_cases h : a < b
  · simp [h]; omega
  · by_cases k : a > b <;> simp [h, k] <;> omega
theorem sum31 : SumOk Go.Proofs.Tryz.prog 31 (pureS setS) := pureOk ot5_ok (by
  intro args cs v hh hcs
  unfold setS at hh
  split at hh
  · rename_i a f b g c h n it
    cases hh
    obtain ⟨c1, hcs⟩ := allB_cons hcs
    obtain ⟨c2, hcs⟩ := allB_cons hcs
    obtain ⟨c3, _⟩ := allB_cons hcs
    have ra := sV_abs c1
    have rb := sV_abs c2
    rw [tr31, condI c1, condI c2, sV_id (by omega : -9223372036854775807 ≤ absI (sV a)), sV_id (by omega : -9223372036854775807 ≤ absI (sV b)), sF_id (by omega : -9223372036854775807 ≤ absI (sV a)), sF_id (by omega : -9223372036854775807 ≤ absI (sV b))]
    have no : ¬ (okSt a f b g c h n it = true) → R3 = some (AV.int .i64 (cond (okSt a f b g c h n it) 0 3)) := fun hr => by
      rw [Bool.not_eq_true] at hr; rw [hr]; rfl
    have yes : okSt a f b g c h n it = true → some (AV.int .i64 0) = some (AV.int .i64 (cond (okSt a f b g c h n it) 0 3)) := fun hr => by rw [hr]; rfl
    rw [okSt_iff] at no yes
    generalize some (AV.int .i64 (cond (okSt a f b g c h n it) 0 3)) = z at no yes
    have hsc : (4194304 ≤ sV c ↔ 4194304 ≤ c) ∧ (sV c ≤ 536870912 ↔ c ≤ 536870912) := by
      rw [inI_iff] at c3
      by_cases hm : c = -9223372036854775808
      · subst hm; exact ⟨by decide, by decide⟩
      · rw [sV_id (by omega)]; exact ⟨Iff.rfl, Iff.rfl⟩
    have hma : (mxI (absI (sV a)) (absI (sV b)) > 274877906944) ↔ (absI (sV a) > 274877906944 ∨ absI (sV b) > 274877906944) := by
      unfold mxI
      by_cases hx : absI (sV a) < absI (sV b)
      · rw [decide_eq_true hx, cond_true]; omega
      · rw [decide_eq_false hx, cond_false]; omega
    have key : ∀ {x : Int} {u : Bool}, inI x = true → sF x u = false → u = false ∧ (absI (sV x) > 274877906944 ↔ ¬ (-274877906944 ≤ x ∧ x ≤ 274877906944)) := by
      intro x u hx hs
      rw [inI_iff] at hx
      by_cases hm : x = -9223372036854775808
      · subst hm; cases hs
      · rw [sF_id (by omega)] at hs
        refine ⟨hs, ?_⟩
        rw [sV_id (by omega), absI_eq]
        split <;> omega
    have keyT : ∀ {x : Int} {u : Bool}, inI x = true → sF x u = true → u = true ∨ ¬ (-274877906944 ≤ x ∧ x ≤ 274877906944) := by
      intro x u hx hs
      rw [inI_iff] at hx
      by_cases hm : x = -9223372036854775808
      · right; omega
      · rw [sF_id (by omega)] at hs; exact .inl hs
    simp only [condD]
    refine iteE (fun p1 => ?_) (fun p1 => no fun k => ?_)
    · rw [cmpI_ge] at p1
      refine iteE (fun p2 => ?_) (fun p2 => no fun k => ?_)
      · rw [cmpI_le] at p2
        cases h with
        | true => exact no (fun k => by cases k.1.2.2)
        | false =>
          show cond (sF a f || sF b g) R3 _ = z
          cases hfa : sF a f with
          | true => exact no (fun k => by rcases keyT c1 hfa with q | q; (· rw [q] at k; cases k.1.1); exact q k.2.1)
          | false =>
            cases hfb : sF b g with
            | true => exact no (fun k => by rcases keyT c2 hfb with q | q; (· rw [q] at k; cases k.1.2.1); exact q k.2.2.1)
            | false =>
              obtain ⟨f0, ka⟩ := key c1 hfa
              obtain ⟨g0, kb⟩ := key c2 hfb
              show (if _ then _ else _) = z
              refine iteE (fun p3 => no fun k => ?_) (fun p3 => ?_)
              · rcases hma.1 p3 with q | q
                · exact ka.1 q k.2.1
                · exact kb.1 q k.2.2.1
              · (repeat' refine iteE (fun _ => ?_) (fun _ => ?_)) <;> first
                  | exact no (fun k => by have := k.2; omega)
                  | exact yes ⟨⟨f0, g0, rfl⟩, by omega⟩
      · rw [cmpI_le] at p2; have := k.2; omega
    · rw [cmpI_ge] at p1; have := k.2; omega
  · cases hh)
end
end Go.VM

namespace Go.VM
open Go
set_option maxRecDepth 1000000
noncomputable section
def hitB (e : Int) (i : Int) (b : Bool) : Bool := cond (decide (1 ≤ e)) (cond (decide (e ≤ 16)) (cond (decide (e = i)) true b) b) b
def seatB (e : Int) : Int → List Bool → Bool
  | _, [] => false
  | i, b :: bs => cond (decide (e = i)) b (seatB e (i + 1) bs)
def openC (e : Int) (bs : List Bool) : Int := cond (decide (e < 1)) 3 (cond (decide (e > 16)) 3 (cond (seatB e 0 bs) 11 0))
def room (b0 b1 b2 b3 b4 b5 b6 b7 b8 b9 b10 b11 b12 b13 b14 b15 b16 : Bool) : List AO := [.arr 1 [[.ptr 1 19 0 0]], .arr 19 [[.ptr 2 1 0 0, .bool b0, .bool b1, .bool b2, .bool b3, .bool b4, .bool b5, .bool b6, .bool b7, .bool b8, .bool b9, .bool b10, .bool b11, .bool b12, .bool b13, .bool b14, .bool b15, .bool b16, .nils]], .arr 1 []]
def roomL (e : Int) (b0 b1 b2 b3 b4 b5 b6 b7 b8 b9 b10 b11 b12 b13 b14 b15 b16 : Bool) : List (Option AO) := [none, some (.arr 19 [[.ptr 2 1 0 0, .bool (hitB e 0 b0), .bool (hitB e 1 b1), .bool (hitB e 2 b2), .bool (hitB e 3 b3), .bool (hitB e 4 b4), .bool (hitB e 5 b5), .bool (hitB e 6 b6), .bool (hitB e 7 b7), .bool (hitB e 8 b8), .bool (hitB e 9 b9), .bool (hitB e 10 b10), .bool (hitB e 11 b11), .bool (hitB e 12 b12), .bool (hitB e 13 b13), .bool (hitB e 14 b14), .bool (hitB e 15 b15), .bool (hitB e 16 b16), .nils]]), none]
abbrev ko (f : Nat) (e : Int) (b0 b1 b2 b3 b4 b5 b6 b7 b8 b9 b10 b11 b12 b13 b14 b15 b16 : Bool) := funK ftc ttc ntc ot5 1000000 30 (.fn f) [.ptr 0 1 0 0, .int .i64 e] (heap0 (room b0 b1 b2 b3 b4 b5 b6 b7 b8 b9 b10 b11 b12 b13 b14 b15 b16)) (fun u H1 => canonF [1] 3 3 3 u H1)
theorem o24_0 (b0 b1 b2 b3 b4 b5 b6 b7 b8 b9 b10 b11 b12 b13 b14 b15 b16 : Bool) : ko 24 (.ofNat 0) b0 b1 b2 b3 b4 b5 b6 b7 b8 b9 b10 b11 b12 b13 b14 b15 b16 = some (.int .i64 3, roomL (.ofNat 0) b0 b1 b2 b3 b4 b5 b6 b7 b8 b9 b10 b11 b12 b13 b14 b15 b16) := by kernel_rfl
theorem o24_1t (b0 b2 b3 b4 b5 b6 b7 b8 b9 b10 b11 b12 b13 b14 b15 b16 : Bool) : ko 24 (.ofNat 1) b0 true b2 b3 b4 b5 b6 b7 b8 b9 b10 b11 b12 b13 b14 b15 b16 = some (.int .i64 11, roomL (.ofNat 1) b0 true b2 b3 b4 b5 b6 b7 b8 b9 b10 b11 b12 b13 b14 b15 b16) := by kernel_rfl
theorem o24_1f (b0 b2 b3 b4 b5 b6 b7 b8 b9 b10 b11 b12 b13 b14 b15 b16 : Bool) : ko 24 (.ofNat 1) b0 false b2 b3 b4 b5 b6 b7 b8 b9 b10 b11 b12 b13 b14 b15 b16 = some (.int .i64 0, roomL (.ofNat 1) b0 false b2 b3 b4 b5 b6 b7 b8 b9 b10 b11 b12 b13 b14 b15 b16) := by kernel_rfl
theorem o24_2t (b0 b1 b3 b4 b5 b6 b7 b8 b9 b10 b11 b12 b13 b14 b15 b16 : Bool) : ko 24 (.ofNat 2) b0 b1 true b3 b4 b5 b6 b7 b8 b9 b10 b11 b12 b13 b14 b15 b16 = some (.int .i64 11, roomL (.ofNat 2) b0 b1 true b3 b4 b5 b6 b7 b8 b9 b10 b11 b12 b13 b14 b15 b16) := by kernel_rfl
theorem o24_2f (b0 b1 b3 b4 b5 b6 b7 b8 b9 b10 b11 b12 b13 b14 b15 b16 : Bool) : ko 24 (.ofNat 2) b0 b1 false b3 b4 b5 b6 b7 b8 b9 b10 b11 b12 b13 b14 b15 b16 = some (.int .i64 0, roomL (.ofNat 2) b0 b1 false b3 b4 b5 b6 b7 b8 b9 b10 b11 b12 b13 b14 b15 b16) := by kernel_rfl
theorem o24_3t (b0 b1 b2 b4 b5 b6 b7 b8 b9 b10 b11 b12 b13 b14 b15 b16 : Bool) : ko 24 (.ofNat 3) b0 b1 b2 true b4 b5 b6 b7 b8 b9 b10 b11 b12 b13 b14 b15 b16 = some (.int .i64 11, roomL (.ofNat 3) b0 b1 b2 true b4 b5 b6 b7 b8 b9 b10 b11 b12 b13 b14 b15 b16) := by kernel_rfl
theorem o24_3f (b0 b1 b2 b4 b5 b6 b7 b8 b9 b10 b11 b12 b13 b14 b15 b16 : Bool) : ko 24 (.ofNat 3) b0 b1 b2 false b4 b5 b6 b7 b8 b9 b10 b11 b12 b13 b14 b15 b16 = some (.int .i64 0, roomL (.ofNat 3) b0 b1 b2 false b4 b5 b6 b7 b8 b9 b10 b11 b12 b13 b14 b15 b16) := by kernel_rfl
theorem o24_4t (b0 b1 b2 b3 b5 b6 b7 b8 b9 b10 b11 b12 b13 b14 b15 b16 : Bool) : ko 24 (.ofNat 4) b0 b1 b2 b3 true b5 b6 b7 b8 b9 b10 b11 b12 b13 b14 b15 b16 = some (.int .i64 11, roomL (.ofNat 4) b0 b1 b2 b3 true b5 b6 b7 b8 b9 b10 b11 b12 b13 b14 b15 b16) := by kernel_rfl
theorem o24_4f (b0 b1 b2 b3 b5 b6 b7 b8 b9 b10 b11 b12 b13 b14 b15 b16 : Bool) : ko 24 (.ofNat 4) b0 b1 b2 b3 false b5 b6 b7 b8 b9 b10 b11 b12 b13 b14 b15 b16 = some (.int .i64 0, roomL (.ofNat 4) b0 b1 b2 b3 false b5 b6 b7 b8 b9 b10 b11 b12 b13 b14 b15 b16) := by kernel_rfl
theorem o24_5t (b0 b1 b2 b3 b4 b6 b7 b8 b9 b10 b11 b12 b13 b14 b15 b16 : Bool) : ko 24 (.ofNat 5) b0 b1 b2 b3 b4 true b6 b7 b8 b9 b10 b11 b12 b13 b14 b15 b16 = some (.int .i64 11, roomL (.ofNat 5) b0 b1 b2 b3 b4 true b6 b7 b8 b9 b10 b11 b12 b13 b14 b15 b16) := by kernel_rfl
theorem o24_5f (b0 b1 b2 b3 b4 b6 b7 b8 b9 b10 b11 b12 b13 b14 b15 b16 : Bool) : ko 24 (.ofNat 5) b0 b1 b2 b3 b4 false b6 b7 b8 b9 b10 b11 b12 b13 b14 b15 b16 = some (.int .i64 0, roomL (.ofNat 5) b0 b1 b2 b3 b4 false b6 b7 b8 b9 b10 b11 b12 b13 b14 b15 b16) := by kernel_rfl
theorem o24_6t (b0 b1 b2 b3 b4 b5 b7 b8 b9 b10 b11 b12 b13 b14 b15 b16 : Bool) : ko 24 (.ofNat 6) b0 b1 b2 b3 b4 b5 true b7 b8 b9 b10 b11 b12 b13 b14 b15 b16 = some (.int .i64 11, roomL (.ofNat 6) b0 b1 b2 b3 b4 b5 true b7 b8 b9 b10 b11 b12 b13 b14 b15 b16) := by kernel_rfl
theorem o24_6f (b0 b1 b2 b3 b4 b5 b7 b8 b9 b10 b11 b12 b13 b14 b15 b16 : Bool) : ko 24 (.ofNat 6) b0 b1 b2 b3 b4 b5 false b7 b8 b9 b10 b11 b12 b13 b14 b15 b16 = some (.int .i64 0, roomL (.ofNat 6) b0 b1 b2 b3 b4 b5 false b7 b8 b9 b10 b11 b12 b13 b14 b15 b16) := by kernel_rfl
theorem o24_7t (b0 b1 b2 b3 b4 b5 b6 b8 b9 b10 b11 b12 b13 b14 b15 b16 : Bool) : ko 24 (.ofNat 7) b0 b1 b2 b3 b4 b5 b6 true b8 b9 b10 b11 b12 b13 b14 b15 b16 = some (.int .i64 11, roomL (.ofNat 7) b0 b1 b2 b3 b4 b5 b6 true b8 b9 b10 b11 b12 b13 b14 b15 b16) := by kernel_rfl
theorem o24_7f (b0 b1 b2 b3 b4 b5 b6 b8 b9 b10 b11 b12 b13 b14 b15 b16 : Bool) : ko 24 (.ofNat 7) b0 b1 b2 b3 b4 b5 b6 false b8 b9 b10 b11 b12 b13 b14 b15 b16 = some (.int .i64 0, roomL (.ofNat 7) b0 b1 b2 b3 b4 b5 b6 false b8 b9 b10 b11 b12 b13 b14 b15 b16) := by kernel_rfl
theorem o24_8t (b0 b1 b2 b3 b4 b5 b6 b7 b9 b10 b11 b12 b13 b14 b15 b16 : Bool) : ko 24 (.ofNat 8) b0 b1 b2 b3 b4 b5 b6 b7 true b9 b10 b11 b12 b13 b14 b15 b16 = some (.int .i64 11, roomL (.ofNat 8) b0 b1 b2 b3 b4 b5 b6 b7 true b9 b10 b11 b12 b13 b14 b15 b16) := by kernel_rfl
theorem o24_8f (b0 b1 b2 b3 b4 b5 b6 b7 b9 b10 b11 b12 b13 b14 b15 b16 : Bool) : ko 24 (.ofNat 8) b0 b1 b2 b3 b4 b5 b6 b7 false b9 b10 b11 b12 b13 b14 b15 b16 = some (.int .i64 0, roomL (.ofNat 8) b0 b1 b2 b3 b4 b5 b6 b7 false b9 b10 b11 b12 b13 b14 b15 b16) := by kernel_rfl
theorem o24_9t (b0 b1 b2 b3 b4 b5 b6 b7 b8 b10 b11 b12 b13 b14 b15 b16 : Bool) : ko 24 (.ofNat 9) b0 b1 b2 b3 b4 b5 b6 b7 b8 true b10 b11 b12 b13 b14 b15 b16 = some (.int .i64 11, roomL (.ofNat 9) b0 b1 b2 b3 b4 b5 b6 b7 b8 true b10 b11 b12 b13 b14 b15 b16) := by kernel_rfl
theorem o24_9f (b0 b1 b2 b3 b4 b5 b6 b7 b8 b10 b11 b12 b13 b14 b15 b16 : Bool) : ko 24 (.ofNat 9) b0 b1 b2 b3 b4 b5 b6 b7 b8 false b10 b11 b12 b13 b14 b15 b16 = some (.int .i64 0, roomL (.ofNat 9) b0 b1 b2 b3 b4 b5 b6 b7 b8 false b10 b11 b12 b13 b14 b15 b16) := by kernel_rfl
theorem o24_10t (b0 b1 b2 b3 b4 b5 b6 b7 b8 b9 b11 b12 b13 b14 b15 b16 : Bool) : ko 24 (.ofNat 10) b0 b1 b2 b3 b4 b5 b6 b7 b8 b9 true b11 b12 b13 b14 b15 b16 = some (.int .i64 11, roomL (.ofNat 10) b0 b1 b2 b3 b4 b5 b6 b7 b8 b9 true b11 b12 b13 b14 b15 b16) := by kernel_rfl
theorem o24_10f (b0 b1 b2 b3 b4 b5 b6 b7 b8 b9 b11 b12 b13 b14 b15 b16 : Bool) : ko 24 (.ofNat 10) b0 b1 b2 b3 b4 b5 b6 b7 b8 b9 false b11 b12 b13 b14 b15 b16 = some (.int .i64 0, roomL (.ofNat 10) b0 b1 b2 b3 b4 b5 b6 b7 b8 b9 false b11 b12 b13 b14 b15 b16) := by kernel_rfl
theorem o24_11t (b0 b1 b2 b3 b4 b5 b6 b7 b8 b9 b10 b12 b13 b14 b15 b16 : Bool) : ko 24 (.ofNat 11) b0 b1 b2 b3 b4 b5 b6 b7 b8 b9 b10 true b12 b13 b14 b15 b16 = some (.int .i64 11, roomL (.ofNat 11) b0 b1 b2 b3 b4 b5 b6 b7 b8 b9 b10 true b12 b13 b14 b15 b16) := by kernel_rfl
theorem o24_11f (b0 b1 b2 b3 b4 b5 b6 b7 b8 b9 b10 b12 b13 b14 b15 b16 : Bool) : ko 24 (.ofNat 11) b0 b1 b2 b3 b4 b5 b6 b7 b8 b9 b10 false b12 b13 b14 b15 b16 = some (.int .i64 0, roomL (.ofNat 11) b0 b1 b2 b3 b4 b5 b6 b7 b8 b9 b10 false b12 b13 b14 b15 b16) := by kernel_rfl
theorem o24_12t (b0 b1 b2 b3 b4 b5 b6 b7 b8 b9 b10 b11 b13 b14 b15 b16 : Bool) : ko 24 (.ofNat 12) b0 b1 b2 b3 b4 b5 b6 b7 b8 b9 b10 b11 true b13 b14 b15 b16 = some (.int .i64 11, roomL (.ofNat 12) b0 b1 b2 b3 b4 b5 b6 b7 b8 b9 b10 b11 true b13 b14 b15 b16) := by kernel_rfl
theorem o24_12f (b0 b1 b2 b3 b4 b5 b6 b7 b8 b9 b10 b11 b13 b14 b15 b16 : Bool) : ko 24 (.ofNat 12) b0 b1 b2 b3 b4 b5 b6 b7 b8 b9 b10 b11 false b13 b14 b15 b16 = some (.int .i64 0, roomL (.ofNat 12) b0 b1 b2 b3 b4 b5 b6 b7 b8 b9 b10 b11 false b13 b14 b15 b16) := by kernel_rfl
theorem o24_13t (b0 b1 b2 b3 b4 b5 b6 b7 b8 b9 b10 b11 b12 b14 b15 b16 : Bool) : ko 24 (.ofNat 13) b0 b1 b2 b3 b4 b5 b6 b7 b8 b9 b10 b11 b12 true b14 b15 b16 = some (.int .i64 11, roomL (.ofNat 13) b0 b1 b2 b3 b4 b5 b6 b7 b8 b9 b10 b11 b12 true b14 b15 b16) := by kernel_rfl
theorem o24_13f (b0 b1 b2 b3 b4 b5 b6 b7 b8 b9 b10 b11 b12 b14 b15 b16 : Bool) : ko 24 (.ofNat 13) b0 b1 b2 b3 b4 b5 b6 b7 b8 b9 b10 b11 b12 false b14 b15 b16 = some (.int .i64 0, roomL (.ofNat 13) b0 b1 b2 b3 b4 b5 b6 b7 b8 b9 b10 b11 b12 false b14 b15 b16) := by kernel_rfl
theorem o24_14t (b0 b1 b2 b3 b4 b5 b6 b7 b8 b9 b10 b11 b12 b13 b15 b16 : Bool) : ko 24 (.ofNat 14) b0 b1 b2 b3 b4 b5 b6 b7 b8 b9 b10 b11 b12 b13 true b15 b16 = some (.int .i64 11, roomL (.ofNat 14) b0 b1 b2 b3 b4 b5 b6 b7 b8 b9 b10 b11 b12 b13 true b15 b16) := by kernel_rfl
theorem o24_14f (b0 b1 b2 b3 b4 b5 b6 b7 b8 b9 b10 b11 b12 b13 b15 b16 : Bool) : ko 24 (.ofNat 14) b0 b1 b2 b3 b4 b5 b6 b7 b8 b9 b10 b11 b12 b13 false b15 b16 = some (.int .i64 0, roomL (.ofNat 14) b0 b1 b2 b3 b4 b5 b6 b7 b8 b9 b10 b11 b12 b13 false b15 b16) := by kernel_rfl
theorem o24_15t (b0 b1 b2 b3 b4 b5 b6 b7 b8 b9 b10 b11 b12 b13 b14 b16 : Bool) : ko 24 (.ofNat 15) b0 b1 b2 b3 b4 b5 b6 b7 b8 b9 b10 b11 b12 b13 b14 true b16 = some (.int .i64 11, roomL (.ofNat 15) b0 b1 b2 b3 b4 b5 b6 b7 b8 b9 b10 b11 b12 b13 b14 true b16) := by kernel_rfl
theorem o24_15f (b0 b1 b2 b3 b4 b5 b6 b7 b8 b9 b10 b11 b12 b13 b14 b16 : Bool) : ko 24 (.ofNat 15) b0 b1 b2 b3 b4 b5 b6 b7 b8 b9 b10 b11 b12 b13 b14 false b16 = some (.int .i64 0, roomL (.ofNat 15) b0 b1 b2 b3 b4 b5 b6 b7 b8 b9 b10 b11 b12 b13 b14 false b16) := by kernel_rfl
theorem o24_16t (b0 b1 b2 b3 b4 b5 b6 b7 b8 b9 b10 b11 b12 b13 b14 b15 : Bool) : ko 24 (.ofNat 16) b0 b1 b2 b3 b4 b5 b6 b7 b8 b9 b10 b11 b12 b13 b14 b15 true = some (.int .i64 11, roomL (.ofNat 16) b0 b1 b2 b3 b4 b5 b6 b7 b8 b9 b10 b11 b12 b13 b14 b15 true) := by kernel_rfl
theorem o24_16f (b0 b1 b2 b3 b4 b5 b6 b7 b8 b9 b10 b11 b12 b13 b14 b15 : Bool) : ko 24 (.ofNat 16) b0 b1 b2 b3 b4 b5 b6 b7 b8 b9 b10 b11 b12 b13 b14 b15 false = some (.int .i64 0, roomL (.ofNat 16) b0 b1 b2 b3 b4 b5 b6 b7 b8 b9 b10 b11 b12 b13 b14 b15 false) := by kernel_rfl
end
end Go.VM

namespace Go.VM
open Go
set_option maxRecDepth 1000000
noncomputable section
theorem o24_n (m : Nat) (b0 b1 b2 b3 b4 b5 b6 b7 b8 b9 b10 b11 b12 b13 b14 b15 b16 : Bool) : ko 24 (.negSucc m) b0 b1 b2 b3 b4 b5 b6 b7 b8 b9 b10 b11 b12 b13 b14 b15 b16 = cond (decide (Int.negSucc m < 1)) (some (.int .i64 3, [none, some (.arr 19 [[.ptr 2 1 0 0, .bool b0, .bool b1, .bool b2, .bool b3, .bool b4, .bool b5, .bool b6, .bool b7, .bool b8, .bool b9, .bool b10, .bool b11, .bool b12, .bool b13, .bool b14, .bool b15, .bool b16, .nils]]), none])) none := by kernel_rfl
theorem o24_p (m : Nat) (b0 b1 b2 b3 b4 b5 b6 b7 b8 b9 b10 b11 b12 b13 b14 b15 b16 : Bool) : ko 24 (.ofNat (m + 17)) b0 b1 b2 b3 b4 b5 b6 b7 b8 b9 b10 b11 b12 b13 b14 b15 b16 = cond (decide (Int.ofNat (m + 17) > 16)) (some (.int .i64 3, [none, some (.arr 19 [[.ptr 2 1 0 0, .bool b0, .bool b1, .bool b2, .bool b3, .bool b4, .bool b5, .bool b6, .bool b7, .bool b8, .bool b9, .bool b10, .bool b11, .bool b12, .bool b13, .bool b14, .bool b15, .bool b16, .nils]]), none])) none := by kernel_rfl
theorem hitB_out {e : Int} (h : ¬ (1 ≤ e ∧ e ≤ 16)) (i : Int) (b : Bool) : hitB e i b = b := by
  unfold hitB
  by_cases h1 : 1 ≤ e
  · rw [decide_eq_true h1, cond_true, decide_eq_false (fun h2 => h ⟨h1, h2⟩), cond_false]
  · rw [decide_eq_false h1, cond_false]
theorem roomL_out {e : Int} (h : ¬ (1 ≤ e ∧ e ≤ 16)) (b0 b1 b2 b3 b4 b5 b6 b7 b8 b9 b10 b11 b12 b13 b14 b15 b16 : Bool) : roomL e b0 b1 b2 b3 b4 b5 b6 b7 b8 b9 b10 b11 b12 b13 b14 b15 b16 = [none, some (.arr 19 [[.ptr 2 1 0 0, .bool b0, .bool b1, .bool b2, .bool b3, .bool b4, .bool b5, .bool b6, .bool b7, .bool b8, .bool b9, .bool b10, .bool b11, .bool b12, .bool b13, .bool b14, .bool b15, .bool b16, .nils]]), none] := by
  unfold roomL; simp only [hitB_out h]
end
end Go.VM

namespace Go.VM
open Go
set_option maxRecDepth 1000000
noncomputable section
def S24 : HS
  | [.ptr 0 1 0 0, .int .i64 e], [.arr 1 [[.ptr 1 19 0 0]], .arr 19 [[.ptr 2 1 0 0, .bool b0, .bool b1, .bool b2, .bool b3, .bool b4, .bool b5, .bool b6, .bool b7, .bool b8, .bool b9, .bool b10, .bool b11, .bool b12, .bool b13, .bool b14, .bool b15, .bool b16, .nils]], .arr 1 []] => some ([], .int .i64 (openC e [b0, b1, b2, b3, b4, b5, b6, b7, b8, b9, b10, b11, b12, b13, b14, b15, b16]), roomL e b0 b1 b2 b3 b4 b5 b6 b7 b8 b9 b10 b11 b12 b13 b14 b15 b16)
  | _, _ => none
theorem k24 (e : Int) (b0 b1 b2 b3 b4 b5 b6 b7 b8 b9 b10 b11 b12 b13 b14 b15 b16 : Bool) : ko 24 e b0 b1 b2 b3 b4 b5 b6 b7 b8 b9 b10 b11 b12 b13 b14 b15 b16 = some (.int .i64 (openC e [b0, b1, b2, b3, b4, b5, b6, b7, b8, b9, b10, b11, b12, b13, b14, b15, b16]), roomL e b0 b1 b2 b3 b4 b5 b6 b7 b8 b9 b10 b11 b12 b13 b14 b15 b16) := by
  cases e with
  | negSucc m =>
    have h1 : Int.negSucc m < 1 := by omega
    rw [o24_n, decide_eq_true h1, cond_true, roomL_out (by omega)]
    unfold openC; rw [decide_eq_true h1, cond_true]
  | ofNat n =>
    match n with
    | 0 => exact o24_0 b0 b1 b2 b3 b4 b5 b6 b7 b8 b9 b10 b11 b12 b13 b14 b15 b16
    | 1 => cases b1 with
      | true => exact o24_1t b0 b2 b3 b4 b5 b6 b7 b8 b9 b10 b11 b12 b13 b14 b15 b16
      | false => exact o24_1f b0 b2 b3 b4 b5 b6 b7 b8 b9 b10 b11 b12 b13 b14 b15 b16
    | 2 => cases b2 with
      | true => exact o24_2t b0 b1 b3 b4 b5 b6 b7 b8 b9 b10 b11 b12 b13 b14 b15 b16
      | false => exact o24_2f b0 b1 b3 b4 b5 b6 b7 b8 b9 b10 b11 b12 b13 b14 b15 b16
    | 3 => cases b3 with
      | true => exact o24_3t b0 b1 b2 b4 b5 b6 b7 b8 b9 b10 b11 b12 b13 b14 b15 b16
      | false => exact o24_3f b0 b1 b2 b4 b5 b6 b7 b8 b9 b10 b11 b12 b13 b14 b15 b16
    | 4 => cases b4 with
      | true => exact o24_4t b0 b1 b2 b3 b5 b6 b7 b8 b9 b10 b11 b12 b13 b14 b15 b16
      | false => exact o24_4f b0 b1 b2 b3 b5 b6 b7 b8 b9 b10 b11 b12 b13 b14 b15 b16
    | 5 => cases b5 with
      | true => exact o24_5t b0 b1 b2 b3 b4 b6 b7 b8 b9 b10 b11 b12 b13 b14 b15 b16
      | false => exact o24_5f b0 b1 b2 b3 b4 b6 b7 b8 b9 b10 b11 b12 b13 b14 b15 b16
    | 6 => cases b6 with
      | true => exact o24_6t b0 b1 b2 b3 b4 b5 b7 b8 b9 b10 b11 b12 b13 b14 b15 b16
      | false => exact o24_6f b0 b1 b2 b3 b4 b5 b7 b8 b9 b10 b11 b12 b13 b14 b15 b16
    | 7 => cases b7 with
      | true => exact o24_7t b0 b1 b2 b3 b4 b5 b6 b8 b9 b10 b11 b12 b13 b14 b15 b16
      | false => exact o24_7f b0 b1 b2 b3 b4 b5 b6 b8 b9 b10 b11 b12 b13 b14 b15 b16
    | 8 => cases b8 with
      | true => exact o24_8t b0 b1 b2 b3 b4 b5 b6 b7 b9 b10 b11 b12 b13 b14 b15 b16
      | false => exact o24_8f b0 b1 b2 b3 b4 b5 b6 b7 b9 b10 b11 b12 b13 b14 b15 b16
    | 9 => cases b9 with
      | true => exact o24_9t b0 b1 b2 b3 b4 b5 b6 b7 b8 b10 b11 b12 b13 b14 b15 b16
      | false => exact o24_9f b0 b1 b2 b3 b4 b5 b6 b7 b8 b10 b11 b12 b13 b14 b15 b16
    | 10 => cases b10 with
      | true => exact o24_10t b0 b1 b2 b3 b4 b5 b6 b7 b8 b9 b11 b12 b13 b14 b15 b16
      | false => exact o24_10f b0 b1 b2 b3 b4 b5 b6 b7 b8 b9 b11 b12 b13 b14 b15 b16
    | 11 => cases b11 with
      | true => exact o24_11t b0 b1 b2 b3 b4 b5 b6 b7 b8 b9 b10 b12 b13 b14 b15 b16
      | false => exact o24_11f b0 b1 b2 b3 b4 b5 b6 b7 b8 b9 b10 b12 b13 b14 b15 b16
    | 12 => cases b12 with
      | true => exact o24_12t b0 b1 b2 b3 b4 b5 b6 b7 b8 b9 b10 b11 b13 b14 b15 b16
      | false => exact o24_12f b0 b1 b2 b3 b4 b5 b6 b7 b8 b9 b10 b11 b13 b14 b15 b16
    | 13 => cases b13 with
      | true => exact o24_13t b0 b1 b2 b3 b4 b5 b6 b7 b8 b9 b10 b11 b12 b14 b15 b16
      | false => exact o24_13f b0 b1 b2 b3 b4 b5 b6 b7 b8 b9 b10 b11 b12 b14 b15 b16
    | 14 => cases b14 with
      | true => exact o24_14t b0 b1 b2 b3 b4 b5 b6 b7 b8 b9 b10 b11 b12 b13 b15 b16
      | false => exact o24_14f b0 b1 b2 b3 b4 b5 b6 b7 b8 b9 b10 b11 b12 b13 b15 b16
    | 15 => cases b15 with
      | true => exact o24_15t b0 b1 b2 b3 b4 b5 b6 b7 b8 b9 b10 b11 b12 b13 b14 b16
      | false => exact o24_15f b0 b1 b2 b3 b4 b5 b6 b7 b8 b9 b10 b11 b12 b13 b14 b16
    | 16 => cases b16 with
      | true => exact o24_16t b0 b1 b2 b3 b4 b5 b6 b7 b8 b9 b10 b11 b12 b13 b14 b15
      | false => exact o24_16f b0 b1 b2 b3 b4 b5 b6 b7 b8 b9 b10 b11 b12 b13 b14 b15
    | m + 17 =>
      have h1 : Int.ofNat (m + 17) > 16 := by rw [Int.ofNat_eq_natCast]; omega
      have h0 : ¬ Int.ofNat (m + 17) < 1 := by rw [Int.ofNat_eq_natCast]; omega
      rw [o24_p, decide_eq_true h1, cond_true, roomL_out (fun k => by have := k.2; omega)]
      unfold openC; rw [decide_eq_false h0, cond_false, decide_eq_true h1, cond_true]
theorem sum24 : SumOk Go.Proofs.Tryz.prog 24 (heapS rhoA S24) := sumOk_heapF mixed ftok ttok ntok ot5_ok (lf := 1000000) (m := 30) (by
  intro a os cs v L h _
  unfold S24 at h
  split at h
  · cases h
    exact ⟨[1], 3, 3, k24 _ _ _ _ _ _ _ _ _ _ _ _ _ _ _ _ _ _⟩
  · cases h)
end
end Go.VM

