/- A part of the proof: P85. No condition. -/
import Derived.Test.YtchfpiimkmphjaaGreatP0
import Derived.Test.YtchfpiimkmphjaaGreatSe0
import Derived.KernelRfl
namespace Go.VM
open Go
set_option maxRecDepth 1000000
noncomputable section
-- put, over bytes that are not known
def ap85 {R : Type} (m : Nat) (es : List (List AV)) : List AV → Option R → Option R
  | [], F => F
  | b :: bs, F => cond (Nat.ble (0 + m) es.length) (cond (okLen (m + 1) 1) (ap85 (m + 1) (es.take m ++ [[b]]) bs F) none) none
def rb (a : Int) (s : Nat) : AV := .int .u8 (IntKind.u8.wrap (a.fdiv (2 ^ s)))
def be8 (a : Int) : List AV := [rb a 56, rb a 48, rb a 40, rb a 32, rb a 24, rb a 16, rb a 8, rb a 0]
def beL : List Int → List AV
  | [] => []
  | n :: ns => be8 n ++ beL ns
def rows1 : List AV → List (List AV)
  | [] => []
  | b :: bs => [b] :: rows1 bs
/-- The heap of a writer after some bytes. -/
def grow85 (H : AH) (id : Nat) (m : Nat) (es : List (List AV)) : List AV → AH
  | [] => H
  | b :: bs => grow85 ((addS ((addS H (.arr 1 [[b]])).put id none) (.arr 1 (es.take m ++ [[b]]))).put 0 (some (.arr 1 [[.slice (H.next + 1) 1 0 (m + 1) (m + 1) false]]))) (H.next + 1) (m + 1) (es.take m ++ [[b]]) bs
def esN (m : Nat) (es : List (List AV)) : List AV → List (List AV)
  | [] => es
  | b :: bs => esN (m + 1) (es.take m ++ [[b]]) bs
theorem esN_eq : ∀ (bs : List AV) (es : List (List AV)), esN es.length es bs = es ++ rows1 bs := by
  intro bs
  induction bs with
  | nil => intro es; simp [esN, rows1]
  | cons b bs ih =>
    intro es
    have h := ih (es ++ [[b]])
    simp only [List.length_append, List.length_singleton] at h
    simp only [esN, rows1, List.take_length]
    rw [h]; simp
theorem ap85_eq {R : Type} (F : Option R) : ∀ (bs : List AV) (es : List (List AV)), es.length + bs.length ≤ 1000000 → ap85 es.length es bs F = F := by
  intro bs
  induction bs with
  | nil => intro es _; rfl
  | cons b bs ih =>
    intro es hl
    simp only [List.length_cons] at hl
    have h := ih (es ++ [[b]]) (by simp; omega)
    simp only [List.length_append, List.length_singleton] at h
    have h1 : Nat.ble (0 + es.length) es.length = true := Nat.ble_eq_true_of_le (by omega)
    have h2 : okLen (es.length + 1) 1 = true := by
      unfold okLen
      rw [Nat.ble_eq_true_of_le (show es.length + 1 ≤ 1000000 by omega)]; rfl
    simp only [ap85, h1, h2, cond_true, List.take_length]
    exact h
def plainB : List (List AV) → Bool
  | [] => true
  | [.int .u8 _] :: es => plainB es
  | _ => false
theorem plainB_ren (r : Nat → Option Nat) : ∀ (es : List (List AV)), plainB es = true → mapO (mapO (renA r 30)) es = some es := by
  intro es
  induction es with
  | nil => intro _; rfl
  | cons e es ih =>
    intro h
    unfold plainB at h
    split at h
    · rename_i heq; cases heq
    · rename_i n es' heq
      cases heq
      show (mapO (renA r 30) [.int .u8 n]).bind (fun y => (mapO (mapO (renA r 30)) es).bind fun ys => some (y :: ys)) = _
      rw [ih h]; rfl
    · cases h
theorem plainB_app : ∀ (es fs : List (List AV)), plainB es = true → plainB fs = true → plainB (es ++ fs) = true := by
  intro es
  induction es with
  | nil => intro fs _ h; exact h
  | cons e es ih =>
    intro fs h1 h2
    unfold plainB at h1
    split at h1
    · rename_i heq; cases heq
    · rename_i n es' heq
      cases heq
      exact ih fs h1 h2
    · cases h1
theorem memN_out {x : Nat} {l : List Nat} (h : memN x l = false) : x ∉ l := memN_not.1 (by rw [h]; rfl)
theorem t85_1 {R : Type} (a0 : Int) (m c k2 : Nat) (x : Bool) (es : List (List AV)) (G : AV → AH → Option R) : funK ftc ttg ntc ot5 1000000 30 (.fn 85) [.ptr 0 1 0 0, .slice 2 1 0 1 k2 x] (heap0 [.arr 1 [[.slice 1 1 0 m c false]], .arr 1 es, .arr 1 [[.int .i64 a0]]]) G =
  ap85 m es (beL [a0]) (G (.tup []) (grow85 (heap0 [.arr 1 [[.slice 1 1 0 m c false]], .arr 1 es, .arr 1 [[.int .i64 a0]]]) 1 m es (beL [a0]))) := by kernel_rfl
theorem ran85_1 (a0 : Int) (c : Nat) (es : List (List AV)) (hp : plainB es = true) : RanL 3 (.tup []) (grow85 (heap0 [.arr 1 [[.slice 1 1 0 es.length c false]], .arr 1 es, .arr 1 [[.int .i64 a0]]]) 1 es.length es (beL [a0])) (.tup [])
    [some (.arr 1 [[.slice 3 1 0 (es.length + 8) (es.length + 8) false]]), some .defd, none, some (.arr 1 (es ++ rows1 (beL [a0])))] [0, 1, 2, 18] := by
  refine ⟨rfl, by kernel_rfl, ?_, ?_, rfl, ?_, ?_, ?_⟩
  · intro j hj
    match j, hj with
    | 0, _ => rfl
    | 1, _ => rfl
    | 2, _ => rfl
  · intro j i hj hi
    match j, hj with
    | 3, _ => cases hi; omega
    | j + 4, _ => cases hi
  · intro j hj hL
    match j, hj with
    | 0, _ => cases hL
    | 1, _ => cases hL
    | 2, _ => exact memN_out (by kernel_rfl)
  · intro j o hL hd
    match j with
    | 0 => cases hL; exact ⟨0, .arr 1 [[.slice 18 1 0 (es.length + 8) (es.length + 8) false]], rfl, by kernel_rfl, .inl (by kernel_rfl)⟩
    | 1 => cases hL; exact absurd rfl hd
    | 2 => cases hL
    | 3 =>
      cases hL
      have hg : (grow85 (heap0 [.arr 1 [[.slice 1 1 0 es.length c false]], .arr 1 es, .arr 1 [[.int .i64 a0]]]) 1 es.length es (beL [a0])).get 18 = some (.arr 1 (esN es.length es (beL [a0]))) := by kernel_rfl
      rw [esN_eq] at hg
      refine ⟨18, _, rfl, hg, .inl ?_⟩
      simp only [renO]
      rw [plainB_ren _ _ (plainB_app _ _ hp (by rfl))]
      rfl
    | j + 4 => cases hL
  · intro j hL
    match j with
    | 0 => cases hL
    | 1 => omega
    | 2 => cases hL
    | 3 => cases hL
    | j + 4 => cases hL
theorem t85_2 {R : Type} (a0 a1 : Int) (m c k2 : Nat) (x : Bool) (es : List (List AV)) (G : AV → AH → Option R) : funK ftc ttg ntc ot5 1000000 30 (.fn 85) [.ptr 0 1 0 0, .slice 2 1 0 2 k2 x] (heap0 [.arr 1 [[.slice 1 1 0 m c false]], .arr 1 es, .arr 1 [[.int .i64 a0], [.int .i64 a1]]]) G =
  ap85 m es (beL [a0, a1]) (G (.tup []) (grow85 (heap0 [.arr 1 [[.slice 1 1 0 m c false]], .arr 1 es, .arr 1 [[.int .i64 a0], [.int .i64 a1]]]) 1 m es (beL [a0, a1]))) := by kernel_rfl
theorem ran85_2 (a0 a1 : Int) (c : Nat) (es : List (List AV)) (hp : plainB es = true) : RanL 3 (.tup []) (grow85 (heap0 [.arr 1 [[.slice 1 1 0 es.length c false]], .arr 1 es, .arr 1 [[.int .i64 a0], [.int .i64 a1]]]) 1 es.length es (beL [a0, a1])) (.tup [])
    [some (.arr 1 [[.slice 3 1 0 (es.length + 16) (es.length + 16) false]]), some .defd, none, some (.arr 1 (es ++ rows1 (beL [a0, a1])))] [0, 1, 2, 34] := by
  refine ⟨rfl, by kernel_rfl, ?_, ?_, rfl, ?_, ?_, ?_⟩
  · intro j hj
    match j, hj with
    | 0, _ => rfl
    | 1, _ => rfl
    | 2, _ => rfl
  · intro j i hj hi
    match j, hj with
    | 3, _ => cases hi; omega
    | j + 4, _ => cases hi
  · intro j hj hL
    match j, hj with
    | 0, _ => cases hL
    | 1, _ => cases hL
    | 2, _ => exact memN_out (by kernel_rfl)
  · intro j o hL hd
    match j with
    | 0 => cases hL; exact ⟨0, .arr 1 [[.slice 34 1 0 (es.length + 16) (es.length + 16) false]], rfl, by kernel_rfl, .inl (by kernel_rfl)⟩
    | 1 => cases hL; exact absurd rfl hd
    | 2 => cases hL
    | 3 =>
      cases hL
      have hg : (grow85 (heap0 [.arr 1 [[.slice 1 1 0 es.length c false]], .arr 1 es, .arr 1 [[.int .i64 a0], [.int .i64 a1]]]) 1 es.length es (beL [a0, a1])).get 34 = some (.arr 1 (esN es.length es (beL [a0, a1]))) := by kernel_rfl
      rw [esN_eq] at hg
      refine ⟨34, _, rfl, hg, .inl ?_⟩
      simp only [renO]
      rw [plainB_ren _ _ (plainB_app _ _ hp (by rfl))]
      rfl
    | j + 4 => cases hL
  · intro j hL
    match j with
    | 0 => cases hL
    | 1 => omega
    | 2 => cases hL
    | 3 => cases hL
    | j + 4 => cases hL
theorem t85_5 {R : Type} (a0 a1 a2 a3 a4 : Int) (m c k2 : Nat) (x : Bool) (es : List (List AV)) (G : AV → AH → Option R) : funK ftc ttg ntc ot5 1000000 30 (.fn 85) [.ptr 0 1 0 0, .slice 2 1 0 5 k2 x] (heap0 [.arr 1 [[.slice 1 1 0 m c false]], .arr 1 es, .arr 1 [[.int .i64 a0], [.int .i64 a1], [.int .i64 a2], [.int .i64 a3], [.int .i64 a4]]]) G =
  ap85 m es (beL [a0, a1, a2, a3, a4]) (G (.tup []) (grow85 (heap0 [.arr 1 [[.slice 1 1 0 m c false]], .arr 1 es, .arr 1 [[.int .i64 a0], [.int .i64 a1], [.int .i64 a2], [.int .i64 a3], [.int .i64 a4]]]) 1 m es (beL [a0, a1, a2, a3, a4]))) := by kernel_rfl
theorem ran85_5 (a0 a1 a2 a3 a4 : Int) (c : Nat) (es : List (List AV)) (hp : plainB es = true) : RanL 3 (.tup []) (grow85 (heap0 [.arr 1 [[.slice 1 1 0 es.length c false]], .arr 1 es, .arr 1 [[.int .i64 a0], [.int .i64 a1], [.int .i64 a2], [.int .i64 a3], [.int .i64 a4]]]) 1 es.length es (beL [a0, a1, a2, a3, a4])) (.tup [])
    [some (.arr 1 [[.slice 3 1 0 (es.length + 40) (es.length + 40) false]]), some .defd, none, some (.arr 1 (es ++ rows1 (beL [a0, a1, a2, a3, a4])))] [0, 1, 2, 82] := by
  refine ⟨rfl, by kernel_rfl, ?_, ?_, rfl, ?_, ?_, ?_⟩
  · intro j hj
    match j, hj with
    | 0, _ => rfl
    | 1, _ => rfl
    | 2, _ => rfl
  · intro j i hj hi
    match j, hj with
    | 3, _ => cases hi; omega
    | j + 4, _ => cases hi
  · intro j hj hL
    match j, hj with
    | 0, _ => cases hL
    | 1, _ => cases hL
    | 2, _ => exact memN_out (by kernel_rfl)
  · intro j o hL hd
    match j with
    | 0 => cases hL; exact ⟨0, .arr 1 [[.slice 82 1 0 (es.length + 40) (es.length + 40) false]], rfl, by kernel_rfl, .inl (by kernel_rfl)⟩
    | 1 => cases hL; exact absurd rfl hd
    | 2 => cases hL
    | 3 =>
      cases hL
      have hg : (grow85 (heap0 [.arr 1 [[.slice 1 1 0 es.length c false]], .arr 1 es, .arr 1 [[.int .i64 a0], [.int .i64 a1], [.int .i64 a2], [.int .i64 a3], [.int .i64 a4]]]) 1 es.length es (beL [a0, a1, a2, a3, a4])).get 82 = some (.arr 1 (esN es.length es (beL [a0, a1, a2, a3, a4]))) := by kernel_rfl
      rw [esN_eq] at hg
      refine ⟨82, _, rfl, hg, .inl ?_⟩
      simp only [renO]
      rw [plainB_ren _ _ (plainB_app _ _ hp (by rfl))]
      rfl
    | j + 4 => cases hL
  · intro j hL
    match j with
    | 0 => cases hL
    | 1 => omega
    | 2 => cases hL
    | 3 => cases hL
    | j + 4 => cases hL
theorem t85x (a0 a1 e0 e1 e2 e3 : Int) (k2 : Nat) (x : Bool) : funK ftc ttg ntc ot5 1000000 30 (.fn 85) [.ptr 0 1 0 0, .slice 2 1 0 2 k2 x] (heap0 [.arr 1 [[.slice 1 1 0 4 4 true]], .arr 1 [[.int .u8 e0], [.int .u8 e1], [.int .u8 e2], [.int .u8 e3]], .arr 1 [[.int .i64 a0], [.int .i64 a1]]]) (fun u H1 => canonL [0] 3 4 4 u H1) =
  some (.tup [], [some (.arr 1 [[.slice 3 1 0 20 20 false]]), none, none, some (.arr 1 ([[.int .u8 e0], [.int .u8 e1], [.int .u8 e2], [.int .u8 e3]] ++ rows1 (beL [a0, a1])))]) := by kernel_rfl
def S85 : HS
  | [.ptr 0 1 0 0, .slice 2 1 0 2 _ _], [.arr 1 [[.slice 1 1 0 4 4 true]], .arr 1 [[.int .u8 e0], [.int .u8 e1], [.int .u8 e2], [.int .u8 e3]], .arr 1 [[.int .i64 a0], [.int .i64 a1]]] =>
    some ([], .tup [], [some (.arr 1 [[.slice 3 1 0 20 20 false]]), none, none, some (.arr 1 ([[.int .u8 e0], [.int .u8 e1], [.int .u8 e2], [.int .u8 e3]] ++ rows1 (beL [a0, a1])))])
  | [.ptr 0 1 0 0, .slice 2 1 0 1 _ _], [.arr 1 [[.slice 1 1 0 m _ false]], .arr 1 es, .arr 1 [[.int .i64 a0]]] =>
    some ([Nat.beq m es.length, Nat.ble m 900000, plainB es], .tup [], [some (.arr 1 [[.slice 3 1 0 (m + 8) (m + 8) false]]), some .defd, none, some (.arr 1 (es ++ rows1 (beL [a0])))])
  | [.ptr 0 1 0 0, .slice 2 1 0 2 _ _], [.arr 1 [[.slice 1 1 0 m _ false]], .arr 1 es, .arr 1 [[.int .i64 a0], [.int .i64 a1]]] =>
    some ([Nat.beq m es.length, Nat.ble m 900000, plainB es], .tup [], [some (.arr 1 [[.slice 3 1 0 (m + 16) (m + 16) false]]), some .defd, none, some (.arr 1 (es ++ rows1 (beL [a0, a1])))])
  | [.ptr 0 1 0 0, .slice 2 1 0 5 _ _], [.arr 1 [[.slice 1 1 0 m _ false]], .arr 1 es, .arr 1 [[.int .i64 a0], [.int .i64 a1], [.int .i64 a2], [.int .i64 a3], [.int .i64 a4]]] =>
    some ([Nat.beq m es.length, Nat.ble m 900000, plainB es], .tup [], [some (.arr 1 [[.slice 3 1 0 (m + 40) (m + 40) false]]), some .defd, none, some (.arr 1 (es ++ rows1 (beL [a0, a1, a2, a3, a4])))])
  | _, _ => none
theorem sum85 : SumOk Go.Proofs.Tryz.prog 85 (heapS2 rhoA S85) := by
  refine sumOk_heap2 mixed ftok ttg_ok ntok ot5_ok (lf := 1000000) (m := 30) ?_
  intro a os cs v L h hcs
  unfold S85 at h
  split at h
  · cases h
    rename_i k2 x e0 e1 e2 e3 a0 a1
    have h1 := t85x a0 a1 e0 e1 e2 e3 k2 x
    rw [funK_eq] at h1
    obtain ⟨⟨u, H1⟩, h2, h3⟩ := bindSome h1
    exact ⟨u, H1, _, h2, canonL1_ok h3⟩
  · rename_i k2 x m c es a0
    cases h
    obtain ⟨c1, hcs⟩ := allB_cons hcs
    obtain ⟨c2, hcs⟩ := allB_cons hcs
    obtain ⟨c3, _⟩ := allB_cons hcs
    have e1 := Nat.eq_of_beq_eq_true c1
    have e2 := Nat.le_of_ble_eq_true c2
    subst e1
    have h1 := t85_1 a0 es.length c k2 x es (fun u H1 => some (u, H1))
    rw [ap85_eq _ _ _ (by simp [beL, be8]; omega), funK_eq] at h1
    obtain ⟨⟨u, H1⟩, h2, h3⟩ := bindSome h1
    simp only [Option.some.injEq, Prod.mk.injEq] at h3
    obtain ⟨rfl, rfl⟩ := h3
    exact ⟨_, _, _, h2, ran85_1 a0 c es c3⟩
  · rename_i k2 x m c es a0 a1
    cases h
    obtain ⟨c1, hcs⟩ := allB_cons hcs
    obtain ⟨c2, hcs⟩ := allB_cons hcs
    obtain ⟨c3, _⟩ := allB_cons hcs
    have e1 := Nat.eq_of_beq_eq_true c1
    have e2 := Nat.le_of_ble_eq_true c2
    subst e1
    have h1 := t85_2 a0 a1 es.length c k2 x es (fun u H1 => some (u, H1))
    rw [ap85_eq _ _ _ (by simp [beL, be8]; omega), funK_eq] at h1
    obtain ⟨⟨u, H1⟩, h2, h3⟩ := bindSome h1
    simp only [Option.some.injEq, Prod.mk.injEq] at h3
    obtain ⟨rfl, rfl⟩ := h3
    exact ⟨_, _, _, h2, ran85_2 a0 a1 c es c3⟩
  · rename_i k2 x m c es a0 a1 a2 a3 a4
    cases h
    obtain ⟨c1, hcs⟩ := allB_cons hcs
    obtain ⟨c2, hcs⟩ := allB_cons hcs
    obtain ⟨c3, _⟩ := allB_cons hcs
    have e1 := Nat.eq_of_beq_eq_true c1
    have e2 := Nat.le_of_ble_eq_true c2
    subst e1
    have h1 := t85_5 a0 a1 a2 a3 a4 es.length c k2 x es (fun u H1 => some (u, H1))
    rw [ap85_eq _ _ _ (by simp [beL, be8]; omega), funK_eq] at h1
    obtain ⟨⟨u, H1⟩, h2, h3⟩ := bindSome h1
    simp only [Option.some.injEq, Prod.mk.injEq] at h3
    obtain ⟨rfl, rfl⟩ := h3
    exact ⟨_, _, _, h2, ran85_5 a0 a1 a2 a3 a4 c es c3⟩
  · cases h
end
end Go.VM

