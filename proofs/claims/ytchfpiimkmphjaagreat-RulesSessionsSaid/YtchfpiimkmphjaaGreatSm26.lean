/- A part of the proof: Sm26. No condition. -/
import Derived.Test.YtchfpiimkmphjaaGreatN0
import Derived.Test.YtchfpiimkmphjaaGreatSe0
import Derived.KernelRfl
namespace Go.VM
open Go
set_option maxRecDepth 1000000
noncomputable section
-- SameInts of two equal lists
def chk26 : List Int → Option AV
  | [] => some (.bool true)
  | n :: ns => cond (n != n) (some (.bool false)) (chk26 ns)
theorem chk26_true (ns : List Int) : chk26 ns = some (.bool true) := by
  induction ns with
  | nil => rfl
  | cons n ns ih => simp only [chk26, bne_self_eq_false, cond_false, ih]
def eqRows : List (List AV) → List (List AV) → Bool
  | [], [] => true
  | [.int .i64 a] :: xs, [.int .i64 b] :: zs => cond (decide (a = b)) (eqRows xs zs) false
  | _, _ => false
theorem eqRows_ok : ∀ (a b : List (List AV)), eqRows a b = true → ∃ ns, a = rowI ns ∧ b = rowI ns := by
  intro a b
  fun_induction eqRows a b with
  | case1 => intro _; exact ⟨[], rfl, rfl⟩
  | case2 a xs b zs ih =>
    intro h
    by_cases hab : a = b
    · rw [decide_eq_true hab, cond_true] at h
      obtain ⟨ns, h1, h2⟩ := ih h
      exact ⟨a :: ns, by rw [h1]; rfl, by rw [h2, hab]; rfl⟩
    · rw [decide_eq_false hab, cond_false] at h; cases h
  | case3 => intro h; cases h
theorem eqRows_self (ns : List Int) : eqRows (rowI ns) (rowI ns) = true := by
  induction ns with
  | nil => rfl
  | cons n ns ih => simp only [rowI, eqRows, ih, decide_true, cond_true]
theorem rowI_len (ns : List Int) : (rowI ns).length = ns.length := by
  induction ns with
  | nil => rfl
  | cons n ns ih => simp only [rowI, List.length_cons, ih]
theorem rowsS_rowI (ys : List Int) : rowsS ys = rowI ys.reverse := by
  unfold rowsS
  induction ys.reverse with
  | nil => rfl
  | cons n ns ih => simp only [List.map_cons, rowI, ih]
def S26 : List AV → Option (List Bool × AV)
  | [.list 1 a, .list 1 b] => some ([Nat.ble a.length 16, eqRows a b], .bool true)
  | _ => none
theorem t26_0 : kf 26 ot5 [.list 1 (rowI []), .list 1 (rowI [])] = chk26 [] := by kernel_rfl
theorem t26_1 (n0 : Int) : kf 26 ot5 [.list 1 (rowI [n0]), .list 1 (rowI [n0])] = chk26 [n0] := by kernel_rfl
theorem t26_2 (n0 n1 : Int) : kf 26 ot5 [.list 1 (rowI [n0, n1]), .list 1 (rowI [n0, n1])] = chk26 [n0, n1] := by kernel_rfl
theorem t26_3 (n0 n1 n2 : Int) : kf 26 ot5 [.list 1 (rowI [n0, n1, n2]), .list 1 (rowI [n0, n1, n2])] = chk26 [n0, n1, n2] := by kernel_rfl
theorem t26_4 (n0 n1 n2 n3 : Int) : kf 26 ot5 [.list 1 (rowI [n0, n1, n2, n3]), .list 1 (rowI [n0, n1, n2, n3])] = chk26 [n0, n1, n2, n3] := by kernel_rfl
theorem t26_5 (n0 n1 n2 n3 n4 : Int) : kf 26 ot5 [.list 1 (rowI [n0, n1, n2, n3, n4]), .list 1 (rowI [n0, n1, n2, n3, n4])] = chk26 [n0, n1, n2, n3, n4] := by kernel_rfl
theorem t26_6 (n0 n1 n2 n3 n4 n5 : Int) : kf 26 ot5 [.list 1 (rowI [n0, n1, n2, n3, n4, n5]), .list 1 (rowI [n0, n1, n2, n3, n4, n5])] = chk26 [n0, n1, n2, n3, n4, n5] := by kernel_rfl
theorem t26_7 (n0 n1 n2 n3 n4 n5 n6 : Int) : kf 26 ot5 [.list 1 (rowI [n0, n1, n2, n3, n4, n5, n6]), .list 1 (rowI [n0, n1, n2, n3, n4, n5, n6])] = chk26 [n0, n1, n2, n3, n4, n5, n6] := by kernel_rfl
theorem t26_8 (n0 n1 n2 n3 n4 n5 n6 n7 : Int) : kf 26 ot5 [.list 1 (rowI [n0, n1, n2, n3, n4, n5, n6, n7]), .list 1 (rowI [n0, n1, n2, n3, n4, n5, n6, n7])] = chk26 [n0, n1, n2, n3, n4, n5, n6, n7] := by kernel_rfl
theorem t26_9 (n0 n1 n2 n3 n4 n5 n6 n7 n8 : Int) : kf 26 ot5 [.list 1 (rowI [n0, n1, n2, n3, n4, n5, n6, n7, n8]), .list 1 (rowI [n0, n1, n2, n3, n4, n5, n6, n7, n8])] = chk26 [n0, n1, n2, n3, n4, n5, n6, n7, n8] := by kernel_rfl
theorem t26_10 (n0 n1 n2 n3 n4 n5 n6 n7 n8 n9 : Int) : kf 26 ot5 [.list 1 (rowI [n0, n1, n2, n3, n4, n5, n6, n7, n8, n9]), .list 1 (rowI [n0, n1, n2, n3, n4, n5, n6, n7, n8, n9])] = chk26 [n0, n1, n2, n3, n4, n5, n6, n7, n8, n9] := by kernel_rfl
theorem t26_11 (n0 n1 n2 n3 n4 n5 n6 n7 n8 n9 n10 : Int) : kf 26 ot5 [.list 1 (rowI [n0, n1, n2, n3, n4, n5, n6, n7, n8, n9, n10]), .list 1 (rowI [n0, n1, n2, n3, n4, n5, n6, n7, n8, n9, n10])] = chk26 [n0, n1, n2, n3, n4, n5, n6, n7, n8, n9, n10] := by kernel_rfl
theorem t26_12 (n0 n1 n2 n3 n4 n5 n6 n7 n8 n9 n10 n11 : Int) : kf 26 ot5 [.list 1 (rowI [n0, n1, n2, n3, n4, n5, n6, n7, n8, n9, n10, n11]), .list 1 (rowI [n0, n1, n2, n3, n4, n5, n6, n7, n8, n9, n10, n11])] = chk26 [n0, n1, n2, n3, n4, n5, n6, n7, n8, n9, n10, n11] := by kernel_rfl
theorem t26_13 (n0 n1 n2 n3 n4 n5 n6 n7 n8 n9 n10 n11 n12 : Int) : kf 26 ot5 [.list 1 (rowI [n0, n1, n2, n3, n4, n5, n6, n7, n8, n9, n10, n11, n12]), .list 1 (rowI [n0, n1, n2, n3, n4, n5, n6, n7, n8, n9, n10, n11, n12])] = chk26 [n0, n1, n2, n3, n4, n5, n6, n7, n8, n9, n10, n11, n12] := by kernel_rfl
theorem t26_14 (n0 n1 n2 n3 n4 n5 n6 n7 n8 n9 n10 n11 n12 n13 : Int) : kf 26 ot5 [.list 1 (rowI [n0, n1, n2, n3, n4, n5, n6, n7, n8, n9, n10, n11, n12, n13]), .list 1 (rowI [n0, n1, n2, n3, n4, n5, n6, n7, n8, n9, n10, n11, n12, n13])] = chk26 [n0, n1, n2, n3, n4, n5, n6, n7, n8, n9, n10, n11, n12, n13] := by kernel_rfl
theorem t26_15 (n0 n1 n2 n3 n4 n5 n6 n7 n8 n9 n10 n11 n12 n13 n14 : Int) : kf 26 ot5 [.list 1 (rowI [n0, n1, n2, n3, n4, n5, n6, n7, n8, n9, n10, n11, n12, n13, n14]), .list 1 (rowI [n0, n1, n2, n3, n4, n5, n6, n7, n8, n9, n10, n11, n12, n13, n14])] = chk26 [n0, n1, n2, n3, n4, n5, n6, n7, n8, n9, n10, n11, n12, n13, n14] := by kernel_rfl
theorem t26_16 (n0 n1 n2 n3 n4 n5 n6 n7 n8 n9 n10 n11 n12 n13 n14 n15 : Int) : kf 26 ot5 [.list 1 (rowI [n0, n1, n2, n3, n4, n5, n6, n7, n8, n9, n10, n11, n12, n13, n14, n15]), .list 1 (rowI [n0, n1, n2, n3, n4, n5, n6, n7, n8, n9, n10, n11, n12, n13, n14, n15])] = chk26 [n0, n1, n2, n3, n4, n5, n6, n7, n8, n9, n10, n11, n12, n13, n14, n15] := by kernel_rfl
theorem t26 (ns : List Int) (h : ns.length ≤ 16) : kf 26 ot5 [.list 1 (rowI ns), .list 1 (rowI ns)] = some (.bool true) := by
  match ns, h with
  | [], _ => exact (t26_0 ).trans (chk26_true _)
  | [n0], _ => exact (t26_1 n0).trans (chk26_true _)
  | [n0, n1], _ => exact (t26_2 n0 n1).trans (chk26_true _)
  | [n0, n1, n2], _ => exact (t26_3 n0 n1 n2).trans (chk26_true _)
  | [n0, n1, n2, n3], _ => exact (t26_4 n0 n1 n2 n3).trans (chk26_true _)
  | [n0, n1, n2, n3, n4], _ => exact (t26_5 n0 n1 n2 n3 n4).trans (chk26_true _)
  | [n0, n1, n2, n3, n4, n5], _ => exact (t26_6 n0 n1 n2 n3 n4 n5).trans (chk26_true _)
  | [n0, n1, n2, n3, n4, n5, n6], _ => exact (t26_7 n0 n1 n2 n3 n4 n5 n6).trans (chk26_true _)
  | [n0, n1, n2, n3, n4, n5, n6, n7], _ => exact (t26_8 n0 n1 n2 n3 n4 n5 n6 n7).trans (chk26_true _)
  | [n0, n1, n2, n3, n4, n5, n6, n7, n8], _ => exact (t26_9 n0 n1 n2 n3 n4 n5 n6 n7 n8).trans (chk26_true _)
  | [n0, n1, n2, n3, n4, n5, n6, n7, n8, n9], _ => exact (t26_10 n0 n1 n2 n3 n4 n5 n6 n7 n8 n9).trans (chk26_true _)
  | [n0, n1, n2, n3, n4, n5, n6, n7, n8, n9, n10], _ => exact (t26_11 n0 n1 n2 n3 n4 n5 n6 n7 n8 n9 n10).trans (chk26_true _)
  | [n0, n1, n2, n3, n4, n5, n6, n7, n8, n9, n10, n11], _ => exact (t26_12 n0 n1 n2 n3 n4 n5 n6 n7 n8 n9 n10 n11).trans (chk26_true _)
  | [n0, n1, n2, n3, n4, n5, n6, n7, n8, n9, n10, n11, n12], _ => exact (t26_13 n0 n1 n2 n3 n4 n5 n6 n7 n8 n9 n10 n11 n12).trans (chk26_true _)
  | [n0, n1, n2, n3, n4, n5, n6, n7, n8, n9, n10, n11, n12, n13], _ => exact (t26_14 n0 n1 n2 n3 n4 n5 n6 n7 n8 n9 n10 n11 n12 n13).trans (chk26_true _)
  | [n0, n1, n2, n3, n4, n5, n6, n7, n8, n9, n10, n11, n12, n13, n14], _ => exact (t26_15 n0 n1 n2 n3 n4 n5 n6 n7 n8 n9 n10 n11 n12 n13 n14).trans (chk26_true _)
  | [n0, n1, n2, n3, n4, n5, n6, n7, n8, n9, n10, n11, n12, n13, n14, n15], _ => exact (t26_16 n0 n1 n2 n3 n4 n5 n6 n7 n8 n9 n10 n11 n12 n13 n14 n15).trans (chk26_true _)
  | _ :: _ :: _ :: _ :: _ :: _ :: _ :: _ :: _ :: _ :: _ :: _ :: _ :: _ :: _ :: _ :: _ :: _, h => simp at h; try omega
theorem sum26 : SumOk Go.Proofs.Tryz.prog 26 (pureS S26) := pureOk ot5_ok (by
  intro args cs v h hcs
  unfold S26 at h
  split at h
  · rename_i a b
    cases h
    obtain ⟨c1, hcs⟩ := allB_cons hcs
    obtain ⟨c2, _⟩ := allB_cons hcs
    obtain ⟨ns, rfl, rfl⟩ := eqRows_ok a b c2
    have := Nat.le_of_ble_eq_true c1
    rw [rowI_len] at this
    exact t26 ns this
  · cases h)
theorem sum26z : SumOk Go.Proofs.Tryz.prog 26 (pureZ S26) := sumOk_pureZ sum26 (by
  intro args cs v H h hcs
  unfold S26 at h
  split at h
  · rename_i a b
    cases h
    obtain ⟨c1, hcs⟩ := allB_cons hcs
    obtain ⟨c2, _⟩ := allB_cons hcs
    obtain ⟨ns, rfl, rfl⟩ := eqRows_ok a b c2
    simp only [mapO, frz_rowI H 28, Option.bind_some]
  · cases h)
end
end Go.VM

