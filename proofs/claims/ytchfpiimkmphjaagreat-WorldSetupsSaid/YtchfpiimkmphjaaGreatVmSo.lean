/- slices.Sorted over maps.Keys: the keys of a map of ints. -/
import Derived.Test.YtchfpiimkmphjaaGreatVmP7
import Derived.Lib.SlKeysI
import Derived.Shelf.SlIterI.Nil
import Derived.Shelf.SlIterI.Sorted
namespace Go.VM
open Go

theorem insI_perm (x : Int) : ∀ l : List Int, (insI x l).Perm (x :: l) := by
  intro l
  induction l with
  | nil => exact .refl _
  | cons y ys ih =>
    unfold insI
    by_cases h : x ≤ y
    · rw [decide_eq_true h, cond_true]
    · rw [decide_eq_false h, cond_false]
      exact (List.Perm.cons y ih).trans (List.Perm.swap x y ys)

theorem sortI_perm : ∀ l : List Int, (sortI l).Perm l := by
  intro l
  induction l with
  | nil => exact .refl _
  | cons x xs ih => exact (insI_perm x (sortI xs)).trans (List.Perm.cons x ih)

theorem insI_sorted (x : Int) : ∀ l : List Int, l.Pairwise (· ≤ ·) → (insI x l).Pairwise (· ≤ ·) := by
  intro l
  induction l with
  | nil => intro _; exact List.pairwise_singleton _ _
  | cons y ys ih =>
    intro h
    unfold insI
    by_cases hx : x ≤ y
    · rw [decide_eq_true hx, cond_true]
      refine List.pairwise_cons.2 ⟨fun z hz => ?_, h⟩
      rcases List.mem_cons.1 hz with rfl | hz
      · exact hx
      · exact Int.le_trans hx ((List.pairwise_cons.1 h).1 z hz)
    · rw [decide_eq_false hx, cond_false]
      refine List.pairwise_cons.2 ⟨fun z hz => ?_, ih (List.pairwise_cons.1 h).2⟩
      rcases List.mem_cons.1 ((insI_perm x ys).mem_iff.1 hz) with rfl | hz
      · omega
      · exact (List.pairwise_cons.1 h).1 z hz

theorem sortI_sorted : ∀ l : List Int, (sortI l).Pairwise (· ≤ ·) := by
  intro l
  induction l with
  | nil => exact List.Pairwise.nil
  | cons x xs ih => exact insI_sorted x _ ih

theorem merge_sortI {ss ns : List Int} (h : ss.Perm ns) : ss.mergeSort (fun x y => decide (x ≤ y)) = sortI ns := by
  have tr : ∀ a b c : Int, leI a b = true → leI b c = true → leI a c = true := fun a b c h1 h2 => by simp only [leI, decide_eq_true_eq] at *; exact Int.le_trans h1 h2
  have to : ∀ a b : Int, (leI a b || leI b a) = true := fun a b => by simp only [leI, Bool.or_eq_true, decide_eq_true_eq]; exact Int.le_total a b
  have p1 := List.pairwise_mergeSort tr to ss
  have p2 := sortI_sorted ns
  refine List.Perm.eq_of_pairwise (le := fun a b => a ≤ b) (fun a b _ _ h1 h2 => Int.le_antisymm h1 h2) ?_ p2 (((List.mergeSort_perm ss leI).trans h).trans (sortI_perm ns).symm)
  exact p1.imp fun hab => by simpa [leI] using hab

abbrev keyR : Value → Option (DataW Unit × List MemPlace) := fun _ => some (.nil, [])

theorem ins_perm {H : Type} : ∀ l : List (Lit × DataW H), (l.foldr DataW.insert []).Perm l := by
  intro l
  induction l with
  | nil => exact .refl _
  | cons x xs ih => exact (WideShapes.insert_perm x _).trans (List.Perm.cons x ih)

theorem key_read {P : Program} {k : TypeId} (hk : P.underlying k = some (.int .i64)) {n : Int} (hn : -9223372036854775808 ≤ n ∧ n ≤ 9223372036854775807) {x : MapEntry} (hx : x.key = .int .i64 n) :
    WideElems.rd P k keyR x = some (.int .i64 n, .nil) := by
  have hw : (Lit.int .i64 n).wf = true := by
    simp only [Lit.wf, Bool.and_eq_true, decide_eq_true_eq]
    exact ⟨hn.1, hn.2⟩
  simp [WideElems.rd, keyR, hx, keyOf, hk, mapKey, hw]

theorem owns_of {P : Program} {k : TypeId} (hk : P.underlying k = some (.int .i64)) {W : World} {b clk : Nat} {en : Array MapEntry} {ns : List Int} (hmap : W.heap[b]? = some (.map en clk)) (hst : Stm en clk)
    (hkeys : en.toList.map (·.key) = ns.map (fun n => .int .i64 n)) (hlen : ns.length ≤ 1000000) (hnd : ns.Nodup) (hrng : ∀ n ∈ ns, -9223372036854775808 ≤ n ∧ n ≤ 9223372036854775807) :
    ∃ D : DataW Unit, W.ownsMap P k keyR b en.size D ∧ (Go.intKeys D).Perm ns ∧ Maps.size D = ns.length := by
  have hl : en.toList.length = ns.length := by have := congrArg List.length hkeys; simpa using this
  have at_ : ∀ (i : Nat) (x : MapEntry), en.toList[i]? = some x → ∃ n, ns[i]? = some n ∧ x.key = .int .i64 n := by
    intro i x hx
    have := congrArg (·[i]?) hkeys
    simp only [List.getElem?_map, hx, Option.map_some] at this
    cases hn : ns[i]? with
    | none => rw [hn] at this; cases this
    | some n => rw [hn] at this; simp only [Option.map_some, Option.some.injEq] at this; exact ⟨n, rfl, this⟩
  have hread : ∀ (i : Nat) (x : MapEntry) (n : Int), en.toList[i]? = some x → ns[i]? = some n → WideElems.rd P k keyR x = some (.int .i64 n, .nil) := by
    intro i x n hx hn
    obtain ⟨m, h1, h2⟩ := at_ i x hx
    rw [hn] at h1; cases h1
    exact key_read hk (hrng n (List.mem_of_getElem? hn)) h2
  have hrg : en.toList.map (WideElems.rg P k keyR) = ns.map (fun n => (Lit.int .i64 n, DataW.nil)) := by
    apply List.ext_getElem?
    intro i
    rw [List.getElem?_map, List.getElem?_map]
    cases hx : en.toList[i]? with
    | none =>
      have : ns[i]? = none := by
        rw [List.getElem?_eq_none_iff] at hx ⊢; omega
      rw [this]; rfl
    | some x =>
      obtain ⟨n, h1, _⟩ := at_ i x hx
      rw [h1]
      simp only [Option.map_some]
      rw [WideElems.rg, hread i x n hx h1]; rfl
  refine ⟨.map ((en.toList.map (WideElems.rg P k keyR)).foldr DataW.insert []), ⟨en, clk, hmap, ⟨?_, ⟨hst.1, hst.2, ?_⟩, ?_⟩, Nat.le_refl _, rfl⟩, ?_, ?_⟩
  · unfold maxLen; have : en.size = ns.length := by simpa using hl
    omega
  · rw [hkeys]
    have : ∀ l : List Int, l.Nodup → (l.map fun n => Value.int .i64 n).Nodup := by
      intro l
      induction l with
      | nil => intro _; simp
      | cons x xs ih =>
        intro h
        rw [List.map_cons, List.nodup_cons]
        rw [List.nodup_cons] at h
        refine ⟨fun hm => ?_, ih h.2⟩
        obtain ⟨y, hy, e⟩ := List.mem_map.1 hm
        cases e
        exact h.1 hy
    exact this ns hnd
  · intro x hx
    obtain ⟨i, hi, rfl⟩ := List.getElem_of_mem hx
    have h0 := List.getElem?_eq_getElem hi
    obtain ⟨n, h1, _⟩ := at_ i _ h0
    exact ⟨_, hread i _ n h0 h1⟩
  · have hp := ins_perm (en.toList.map (WideElems.rg P k keyR))
    have := hp.map (fun p => Go.intOf p.1)
    refine List.Perm.trans this ?_
    rw [hrg, List.map_map]
    have : (fun p : Lit × DataW Unit => Go.intOf p.1) ∘ (fun n => (Lit.int .i64 n, DataW.nil)) = id := by funext n; rfl
    rw [this, List.map_id]
  · have hp := (ins_perm (en.toList.map (WideElems.rg P k keyR))).length_eq
    show ((en.toList.map (WideElems.rg P k keyR)).foldr DataW.insert []).length = _
    rw [hp, hrg]; simp

theorem old_of {w w' : World} (h : RowKit.Below w.heap.size w w') : Old w w' := ⟨h.os, h.tape, h.output, h.size, h.block⟩

end Go.VM

