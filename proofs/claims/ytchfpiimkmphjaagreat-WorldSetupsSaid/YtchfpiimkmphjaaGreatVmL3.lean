/- Opening a law's arguments; closing a law. -/
import Derived.Test.YtchfpiimkmphjaaGreatVmP9
import Derived.ProofKit
namespace Go.VM
open Go

theorem LOk.int_inv {k : IntKind} {v : AV} (h : LOk (.int k) v) : ∃ n, v = .int k n ∧ k.min ≤ n ∧ n ≤ k.max := by unfold LOk at h; cases h with | int a b => exact ⟨_, rfl, a, b⟩
theorem LOk.bool_inv {v : AV} (h : LOk .bool v) : ∃ b, v = .bool b := by unfold LOk at h; cases h; exact ⟨_, rfl⟩
theorem LOk.str_inv {v : AV} (h : LOk .str v) : ∃ s, v = .str s ∧ s.size ≤ maxLen := by unfold LOk at h; cases h; exact ⟨_, rfl, ‹_›⟩
theorem LOk.slice_inv {sz : Nat} {l : List Lf} {v : AV} (h : LOk (.slice sz l) v) : ∃ es, v = .list sz es ∧ LEs l es ∧ es.length ≤ maxLen := by unfold LOk at h; cases h with | slice a b => exact ⟨_, rfl, a, b⟩
theorem ArgsOk.agg_inv {l : List Lf} {ls : List (Bool × List Lf)} {vs : List AV} (h : ArgsOk ((true, l) :: ls) vs) : ∃ cs vs', vs = .agg cs :: vs' ∧ LsOk l cs ∧ ArgsOk ls vs' := by cases h with | agg a b => exact ⟨_, _, rfl, a, b⟩
theorem ArgsOk.one_inv {l : Lf} {ls : List (Bool × List Lf)} {vs : List AV} (h : ArgsOk ((false, [l]) :: ls) vs) : ∃ v vs', vs = v :: vs' ∧ LOk l v ∧ ArgsOk ls vs' := by cases h with | one a b => exact ⟨_, _, rfl, a, b⟩
theorem ArgsOk.inv_nil {vs : List AV} (h : ArgsOk [] vs) : vs = [] := by cases h; rfl

theorem post_of_only {H : Type} {enc : TypeId × Value → H} {P : Program} {f : Func} {s : ChangeSpec} {apart fresh handsOn : Bool} {W W' : World} {args : Array Value} {v : Value} {ds gs : List (DataW H)} {before pa pv : List MemPlace}
    (hW : DataW.Whole enc P f.params.toList s.vars apart W args.toList ds gs before)
    (hres : ∀ (b : Nat) (sp : Nat → Bool) (hd : Bool), DataW.TrodAll enc P W' b sp hd f.resultTypes.toList (v.resultList f.resultTypes.size) (s.fn H (ds ++ gs)).results [])
    (hargs : ∀ sp : Nat → Bool, (∀ p ∈ before, sp p.block = true) → DataW.TrodAll enc P W' 0 sp true f.params.toList args.toList (s.fn H (ds ++ gs)).args pa)
    (hvars : ∀ sp : Nat → Bool, (∀ p ∈ before, sp p.block = true) → DataW.TrodVars enc P W' sp s.vars (s.fn H (ds ++ gs)).vars pv)
    (hk : ∀ may, W.keptBut W' may) :
    s.post enc P f apart fresh handsOn false W args v W' := by
  have hold : ∀ p ∈ before, (fun b => decide (b < W.heap.size)) p.block = true := fun p hp => by simpa using hW.lt p hp
  exact ⟨ds, gs, before, [], pa, pv, hW, hres _ _ _, hargs _ hold, hvars _ hold, hk _, fun h => by cases h⟩

theorem trod_len {H : Type} {enc : TypeId × Value → H} {P : Program} {W : World} {b : Nat} {sp : Nat → Bool} {hd : Bool} : ∀ {ts : List TypeId} {vs : List Value} {ds : List (DataW H)} {ps : List MemPlace}, DataW.TrodAll enc P W b sp hd ts vs ds ps → ds.length = ts.length
  | [], [], [], _, _ => rfl
  | _ :: _, _ :: _, _ :: _, _, ⟨_, _, _, h, _⟩ => by simp [trod_len h]

/-- A run that hands its rest on. -/
theorem run_of_K {ft : Tr FI} {tt : TT} {nt : NT} {ot : OT} {lf n : Nat} {c : Callee} {args : List AV} {H : AH} {v : AV} (h : funK ft tt nt ot lf n c args H (fun v _ => some v) = some v) :
    ∃ H', funA ft tt nt ot lf n c args H = some (v, H') := by
  rw [funK_eq] at h
  obtain ⟨⟨u, K⟩, h1, h2⟩ := bindSome h
  simp only [Option.some.injEq] at h2
  subst h2
  exact ⟨K, h1⟩

end Go.VM

