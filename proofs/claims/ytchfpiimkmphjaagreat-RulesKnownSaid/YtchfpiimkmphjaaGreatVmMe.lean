/- Contracts at listed arguments. -/
import Derived.Test.YtchfpiimkmphjaaGreatVmP8
namespace Go.VM
open Go
noncomputable section

def lEq {α : Type} (f : α → α → Bool) : List α → List α → Bool
  | [], [] => true
  | x :: xs, y :: ys => cond (f x y) (lEq f xs ys) false
  | _, _ => false

def kEq (a b : IntKind) : Bool := decide (a = b)

def avEq : Nat → AV → AV → Bool
  | 0, _, _ => false
  | n + 1, a, b => match a, b with
    | .bool x, .bool y => x == y
    | .int k x, .int l y => cond (kEq k l) (x == y) false
    | .nilp, .nilp => true
    | .nils, .nils => true
    | .emp, .emp => true
    | .emp0, .emp0 => true
    | .nilm, .nilm => true
    | .nilf, .nilf => true
    | .nili, .nili => true
    | .agg x, .agg y => lEq (avEq n) x y
    | .tup x, .tup y => lEq (avEq n) x y
    | .list s x, .list t y => cond (Nat.beq s t) (lEq (lEq (avEq n)) x y) false
    | _, _ => false

theorem lEq_ok {α : Type} {f : α → α → Bool} (hf : ∀ x y, f x y = true → x = y) : ∀ (l m : List α), lEq f l m = true → l = m := by
  intro l
  induction l with
  | nil => intro m h; cases m with
    | nil => rfl
    | cons y ys => cases h
  | cons x xs ih =>
    intro m h
    cases m with
    | nil => cases h
    | cons y ys =>
      simp only [lEq] at h
      cases hx : f x y with
      | false => rw [hx] at h; cases h
      | true => rw [hx] at h; rw [hf x y hx, ih ys h]

theorem avEq_ok : ∀ (n : Nat) (a b : AV), avEq n a b = true → a = b := by
  intro n
  induction n with
  | zero => intro a b h; cases h
  | succ n ih =>
    intro a b h
    unfold avEq at h
    split at h
    · rw [eq_of_beq h]
    · rename_i k x l y
      cases hk : kEq k l with
      | false => rw [hk] at h; cases h
      | true =>
        rw [hk, cond_true] at h
        rw [of_decide_eq_true hk, eq_of_beq h]
    · rfl
    · rfl
    · rfl
    · rfl
    · rfl
    · rfl
    · rfl
    · rw [lEq_ok ih _ _ h]
    · rw [lEq_ok ih _ _ h]
    · rename_i s x t y
      cases hs : Nat.beq s t with
      | false => rw [hs] at h; cases h
      | true =>
        rw [hs, cond_true] at h
        rw [Nat.eq_of_beq_eq_true hs, lEq_ok (lEq_ok ih) _ _ h]
    · cases h

def memoS : List (List AV × AV) → List AV → Option (List Bool × AV)
  | [], _ => none
  | p :: t, args => cond (lEq (avEq 20) p.1 args) (some ([], p.2)) (memoS t args)

theorem memoS_mem : ∀ {tab : List (List AV × AV)} {args : List AV} {cs : List Bool} {v : AV}, memoS tab args = some (cs, v) → (args, v) ∈ tab := by
  intro tab
  induction tab with
  | nil => intro args cs v h; cases h
  | cons p t ih =>
    intro args cs v h
    simp only [memoS] at h
    cases hp : lEq (avEq 20) p.1 args with
    | true =>
      rw [hp, cond_true] at h
      simp only [Option.some.injEq, Prod.mk.injEq] at h
      have e := lEq_ok (avEq_ok 20) _ _ hp
      obtain ⟨a, u⟩ := p
      simp only at e h
      rw [← e, ← h.2]; exact List.mem_cons_self
    | false => rw [hp, cond_false] at h; exact List.mem_cons_of_mem _ (ih h)

/-- A run at given arguments. -/
def ranS (ft : Tr FI) (tt : TT) (nt : NT) (ot : OT) (lf n k : Nat) (p : List AV × AV) : Prop := (funA ft tt nt ot lf n (.fn k) p.1 H0).bind (fun r => frzA r.2 false 30 r.1) = some p.2

theorem sumOk_memo {P : Program} (hmx : P.follows .mixedOrders = true) {ft : Tr FI} (hft : FTok P ft) {tt : TT} (htt : TTok P tt) {nt : NT} (hnt : NTok P nt) {ot : OT} (hot : OTok P ot) {lf n k : Nat} {tab : List (List AV × AV)}
    (hrun : ∀ p ∈ tab, ranS ft tt nt ot lf n k p) : SumOk P k (pureS (memoS tab)) := by
  refine sumOk_pure hmx hft htt hnt hot (lf := lf) (n := n) ?_
  intro args cs v h _
  have := hrun _ (memoS_mem h)
  unfold ranS at this
  obtain ⟨⟨u, H'⟩, h1, h2⟩ := bindSome this
  exact ⟨u, H', h1, h2⟩

end
end Go.VM

