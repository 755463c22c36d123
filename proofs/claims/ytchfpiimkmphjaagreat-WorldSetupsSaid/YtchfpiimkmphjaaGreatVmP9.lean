/- An abstract machine for the program form, with the proof that it is sound: part VmP9. No condition. -/
import Derived.Test.YtchfpiimkmphjaaGreatVmP8
import Derived.ReadAgain
import Derived.ChangeBears
import Derived.ChangeOld
import Derived.ChangeShapes
/- The arguments of a law, as the machine's values; and that they read afterwards as they did. -/
namespace Go.VM
open Go
noncomputable section

/-- What a cell may hold. -/
inductive Lf where
  | bool
  | int (k : IntKind)
  | str
  | slice (sz : Nat) (e : List Lf)

def catO {α : Type} : List (Option (List α)) → Option (List α)
  | [] => some []
  | x :: xs => x.bind fun a => (catO xs).bind fun b => some (a ++ b)

def offsL (fs : List (Nat × Nat × TypeId)) (ls : List (Option (List Lf))) (at_ : Nat) : Bool :=
  match fs, ls with
  | [], [] => true
  | q :: fs, some l :: ls => Nat.beq q.1 at_ && Nat.beq q.2.1 l.length && offsL fs ls (at_ + l.length)
  | _, _ => false

def leaves (tt : TT) : Nat → TypeId → Option (List Lf)
  | 0, _ => none
  | n + 1, t => (tt.get t).bind fun ti => match ti.ud with
    | .bool => some [.bool]
    | .int k => some [.int k]
    | .str => some [.str]
    | .slice e => (leaves tt n e).bind fun l => (tt.get e).bind fun te => cond (Nat.beq te.size l.length && Nat.blt 0 te.size) (some [.slice te.size l]) none
    | .struct fs => cond (offsL fs (fs.map fun q => leaves tt n q.2.2) 0) ((catO (fs.map fun q => leaves tt n q.2.2)).bind fun l => cond (Nat.beq l.length ti.size) (some l) none) none
    | .arr m e => (leaves tt n e).bind fun l => (tt.get e).bind fun te => cond (Nat.beq te.size l.length && Nat.beq ti.size (m * te.size)) (some (List.flatten (rep m l))) none
    | _ => none

/-- A cell (0), a row of cells (1), rows (2). -/
inductive LG : (Lf × AV) ⊕ ((List Lf × List AV) ⊕ (List Lf × List (List AV))) → Prop
  | bool (b : Bool) : LG (.inl (.bool, .bool b))
  | int {k : IntKind} {n : Int} (h1 : k.min ≤ n) (h2 : n ≤ k.max) : LG (.inl (.int k, .int k n))
  | str (s : ByteArray) (h : s.size ≤ maxLen) : LG (.inl (.str, .str s))
  | slice {sz : Nat} {l : List Lf} {es : List (List AV)} (h : LG (.inr (.inr (l, es)))) (hs : es.length ≤ maxLen) : LG (.inl (.slice sz l, .list sz es))
  | nil : LG (.inr (.inl ([], [])))
  | cons {l : Lf} {v : AV} {ls : List Lf} {vs : List AV} (h : LG (.inl (l, v))) (t : LG (.inr (.inl (ls, vs)))) : LG (.inr (.inl (l :: ls, v :: vs)))
  | rnil {l : List Lf} : LG (.inr (.inr (l, [])))
  | rcons {l : List Lf} {e : List AV} {es : List (List AV)} (h : LG (.inr (.inl (l, e)))) (t : LG (.inr (.inr (l, es)))) : LG (.inr (.inr (l, e :: es)))

def LOk (l : Lf) (v : AV) : Prop := LG (.inl (l, v))
def LsOk (l : List Lf) (v : List AV) : Prop := LG (.inr (.inl (l, v)))
def LEs (l : List Lf) (es : List (List AV)) : Prop := LG (.inr (.inr (l, es)))

theorem LOk.bool (b : Bool) : LOk .bool (.bool b) := LG.bool b
theorem LOk.int {k : IntKind} {n : Int} (h1 : k.min ≤ n) (h2 : n ≤ k.max) : LOk (.int k) (.int k n) := LG.int h1 h2
theorem LOk.str (s : ByteArray) (h : s.size ≤ maxLen) : LOk .str (.str s) := LG.str s h
theorem LOk.slice {sz : Nat} {l : List Lf} {es : List (List AV)} (h : LEs l es) (hs : es.length ≤ maxLen) : LOk (.slice sz l) (.list sz es) := LG.slice h hs
theorem LsOk.nil : LsOk [] [] := LG.nil
theorem LsOk.cons {l : Lf} {v : AV} {ls : List Lf} {vs : List AV} (h : LOk l v) (t : LsOk ls vs) : LsOk (l :: ls) (v :: vs) := LG.cons h t
theorem LEs.nil {l : List Lf} : LEs l [] := LG.rnil
theorem LEs.cons {l : List Lf} {e : List AV} {es : List (List AV)} (h : LsOk l e) (t : LEs l es) : LEs l (e :: es) := LG.rcons h t

theorem LsOk.inv {l : Lf} {ls : List Lf} {vs : List AV} (h : LsOk (l :: ls) vs) : ∃ v vs', vs = v :: vs' ∧ LOk l v ∧ LsOk ls vs' := by
  cases vs with
  | nil => unfold LsOk at h; cases h
  | cons v vs => unfold LsOk at h; cases h with | cons a b => exact ⟨_, _, rfl, a, b⟩

theorem LsOk.inv_nil {vs : List AV} (h : LsOk [] vs) : vs = [] := by
  cases vs with
  | nil => rfl
  | cons v vs => unfold LsOk at h; cases h

theorem LsOk.len {ls : List Lf} {vs : List AV} (h : LsOk ls vs) : vs.length = ls.length := by
  induction ls generalizing vs with
  | nil => rw [h.inv_nil]; rfl
  | cons l ls ih =>
    obtain ⟨v, vs', rfl, _, t⟩ := h.inv
    simp [ih t]

theorem LOk.cell {l : Lf} {v : AV} (h : LOk l v) : v.isCell = true := by unfold LOk at h; cases h <;> rfl

theorem LsOk.append {l l' : List Lf} {v v' : List AV} (h : LsOk l v) (h' : LsOk l' v') : LsOk (l ++ l') (v ++ v') := by
  induction l generalizing v with
  | nil => rw [h.inv_nil]; exact h'
  | cons x l ih =>
    obtain ⟨a, b, rfl, h, t⟩ := h.inv
    exact .cons h (ih t)

/-- Cells of memory, as values. -/
structure Crow (W : World) (avs : List AV) (cs : List Value) : Prop where
  len : avs.length = cs.length
  cell : ∀ (i : Nat) (v : AV), avs[i]? = some v → v.isCell = true
  val : ∀ (i : Nat) (v : AV), avs[i]? = some v → VRel (fun _ => none) (snap W) v (cs.getD i undef)

theorem Crow.nil {W : World} : Crow W [] [] := ⟨rfl, fun i v h => by simp at h, fun i v h => by simp at h⟩

theorem Crow.one {W : World} {v : AV} {c : Value} (hc : v.isCell = true) (hv : VRel (fun _ => none) (snap W) v c) : Crow W [v] [c] := by
  refine ⟨rfl, fun i u h => ?_, fun i u h => ?_⟩
  · cases i with
    | zero => cases h; exact hc
    | succ i => simp at h
  · cases i with
    | zero => cases h; exact hv
    | succ i => simp at h

theorem Crow.append {W : World} {a b : List AV} {c d : List Value} (h : Crow W a c) (h' : Crow W b d) : Crow W (a ++ b) (c ++ d) := by
  have l := h.len
  refine ⟨by simp [h.len, h'.len], fun i u hu => ?_, fun i u hu => ?_⟩
  · rw [List.getElem?_append] at hu
    split at hu
    · exact h.cell i u hu
    · exact h'.cell _ u hu
  · rw [List.getElem?_append] at hu
    split at hu
    · rename_i hlt
      have := h.val i u hu
      rw [List.getD_eq_getElem?_getD] at this ⊢
      rw [List.getElem?_append_left (by omega)]; exact this
    · rename_i hge
      have := h'.val _ u hu
      rw [List.getD_eq_getElem?_getD] at this ⊢
      rw [List.getElem?_append_right (by omega), ← l]; exact this

section
variable {H : Type} {enc : TypeId × Value → H} {P : Program} {W : World} {spare : Nat → Bool} {held : Bool} {tt : TT}

theorem cellsOf_ti (htt : TTok P tt) {t : TypeId} {ti : TI} (h : tt.get t = some ti) : P.cellsOf t = ti.size := by
  obtain ⟨i, z, h1, h2, _⟩ := (htt t ti h).info
  simp [Program.cellsOf, h1, h2]

theorem mapM_get {α β : Type} {f : α → Option β} : ∀ {l : List α} {r : List β}, l.mapM f = some r → r.length = l.length ∧ ∀ (i : Nat) (y : β), r[i]? = some y → ∃ x, l[i]? = some x ∧ f x = some y := by
  intro l
  induction l with
  | nil => intro r h; simp at h; subst h; simp
  | cons x xs ih =>
    intro r h
    rw [List.mapM_cons] at h
    simp only [Option.bind_eq_bind, Option.pure_def, Option.bind_eq_some_iff, Option.some.injEq] at h
    obtain ⟨y, hy, ys, hys, rfl⟩ := h
    obtain ⟨k1, k2⟩ := ih hys
    refine ⟨by simp [k1], fun i z hz => ?_⟩
    cases i with
    | zero => cases hz; exact ⟨x, rfl, hy⟩
    | succ i => exact k2 i z hz

theorem cells_snap {b off n : Nat} {sp : Option Nat} {cs : List Value} (h : W.cells? 0 ⟨b, off, sp⟩ n = some cs) (hn : 0 < n) :
    ∃ c, snap W b = some c ∧ sp = none ∧ off + n ≤ c.size ∧ cs.length = n ∧ ∀ i, i < n → cs.getD i undef = c.getD (off + i) undef := by
  unfold World.cells? at h
  rw [if_pos (Nat.zero_le _)] at h
  obtain ⟨k1, k2⟩ := mapM_get h
  have hlen : cs.length = n := by simpa using k1
  have at_ : ∀ i, i < n → ∃ y, cs[i]? = some y ∧ W.cell? (Addr.add ⟨b, off, sp⟩ i) = some y := by
    intro i hi
    have hi2 : i < cs.length := by omega
    obtain ⟨x, h1, h2⟩ := k2 i cs[i] (List.getElem?_eq_getElem hi2)
    have : x = i := by
      rw [List.getElem?_range (by omega)] at h1; cases h1; rfl
    subst this
    exact ⟨_, List.getElem?_eq_getElem hi2, h2⟩
  have spn : ∀ {a : Addr} {y : Value}, W.cell? a = some y → a.spot = none ∧ ∃ c e fr, W.heap[a.block]? = some (.cells c e fr) ∧ c[a.off]? = some y := by
    intro a y hy
    unfold World.cell? at hy
    split at hy
    · rename_i c e fr hb
      split at hy
      · cases hy
      · rename_i hs
        exact ⟨by simpa using hs, c, e, fr, hb, hy⟩
    · cases hy
  obtain ⟨y0, _, hc0⟩ := at_ 0 hn
  have ea : Addr.add ⟨b, off, sp⟩ 0 = ⟨b, off, sp⟩ := by simp [Addr.add]
  rw [ea] at hc0
  obtain ⟨q1, c, e, fr, q2, q3⟩ := spn hc0
  have hsp : sp = none := q1
  subst hsp
  have add_ : ∀ i, Addr.add ⟨b, off, none⟩ i = ⟨b, off + i, none⟩ := by
    intro i
    unfold Addr.add
    split
    · rename_i h0; subst h0; rfl
    · rfl
  have all : ∀ i, i < n → cs[i]? = c[off + i]? ∧ off + i < c.size := by
    intro i hi
    obtain ⟨y, h1, h2⟩ := at_ i hi
    rw [add_ i] at h2
    obtain ⟨_, c', e', fr', p2, p3⟩ := spn h2
    have p2 : W.heap[b]? = some (.cells c' e' fr') := p2
    have q2 : W.heap[b]? = some (.cells c e fr) := q2
    rw [q2] at p2
    simp only [Option.some.injEq, Obj.cells.injEq] at p2
    obtain ⟨rfl, _, _⟩ := p2
    have p3 : c[off + i]? = some y := p3
    exact ⟨by rw [h1, p3], (Array.getElem?_eq_some_iff.1 p3).1⟩
  refine ⟨c, snap_some q2, rfl, ?_, hlen, fun i hi => ?_⟩
  · have := (all (n - 1) (by omega)).2; omega
  · rw [List.getD_eq_getElem?_getD, (all i hi).1, Array.getD_eq_getD_getElem?]

theorem trod_ok (htt : TTok P tt) : ∀ (fuel n : Nat) (t : TypeId) (l : List Lf) (cs : List Value) (x : DataW H × List MemPlace), leaves tt n t = some l →
    DataW.trod enc P W 0 spare held fuel t cs = some x → ∃ avs, LsOk l avs ∧ Crow W avs cs := by
  intro fuel
  induction fuel with
  | zero => intro n t l cs x _ h; simp [DataW.trod] at h
  | succ fuel ih =>
    intro n t l cs x hl h
    cases n with
    | zero => cases hl
    | succ n =>
    simp only [leaves] at hl
    obtain ⟨ti, hti, hl⟩ := bindSome hl
    have hT := htt t ti hti
    have hco := cellsOf_ti htt hti
    rw [DataW.trod_step] at h
    unfold DataW.trodStep at h
    obtain ⟨d, hund, hud⟩ := hT.und
    rw [hund] at h
    cases hu : ti.ud with
    | bool =>
      rw [hu] at hl hud
      simp only [Option.some.injEq] at hl; subst hl
      cases d <;> try (exact hud.elim)
      split at h <;> first | (exfalso; simp_all; done) | skip
      rename_i b _
      exact ⟨[.bool b], .cons (.bool b) .nil, .one rfl (.bool b)⟩
    | int k =>
      rw [hu] at hl hud
      simp only [Option.some.injEq] at hl; subst hl
      cases d <;> try (exact hud.elim)
      have : k = _ := hud
      subst this
      split at h <;> first | (exfalso; simp_all; done) | skip
      rename_i k1 k2 m e1
      split at h
      · rename_i hc
        obtain ⟨hk, hw⟩ := hc
        cases e1
        subst hk
        simp only [Lit.wf, Bool.and_eq_true, decide_eq_true_eq] at hw
        exact ⟨[.int _ m], .cons (.int hw.1 hw.2) .nil, .one rfl (.int _ _)⟩
      · cases h
    | str =>
      rw [hu] at hl hud
      simp only [Option.some.injEq] at hl; subst hl
      cases d <;> try (exact hud.elim)
      split at h <;> first | (exfalso; simp_all; done) | skip
      rename_i s _
      split at h
      · rename_i hs
        exact ⟨[.str s], .cons (.str s hs) .nil, .one rfl (.str s)⟩
      · cases h
    | slice e =>
      rw [hu] at hl hud
      simp only at hl
      obtain ⟨le, h1, h2⟩ := bindSome hl
      obtain ⟨te, h3, h4⟩ := bindSome h2
      obtain ⟨h5, h6⟩ := condSome h4
      simp only [Option.some.injEq] at h6; subst h6
      rw [Bool.and_eq_true] at h5
      have hsz := Nat.eq_of_beq_eq_true h5.1
      have hpos := blt_iff.1 h5.2
      cases d <;> try (exact hud.elim)
      have : e = _ := hud
      subst this
      have hce := cellsOf_ti htt h3
      split at h <;> first | (exfalso; simp_all; done) | skip
      · exact ⟨[.list te.size []], .cons (.slice .nil (Nat.zero_le _)) .nil, .one rfl .listnil⟩
      · rename_i a len cap e1
        cases e1
        simp only at h
        split at h
        · rename_i hb
          simp only [Option.bind_eq_some_iff, Option.map_eq_some_iff] at h
          obtain ⟨elems, hel, rest, _, rfl⟩ := h
          obtain ⟨m1, m2⟩ := mapM_get hel
          have hlen : elems.length = len := by simpa using m1
          obtain ⟨b, off, sp⟩ := a
          have each : ∀ i, i < len → ∃ es : List AV, LsOk le es ∧ ∃ cs', W.cells? 0 (Addr.add ⟨b, off, sp⟩ (i * P.cellsOf e)) (P.cellsOf e) = some cs' ∧ Crow W es cs' := by
            intro i hi
            have hi2 : i < elems.length := by omega
            obtain ⟨j, q1, q2⟩ := m2 i elems[i] (List.getElem?_eq_getElem hi2)
            have : j = i := by rw [List.getElem?_range (by omega)] at q1; cases q1; rfl
            subst this
            simp only [Option.bind_eq_some_iff] at q2
            obtain ⟨cs', q3, q4⟩ := q2
            obtain ⟨es, q5, q6⟩ := ih n e le cs' _ h1 q4
            exact ⟨es, q5, cs', q3, q6⟩
          cases hL : len with
          | zero =>
            exact ⟨[.list te.size []], .cons (.slice .nil (Nat.zero_le _)) .nil, .one rfl .listnil⟩
          | succ len' =>
            subst hL
            obtain ⟨es0, p1, cs0, p2, p3⟩ := each 0 (by omega)
            have ea : Addr.add ⟨b, off, sp⟩ (0 * P.cellsOf e) = ⟨b, off, sp⟩ := by simp [Addr.add]
            rw [ea, hce] at p2
            obtain ⟨c, s1, s2, s3, s4, s5⟩ := cells_snap p2 hpos
            subst s2
            have add_ : ∀ i, Addr.add ⟨b, off, none⟩ i = ⟨b, off + i, none⟩ := by
              intro i
              unfold Addr.add
              split
              · rename_i h0; subst h0; rfl
              · rfl
            have build : ∀ m, m ≤ len' + 1 → ∃ es : List (List AV), es.length = m ∧ LEs le es ∧ ∀ (i : Nat) (r : List AV), es[i]? = some r → r.length = te.size ∧ ∃ cs', W.cells? 0 ⟨b, off + i * te.size, none⟩ te.size = some cs' ∧ Crow W r cs' := by
              intro m
              -- from the back
              have : ∀ k j, j + k = m → m ≤ len' + 1 → ∃ es : List (List AV), es.length = k ∧ LEs le es ∧ ∀ (i : Nat) (r : List AV), es[i]? = some r → r.length = te.size ∧ ∃ cs', W.cells? 0 ⟨b, off + (j + i) * te.size, none⟩ te.size = some cs' ∧ Crow W r cs' := by
                intro k
                induction k with
                | zero => intro j _ _; exact ⟨[], rfl, .nil, fun i r hr => by simp at hr⟩
                | succ k ihk =>
                  intro j hj hm
                  obtain ⟨es, e1, e2, e3⟩ := ihk (j + 1) (by omega) hm
                  obtain ⟨r, r1, cs', r2, r3⟩ := each j (by omega)
                  rw [add_, hce] at r2
                  refine ⟨r :: es, by simp [e1], .cons r1 e2, fun i q hq => ?_⟩
                  cases i with
                  | zero =>
                    simp only [List.getElem?_cons_zero, Option.some.injEq] at hq; subst hq
                    exact ⟨by rw [r1.len, hsz], cs', by simpa using r2, r3⟩
                  | succ i =>
                    simp only [List.getElem?_cons_succ] at hq
                    obtain ⟨u1, cs2, u2, u3⟩ := e3 i q hq
                    exact ⟨u1, cs2, by rw [show j + (i + 1) = j + 1 + i by omega]; exact u2, u3⟩
              intro hm
              obtain ⟨es, e1, e2, e3⟩ := this m 0 (by omega) hm
              exact ⟨es, e1, e2, fun i r hr => by simpa using e3 i r hr⟩
            obtain ⟨es, b1, b2, b3⟩ := build (len' + 1) (Nat.le_refl _)
            have hsame : ∀ (i : Nat) (r : List AV), es[i]? = some r → off + i * te.size + te.size ≤ c.size ∧ ∀ (j : Nat) (v : AV), r[j]? = some v → v.isCell = true ∧ VRel (fun _ => none) (snap W) v (c.getD (off + (i * te.size + j)) undef) := by
              intro i r hr
              obtain ⟨u1, cs', u2, u3⟩ := b3 i r hr
              obtain ⟨c', t1, _, t3, t4, t5⟩ := cells_snap u2 hpos
              rw [s1] at t1; cases t1
              refine ⟨t3, fun j v hj => ⟨u3.cell j v hj, ?_⟩⟩
              have hjl : j < r.length := (List.getElem?_eq_some_iff.1 hj).1
              have := u3.val j v hj
              rw [t5 j (by omega), Nat.add_assoc] at this
              exact this
            refine ⟨[.list te.size es], .cons (.slice b2 ?_) .nil, .one rfl ?_⟩
            · rw [b1]; omega
            · rw [← b1]
              refine .list s1 ?_ (fun i r hr => (b3 i r hr).1) (fun i r j v hr hj => ((hsame i r hr).2 j v hj).1) (fun i r j v hr hj => ((hsame i r hr).2 j v hj).2) (by omega)
              have hlast : len' < es.length := by omega
              have := (hsame len' es[len'] (List.getElem?_eq_getElem hlast)).1
              rw [b1, Nat.add_mul, Nat.one_mul]; omega
        · cases h
    | struct fs =>
      rw [hu] at hl hud
      simp only at hl
      obtain ⟨h1, h2⟩ := condSome hl
      obtain ⟨l', h3, h4⟩ := bindSome h2
      obtain ⟨h5, h6⟩ := condSome h4
      simp only [Option.some.injEq] at h6; subst h6
      have hlen := Nat.eq_of_beq_eq_true h5
      cases d <;> try (exact hud.elim)
      rename_i fields
      obtain ⟨hsz, hf⟩ := hud
      split at h <;> first | (exfalso; simp_all; done) | skip
      rename_i cs _ _ fs' e1
      cases e1
      split at h
      · rename_i hcl
        simp only [Option.map_eq_some_iff] at h
        obtain ⟨xs, hxs, rfl⟩ := h
        obtain ⟨m1, m2⟩ := mapM_get hxs
        -- field by field
        have go : ∀ (gs : List (Nat × Nat × TypeId)) (j at_ : Nat) (lg : List Lf), (∀ (i : Nat) q, gs[i]? = some q → fs[j + i]? = some q) → gs.length + j = fs.length → offsL gs (gs.map fun q => leaves tt n q.2.2) at_ = true →
            catO (gs.map fun q => leaves tt n q.2.2) = some lg → at_ ≤ cs.length → ∃ avs, LsOk lg avs ∧ Crow W avs ((cs.drop at_).take lg.length) := by
          intro gs
          induction gs with
          | nil =>
            intro j at_ lg _ _ _ hc _
            simp only [List.map_nil, catO, Option.some.injEq] at hc; subst hc
            exact ⟨[], .nil, by simpa using Crow.nil⟩
          | cons q gs ihg =>
            intro j at_ lg hq hj ho hc hle
            simp only [List.map_cons, catO] at hc
            obtain ⟨a, c1, c2⟩ := bindSome hc
            obtain ⟨b, c3, c4⟩ := bindSome c2
            simp only [Option.some.injEq] at c4; subst c4
            rw [List.map_cons, c1] at ho
            simp only [offsL, Bool.and_eq_true] at ho
            obtain ⟨⟨o1, o2⟩, o3⟩ := ho
            have o1 := Nat.eq_of_beq_eq_true o1
            have o2 := Nat.eq_of_beq_eq_true o2
            have hfq := hq 0 q rfl
            rw [Nat.add_zero] at hfq
            obtain ⟨f, fi, g1, g2, g3, g4, g5⟩ := hf j q hfq
            have hjx : j < xs.length := by rw [m1]; have := (Array.getElem?_eq_some_iff.1 g1).1; simpa using this
            obtain ⟨f', y1, y2⟩ := m2 j xs[j] (List.getElem?_eq_getElem hjx)
            have : f' = f := by rw [Array.getElem?_toList, g1] at y1; cases y1; rfl
            subst this
            have hcf : P.cellsOf f'.type = q.2.1 := by simp [Program.cellsOf, g4, g5]
            rw [g2, hcf, g3, o1, o2] at y2
            obtain ⟨av1, z1, z2⟩ := ih n q.2.2 a _ _ c1 y2
            have hal : at_ + a.length ≤ cs.length := by
              have := z2.len
              rw [z1.len] at this
              simp at this
              omega
            obtain ⟨av2, z3, z4⟩ := ihg (j + 1) (at_ + a.length) b (fun i r hr => by have := hq (i + 1) r (by simpa using hr); rw [show j + 1 + i = j + (i + 1) by omega]; exact this) (by simp at hj; omega) o3 c3 hal
            refine ⟨av1 ++ av2, z1.append z3, ?_⟩
            have e : (cs.drop at_).take (a ++ b).length = (cs.drop at_).take a.length ++ (cs.drop (at_ + a.length)).take b.length := by
              rw [List.length_append, List.take_add, List.drop_drop]
            rw [e]
            exact z2.append z4
        obtain ⟨avs, r1, r2⟩ := go fs 0 0 l' (fun i q hq => by simpa using hq) (by simp) h1 h3 (Nat.zero_le _)
        refine ⟨avs, r1, ?_⟩
        rw [List.drop_zero, hlen, ← hco, ← hcl, List.take_length] at r2
        exact r2
      · cases h
    | arr m e =>
      rw [hu] at hl hud
      simp only at hl
      obtain ⟨le, h1, h2⟩ := bindSome hl
      obtain ⟨te, h3, h4⟩ := bindSome h2
      obtain ⟨h5, h6⟩ := condSome h4
      simp only [Option.some.injEq] at h6; subst h6
      rw [Bool.and_eq_true] at h5
      have hsz := Nat.eq_of_beq_eq_true h5.1
      have htot := Nat.eq_of_beq_eq_true h5.2
      have hce := cellsOf_ti htt h3
      cases d <;> try (exact hud.elim)
      obtain ⟨rfl, rfl⟩ := hud
      split at h <;> first | (exfalso; simp_all; done) | skip
      rename_i cs _ _ m' e' e1
      cases e1
      split at h
      · rename_i hcl
        simp only [Option.map_eq_some_iff] at h
        obtain ⟨xs, hxs, rfl⟩ := h
        obtain ⟨m1, m2⟩ := mapM_get hxs
        have hxl : xs.length = m := by simpa using m1
        have go : ∀ k j, j + k = m → ∃ avs, LsOk (List.flatten (rep k le)) avs ∧ Crow W avs ((cs.drop (j * te.size)).take (k * te.size)) := by
          intro k
          induction k with
          | zero => intro j _; exact ⟨[], .nil, by simpa using Crow.nil⟩
          | succ k ihk =>
            intro j hj
            obtain ⟨av2, z3, z4⟩ := ihk (j + 1) (by omega)
            have hjx : j < xs.length := by omega
            obtain ⟨j', y1, y2⟩ := m2 j xs[j] (List.getElem?_eq_getElem hjx)
            have : j' = j := by rw [List.getElem?_range (by omega)] at y1; cases y1; rfl
            subst this
            rw [hce] at y2
            obtain ⟨av1, z1, z2⟩ := ih n e le _ _ h1 y2
            refine ⟨av1 ++ av2, ?_, ?_⟩
            · simp only [rep, List.replicate_succ, List.flatten_cons]
              exact z1.append z3
            · rw [Nat.add_mul, Nat.one_mul] at z4
              have e : (cs.drop (j' * te.size)).take ((k + 1) * te.size) = (cs.drop (j' * te.size)).take te.size ++ (cs.drop (j' * te.size + te.size)).take (k * te.size) := by
                rw [Nat.add_mul, Nat.one_mul, Nat.add_comm (k * te.size), List.take_add, List.drop_drop]
              rw [e]
              exact z2.append z4
        obtain ⟨avs, r1, r2⟩ := go m 0 (by omega)
        refine ⟨avs, r1, ?_⟩
        rw [Nat.zero_mul, List.drop_zero, ← htot, ← hco, ← hcl, List.take_length] at r2
        exact r2
      · cases h
    | ptr e => rw [hu] at hl; cases hl
    | map k e => rw [hu] at hl; cases hl
    | iface => rw [hu] at hl; cases hl
    | func => rw [hu] at hl; cases hl
    | oth => rw [hu] at hl; cases hl

end
end
end Go.VM

/- A law's arguments, whole; they read afterwards as they did. -/
namespace Go.VM
open Go
noncomputable section

def argLs (tt : TT) : List TypeId → Option (List (Bool × List Lf))
  | [] => some []
  | t :: ts => (tt.get t).bind fun ti => (leaves tt 30 t).bind fun l => cond (!ti.ud.isAgg || !Nat.beq l.length 1) ((argLs tt ts).bind fun ls => some ((ti.ud.isAgg, l) :: ls)) none

inductive ArgsOk : List (Bool × List Lf) → List AV → Prop
  | nil : ArgsOk [] []
  | agg {l : List Lf} {ls : List (Bool × List Lf)} {cs : List AV} {vs : List AV} (h : LsOk l cs) (t : ArgsOk ls vs) : ArgsOk ((true, l) :: ls) (.agg cs :: vs)
  | one {l : Lf} {ls : List (Bool × List Lf)} {v : AV} {vs : List AV} (h : LOk l v) (t : ArgsOk ls vs) : ArgsOk ((false, [l]) :: ls) (v :: vs)

section
variable {H : Type} {enc : TypeId × Value → H} {P : Program} {W W' : World} {tt : TT}

theorem leaves_one {tt : TT} {n : Nat} {t : TypeId} {ti : TI} {l : List Lf} (hti : tt.get t = some ti) (h : leaves tt n t = some l) (ha : ti.ud.isAgg = false) : ∃ x, l = [x] := by
  cases n with
  | zero => cases h
  | succ n =>
    simp only [leaves, hti, Option.bind_some] at h
    cases hu : ti.ud with
    | bool => rw [hu] at h; cases h; exact ⟨_, rfl⟩
    | int k => rw [hu] at h; cases h; exact ⟨_, rfl⟩
    | str => rw [hu] at h; cases h; exact ⟨_, rfl⟩
    | slice e =>
      rw [hu] at h
      simp only at h
      obtain ⟨_, _, h⟩ := bindSome h
      obtain ⟨_, _, h⟩ := bindSome h
      obtain ⟨_, h⟩ := condSome h
      cases h; exact ⟨_, rfl⟩
    | struct fs => rw [hu] at ha; cases ha
    | arr m e => rw [hu] at ha; cases ha
    | ptr e => rw [hu] at h; cases h
    | map k e => rw [hu] at h; cases h
    | iface => rw [hu] at h; cases h
    | func => rw [hu] at h; cases h
    | oth => rw [hu] at h; cases h

theorem ARel.consL {σ : Sg} {F : Fz} {v : AV} {c : Value} {vs : List AV} {cs : List Value} (h : VRel σ F v c) (hs : ARel σ F vs cs.toArray) : ARel σ F (v :: vs) (c :: cs).toArray := by
  obtain ⟨h1, h2⟩ := hs
  refine ⟨by simpa using h1, fun i u hu => ?_⟩
  cases i with
  | zero => cases hu; simpa using h
  | succ i =>
    have := h2 i u hu
    simpa [Array.getD_eq_getD_getElem?] using this

theorem law_args (htt : TTok P tt) {base : Nat} : ∀ {ts : List TypeId} {vs : List Value} {ds : List (DataW H)} {ps : List MemPlace} {ls : List (Bool × List Lf)}, argLs tt ts = some ls →
    (∀ (j : Nat) t v, ts[j]? = some t → vs[j]? = some v → Value.okWide P W .any base t v) → DataW.TrodAll enc P W 0 (fun _ => true) true ts vs ds ps →
    ∃ avs, ARel (fun _ => none) (snap W) avs vs.toArray ∧ ArgsOk ls avs
  | [], [], [], _, ls, hl, _, _ => by
    cases hl
    exact ⟨[], ⟨rfl, fun i v h => by simp at h⟩, .nil⟩
  | t :: ts, v :: vs, d :: ds, _, ls, hl, hok, ⟨p, q, ⟨fuel, h1⟩, h2, _⟩ => by
    simp only [argLs] at hl
    obtain ⟨ti, hti, hl⟩ := bindSome hl
    obtain ⟨l, hlv, hl⟩ := bindSome hl
    obtain ⟨hc, hl⟩ := condSome hl
    obtain ⟨ls', hls, hl⟩ := bindSome hl
    simp only [Option.some.injEq] at hl; subst hl
    obtain ⟨avs, r1, r2⟩ := law_args htt hls (fun j t v a b => hok (j + 1) t v a b) h2
    obtain ⟨cs, c1, c2⟩ := trod_ok htt fuel 30 t l _ _ hlv h1
    have hlen := c1.len
    have hcl := c2.len
    cases hag : ti.ud.isAgg with
    | true =>
      rw [hag] at hc
      have hne : l.length ≠ 1 := by
        intro e
        rw [e] at hc; cases hc
      have : ∃ c, v = .agg c := by
        cases v with
        | agg c => exact ⟨c, rfl⟩
        | _ => exact absurd (by rw [← hlen, hcl]; rfl) hne
      obtain ⟨c, rfl⟩ := this
      refine ⟨.agg cs :: avs, ARel.consL ?_ r1, .agg c1 r2⟩
      have e : (Value.agg c).cells = c := rfl
      rw [e] at hcl c2
      refine .agg (by simpa using hcl.symm) c2.cell (fun i u hu => ?_)
      have := c2.val i u hu
      rw [List.getD_eq_getElem?_getD, Array.getElem?_toList] at this
      rw [Array.getD_eq_getD_getElem?]; exact this
    | false =>
      obtain ⟨x, rfl⟩ := leaves_one hti hlv hag
      obtain ⟨av, rs, rfl, hx, ht⟩ := c1.inv
      obtain rfl := ht.inv_nil
      refine ⟨av :: avs, ARel.consL ?_ r1, .one hx r2⟩
      have hv := c2.val 0 av rfl
      have hw := hok 0 t v rfl rfl
      have hT := htt t ti hti
      obtain ⟨d0, hund, hud⟩ := hT.und
      have hne : ∀ c, v ≠ .agg c := by
        intro c e
        subst e
        cases hu : ti.ud with
        | struct fs => rw [hu] at hag; cases hag
        | arr m e => rw [hu] at hag; cases hag
        | _ =>
          rw [hu] at hud
          cases d0 <;> simp [Value.okWide, hund, Cell.okWide, Cell.ok, UDok, isAggD] at hw hud
      have hcv : v.cells = #[v] := by cases v <;> first | rfl | exact absurd rfl (hne _)
      rw [hcv] at hv
      simpa using hv

theorem sameAt_below (hb : ∀ b, b < W.heap.size → W'.heap[b]? = W.heap[b]?) {p : MemPlace} (hp : p.block < W.heap.size) : W.sameAt W' p := by
  cases p with
  | cell b off =>
    show W'.cell? ⟨b, off, none⟩ = W.cell? ⟨b, off, none⟩
    simp only [World.cell?]
    rw [hb b hp]
  | map b => exact hb b hp

def kidOffs (tt : TT) (l : List Nat) : List (Nat × Nat × TypeId) → Nat → Option Nat
  | [], a => some a
  | q :: fs, a => cond (Nat.beq q.1 a && memN q.2.2 l) (kidOffs tt l fs (a + q.2.1)) none

def kidB (tt : TT) (l : List Nat) (t : Nat) : Bool :=
  match tt.get t with
  | none => false
  | some ti => match ti.ud with
    | .struct fs => match kidOffs tt l fs 0 with
      | some n => Nat.beq n ti.size
      | none => false
    | .slice e => memN e l && (match tt.get e with | some te => Nat.blt 0 te.size | none => false)
    | .arr n e => memN e l && (match tt.get e with | some te => Nat.beq ti.size (n * te.size) | none => false)
    | .bool => true
    | .int _ => true
    | .str => true
    | _ => false

theorem kidOffs_ok {tt : TT} {l : List Nat} : ∀ {fs : List (Nat × Nat × TypeId)} {a n : Nat}, kidOffs tt l fs a = some n → n = a + (fs.map (·.2.1)).sum ∧ (∀ q ∈ fs, q.2.2 ∈ l) ∧ ∀ (j : Nat) q, fs[j]? = some q → q.1 = a + ((fs.take j).map (·.2.1)).sum := by
  intro fs
  induction fs with
  | nil => intro a n h; cases h; simp
  | cons q fs ih =>
    intro a n h
    simp only [kidOffs] at h
    obtain ⟨hc, h⟩ := condSome h
    rw [Bool.and_eq_true] at hc
    obtain ⟨k1, k2, k3⟩ := ih h
    have hq := Nat.eq_of_beq_eq_true hc.1
    refine ⟨by simp [k1]; omega, fun r hr => ?_, fun j r hj => ?_⟩
    · rcases List.mem_cons.1 hr with rfl | hr
      · exact memN_iff.1 hc.2
      · exact k2 r hr
    · cases j with
      | zero => cases hj; simpa using hq
      | succ j =>
        have := k3 j r (by simpa using hj)
        simp [this]; omega

theorem kids_of (htt : TTok P tt) {l : List Nat} (h : allN (kidB tt l) l = true) : Kids P (· ∈ l) ∧ ∀ t e, t ∈ l → P.underlying t = some (.slice e) → 0 < P.cellsOf e := by
  have hk : ∀ t ∈ l, kidB tt l t = true := by
    have : ∀ m : List Nat, allN (kidB tt l) m = true → ∀ t ∈ m, kidB tt l t = true := by
      intro m
      induction m with
      | nil => intro _ t ht; cases ht
      | cons x xs ih =>
        intro hm t ht
        simp only [allN] at hm
        cases hx : kidB tt l x with
        | false => rw [hx] at hm; cases hm
        | true =>
          rw [hx] at hm
          rcases List.mem_cons.1 ht with rfl | ht
          · exact hx
          · exact ih hm t ht
    exact this l h
  have key : ∀ t ∈ l, ∃ ti d, tt.get t = some ti ∧ P.underlying t = some d ∧ UDok P ti.ud d ∧ kidB tt l t = true := by
    intro t ht
    have h1 := hk t ht
    cases hti : tt.get t with
    | none => rw [kidB, hti] at h1; cases h1
    | some ti =>
      obtain ⟨d, h2, h3⟩ := (htt t ti hti).und
      exact ⟨ti, d, rfl, h2, h3, h1⟩
  refine ⟨⟨?_, ?_, ?_, ?_, ?_⟩, ?_⟩
  · intro t e ht hu
    obtain ⟨ti, d, h1, h2, h3, h4⟩ := key t ht
    rw [hu] at h2; cases h2
    rw [kidB, h1] at h4; dsimp only at h4
    cases hud : ti.ud <;> rw [hud] at h3 h4 <;> first | exact h3.elim | (cases h4; done) | (exact absurd h3.1 (by simp [isAggD]))
  · intro t e ht hu
    obtain ⟨ti, d, h1, h2, h3, h4⟩ := key t ht
    rw [hu] at h2; cases h2
    rw [kidB, h1] at h4; dsimp only at h4
    cases hud : ti.ud <;> rw [hud] at h3 h4 <;> first | exact h3.elim | (cases h4; done) | skip
    have : _ = e := h3
    subst this
    simp only [Bool.and_eq_true] at h4
    exact memN_iff.1 h4.1
  · intro t e n ht hu
    obtain ⟨ti, d, h1, h2, h3, h4⟩ := key t ht
    rw [hu] at h2; cases h2
    rw [kidB, h1] at h4; dsimp only at h4
    cases hud : ti.ud <;> rw [hud] at h3 h4 <;> first | exact h3.elim | (cases h4; done) | (exact absurd h3.1 (by simp [isAggD])) | skip
    obtain ⟨rfl, rfl⟩ := h3
    simp only [Bool.and_eq_true] at h4
    refine ⟨memN_iff.1 h4.1, ?_⟩
    have h5 := h4.2
    split at h5
    · rename_i te hte
      rw [cellsOf_ti htt h1, cellsOf_ti htt hte]
      exact Nat.eq_of_beq_eq_true h5
    · cases h5
  · intro t fs ht hu
    obtain ⟨ti, d, h1, h2, h3, h4⟩ := key t ht
    rw [hu] at h2; cases h2
    rw [kidB, h1] at h4; dsimp only at h4
    cases hud : ti.ud <;> rw [hud] at h3 h4 <;> first | exact h3.elim | (cases h4; done) | (exact absurd h3.1 (by simp [isAggD])) | skip
    rename_i gs
    obtain ⟨hsz, hf⟩ := h3
    simp only at h4
    split at h4
    · rename_i n hn
      obtain ⟨k1, k2, k3⟩ := kidOffs_ok hn
      have hsize := Nat.eq_of_beq_eq_true h4
      have hmap : fs.toList.map (fun f => P.cellsOf f.type) = gs.map (·.2.1) := by
        apply List.ext_getElem?
        intro i
        rw [List.getElem?_map, List.getElem?_map]
        rcases Nat.lt_or_ge i gs.length with hlt | hge
        · obtain ⟨f, fi, g1, g2, g3, g4, g5⟩ := hf i gs[i] (List.getElem?_eq_getElem hlt)
          rw [Array.getElem?_toList, g1, List.getElem?_eq_getElem hlt]
          simp [Program.cellsOf, g4, g5]
        · rw [List.getElem?_eq_none hge, List.getElem?_eq_none (by simp; omega)]; rfl
      have at_ : ∀ (j : Nat) f, fs.toList[j]? = some f → ∃ q, gs[j]? = some q ∧ f.offset = q.1 ∧ f.type = q.2.2 := by
        intro j f hj
        have hlt : j < gs.length := by
          have := (List.getElem?_eq_some_iff.1 hj).1
          simp at this; omega
        obtain ⟨f', fi, g1, g2, g3, g4, g5⟩ := hf j gs[j] (List.getElem?_eq_getElem hlt)
        rw [Array.getElem?_toList, g1] at hj; cases hj
        exact ⟨gs[j], List.getElem?_eq_getElem hlt, g2, g3⟩
      refine ⟨fun f hfm => ?_, ?_, fun j f hj => ?_⟩
      · obtain ⟨j, hj, e⟩ := List.getElem_of_mem hfm
        obtain ⟨q, q1, _, q3⟩ := at_ j f (by rw [List.getElem?_eq_getElem hj, e])
        rw [q3]; exact k2 q (List.mem_of_getElem? q1)
      · rw [cellsOf_ti htt h1, hmap, ← hsize, k1]; simp
      · obtain ⟨q, q1, q2, _⟩ := at_ j f hj
        rw [List.map_take, hmap, ← List.map_take, q2, k3 j q q1]; simp
    · cases h4
  · intro t k e ht hu
    obtain ⟨ti, d, h1, h2, h3, h4⟩ := key t ht
    rw [hu] at h2; cases h2
    rw [kidB, h1] at h4; dsimp only at h4
    cases hud : ti.ud <;> rw [hud] at h3 h4 <;> first | exact h3.elim | (cases h4; done) | (exact absurd h3.1 (by simp [isAggD]))
  · intro t e ht hu
    obtain ⟨ti, d, h1, h2, h3, h4⟩ := key t ht
    rw [hu] at h2; cases h2
    rw [kidB, h1] at h4; dsimp only at h4
    cases hud : ti.ud <;> rw [hud] at h3 h4 <;> first | exact h3.elim | (cases h4; done) | skip
    have : _ = e := h3
    subst this
    simp only [Bool.and_eq_true] at h4
    have h5 := h4.2
    split at h5
    · rename_i te hte
      rw [cellsOf_ti htt hte]; exact blt_iff.1 h5
    · cases h5

/-- What was read before reads so afterwards. -/
theorem args_again (htt : TTok P tt) {l : List Nat} (hl : allN (kidB tt l) l = true) (hb : ∀ b, b < W.heap.size → W'.heap[b]? = W.heap[b]?) {ts : List TypeId} {vs : List Value} {ds : List (DataW H)} {ps : List MemPlace}
    (hts : ∀ t ∈ ts, t ∈ l) (h : DataW.TrodAll enc P W 0 (fun _ => true) true ts vs ds ps) {sp : Nat → Bool} (hs : ∀ p ∈ ps, sp p.block = true) : DataW.TrodAll enc P W' 0 sp true ts vs ds ps := by
  obtain ⟨K, hz⟩ := kids_of (P := P) htt hl
  have hlt := h.lt
  have h2 := h.respare K hz (spare' := sp) hts hs
  clear h hs
  induction ts generalizing vs ds ps with
  | nil =>
    cases vs with
    | nil => cases ds with
      | nil => exact h2
      | cons _ _ => exact h2.elim
    | cons _ _ => exact h2.elim
  | cons t ts ih =>
    cases vs with
    | nil => exact h2.elim
    | cons v vs =>
      cases ds with
      | nil => exact h2.elim
      | cons d ds =>
        obtain ⟨p, q, ⟨n, h3⟩, h4, rfl⟩ := h2
        exact ⟨p, q, ⟨n, DataW.trod_carry n _ _ _ h3 fun x hx => sameAt_below hb (hlt x (List.mem_append_left _ hx))⟩,
          ih (fun u hu => hts u (List.mem_cons_of_mem _ hu)) (fun x hx => hlt x (List.mem_append_right _ hx)) h4, rfl⟩

end
end
end Go.VM

