/- An abstract machine for the program form, with the proof that it is sound: part VmP4. No condition. -/
import Derived.Test.YtchfpiimkmphjaaGreatVmP3
import Derived.IntWalk
/- Every operation. -/
namespace Go.VM
open Go

section
variable {P : Program} {σ : Sg} {F : Fz} {w : World}

/-- What an operation of the abstract machine says of the model's. -/
def NOk (P : Program) (σ : Sg) (F : Fz) (H : AH) (w : World) (s : Sem Next) (n : AN) (H' : AH) : Prop :=
  match n with
  | .val v => ∃ cv σ' F' w', Runs P s w (.value cv) w' ∧ VRel σ' F' v cv ∧ Post σ F H.get w H.next H'.next σ' F' H'.get w' ∧ LogOk H H'
  | .skip => ∃ σ' F' w', Runs P s w .skip w' ∧ Post σ F H.get w H.next H'.next σ' F' H'.get w' ∧ LogOk H H'
  | .fn f args => H' = H ∧ ∃ cargs, s.run P w = (callFunc f cargs).run P w ∧ ARel σ F args cargs
  | .round l args => H' = H ∧ ∃ b cs cargs, σ l = some (b, cs) ∧ s.run P w = (Instr.yield b cargs).run P w ∧ ARel σ F args cargs

theorem NOk.of_val {H H' : AH} {s : Sem Value} {v : AV} (h : VOk P σ F H w s v H') : NOk P σ F H w (do pure (.value (← s))) (.val v) H' := by
  obtain ⟨cv, σ', F', w', h1, h2, h3, h4⟩ := h
  exact ⟨cv, σ', F', w', Runs.bind h1 Runs.pure, h2, h3, h4⟩

theorem NOk.of_unit {H H' : AH} {s : Sem Unit} (h : UOk P σ F H w s H') : NOk P σ F H w (do s; pure .skip) .skip H' := by
  obtain ⟨σ', F', w', h1, h2, h3⟩ := h
  exact ⟨σ', F', w', Runs.bind h1 Runs.pure, h2, h3⟩

theorem NOk.pure1 {H H' : AH} {s : Sem Value} {n : AN} {v : Option AV} (h : val1 v H = some (n, H')) (hr : HR σ F H.get w) (hv : ∀ x, v = some x → POk P σ F w s x) :
    NOk P σ F H w (do pure (.value (← s))) n H' := by
  unfold val1 at h
  obtain ⟨x, hx, hA⟩ := bindSome h
  simp only [Option.some.injEq, Prod.mk.injEq] at hA
  obtain ⟨rfl, rfl⟩ := hA
  exact NOk.of_val (VOk.pure hr (hv x hx))

theorem ARel.cons {v : AV} {c : Value} {vs : List AV} {cs : Array Value} (h : VRel σ F v c) (hs : ARel σ F vs cs) : ARel σ F (v :: vs) (#[c] ++ cs) := by
  refine ⟨by simp [hs.1]; omega, fun i x hx => ?_⟩
  cases i with
  | zero => (simp at hx; subst hx; rw [Array.getD_eq_getD_getElem?, Array.getElem?_append_left (by simp)]; exact h)
  | succ i =>
    simp at hx
    have := hs.2 i x hx
    rw [Array.getD_eq_getD_getElem?] at this ⊢
    rw [Array.getElem?_append_right (by simp)]
    simpa using this

theorem ARel.append {vs us : List AV} {cs ds : Array Value} (h : ARel σ F vs cs) (k : ARel σ F us ds) : ARel σ F (vs ++ us) (cs ++ ds) := by
  refine ⟨by simp [h.1, k.1], fun i x hx => ?_⟩
  rcases Nat.lt_or_ge i vs.length with hi | hi
  · rw [List.getElem?_append_left hi] at hx
    have := h.2 i x hx
    rw [Array.getD_eq_getD_getElem?] at this ⊢
    rw [Array.getElem?_append_left (by rw [h.1]; exact hi)]
    exact this
  · rw [List.getElem?_append_right hi] at hx
    have := k.2 _ x hx
    rw [Array.getD_eq_getD_getElem?] at this ⊢
    rw [Array.getElem?_append_right (by rw [h.1]; exact hi), h.1]
    exact this

theorem ARel.list {vs : List AV} {cs : Array Value} (h : ARel σ F vs cs) : vs.length = cs.toList.length ∧ ∀ (i : Nat) v, vs[i]? = some v → ∃ c, cs.toList[i]? = some c ∧ VRel σ F v c := by
  refine ⟨by simp [h.1], fun i v hv => ?_⟩
  have hi : i < cs.size := by have := (List.getElem?_eq_some_iff.1 hv).1; have := h.1; omega
  refine ⟨cs[i], by simp [hi], ?_⟩
  have := h.2 i v hv
  simpa [Array.getD, hi] using this

theorem toList_one {α : Type} {xs : Array α} {x : α} {l : List α} (h : xs.toList = x :: l) : xs = (x :: l).toArray := by
  rw [← h]

theorem builtinA_ok {tt : TT} (htt : TTok P tt) {b : Builtin} {at_ : Array TypeId} {args : List AV} {cargs : Array Value} {ty : TypeId} {consts : Array Bool} {H H' : AH} {n : AN}
    (h : builtinA tt b at_.toList args H = some (n, H')) (ha : ARel σ F args cargs) (hr : HR σ F H.get w) (hfr : ∀ i, H.next ≤ i → i < H'.next → σ i = none) :
    NOk P σ F H w (Go.builtin b at_ ty consts cargs) n H' := by
  obtain ⟨hl, hg⟩ := ha.list
  unfold builtinA at h
  split at h
  · -- len
    rename_i t r x xs hat
    obtain ⟨ti, hti, hA⟩ := bindSome h
    obtain ⟨k, hk, hB⟩ := bindSome hA
    simp only [Option.some.injEq, Prod.mk.injEq] at hB
    obtain ⟨rfl, rfl⟩ := hB
    obtain ⟨c, hc1, hc2⟩ := hg 0 x rfl
    have hlen := lenA_ok (ty := ty) (htt _ _ hti) hk hc2 hr
    have e1 : at_[0]? = some t := by rw [← Array.getElem?_toList, hat]; rfl
    have e2 : cargs[0]? = some c := by rw [← Array.getElem?_toList]; exact hc1
    refine NOk.of_val (VOk.pure hr ⟨_, ?_, .int _ _⟩)
    refine runs_ext ?_ hlen
    unfold Builtin.len_
    simp only [e1, e2, List.getElem?_toArray, List.getElem?_cons_zero]
  · rename_i t u s x hat
    obtain ⟨ti, hti, hA⟩ := bindSome h
    obtain ⟨tx, htx, hB⟩ := bindSome hA
    clear h hA
    generalize hu : ti.ud = ud at hB
    split at hB
    · rename_i e
      obtain ⟨te, hte, hC⟩ := bindSome hB
      unfold valH at hC
      obtain ⟨r, hr1, hD⟩ := bindSome hC
      simp only [Option.some.injEq, Prod.mk.injEq] at hD
      obtain ⟨rfl, rfl⟩ := hD
      obtain ⟨c, hc1, hc2⟩ := hg 0 s rfl
      obtain ⟨d, hd1, hd2⟩ := hg 1 x rfl
      have hcargs : cargs = #[c, d] := by
        apply Array.ext'
        have hl2 : cargs.toList.length = 2 := by rw [← hl]; rfl
        apply List.ext_getElem?
        intro i
        match i with
        | 0 => exact hc1
        | 1 => exact hd1
        | i + 2 => rw [List.getElem?_eq_none (by omega)]; simp
      have hat' : at_ = #[t, u] := toList_one hat
      subst hcargs; subst hat'
      exact NOk.of_val (appendA_ok (htt _ _ hti) hu (htt _ _ hte) (htt _ _ htx) hr1 hc2 hd2 hr hfr)
    · cases hB
  · rename_i x xs
    obtain ⟨c, hc1, hc2⟩ := hg 0 x rfl
    refine NOk.pure1 h hr fun v hv => ?_
    cases hcl : cargs.toList with
    | nil => rw [hcl] at hc1; cases hc1
    | cons c' l =>
      rw [hcl] at hc1 hl hg
      simp only [List.getElem?_cons_zero, Option.some.injEq] at hc1
      subst hc1
      obtain ⟨cv, h1, h2⟩ := foldMM_ok (P := P) (w := w) xs l x v c' hv hc2 (by simpa using hl) (fun i y hy => by simpa using hg (i + 1) y (by simpa using hy))
      refine ⟨cv, ?_, h2⟩
      unfold Builtin.max_
      rw [hcl]
      exact h1
  · rename_i x xs
    obtain ⟨c, hc1, hc2⟩ := hg 0 x rfl
    refine NOk.pure1 h hr fun v hv => ?_
    cases hcl : cargs.toList with
    | nil => rw [hcl] at hc1; cases hc1
    | cons c' l =>
      rw [hcl] at hc1 hl hg
      simp only [List.getElem?_cons_zero, Option.some.injEq] at hc1
      subst hc1
      obtain ⟨cv, h1, h2⟩ := foldMM_ok (P := P) (w := w) xs l x v c' hv hc2 (by simpa using hl) (fun i y hy => by simpa using hg (i + 1) y (by simpa using hy))
      refine ⟨cv, ?_, h2⟩
      unfold Builtin.min_
      rw [hcl]
      exact h1
  · rename_i t r m k hat
    obtain ⟨ti, hti, hA⟩ := bindSome h
    obtain ⟨H2, hH2, hB⟩ := bindSome hA
    simp only [Option.some.injEq, Prod.mk.injEq] at hB
    obtain ⟨rfl, rfl⟩ := hB
    obtain ⟨c, hc1, hc2⟩ := hg 0 m rfl
    obtain ⟨d, hd1, hd2⟩ := hg 1 k rfl
    have e1 : at_[0]? = some t := by rw [← Array.getElem?_toList, hat]; rfl
    have e2 : cargs[0]? = some c := by rw [← Array.getElem?_toList]; exact hc1
    have e3 : cargs[1]? = some d := by rw [← Array.getElem?_toList]; exact hd1
    obtain ⟨cv, σ', F', w', g1, g2, g3, g4⟩ := deleteA_ok (P := P) (ty := ty) htt (htt _ _ hti) hH2 hc2 hd2 hr
    refine NOk.of_val ⟨cv, σ', F', w', runs_ext ?_ g1, g2, g3, g4⟩
    unfold Builtin.delete_
    simp only [e1, e2, e3, List.getElem?_toArray, List.getElem?_cons_zero, List.getElem?_cons_succ]
  · rename_i t r x hat
    obtain ⟨ti, hti, hA⟩ := bindSome h
    obtain ⟨c, hc1, hc2⟩ := hg 0 x rfl
    have e1 : at_[0]? = some t := by rw [← Array.getElem?_toList, hat]; rfl
    have e2 : cargs[0]? = some c := by rw [← Array.getElem?_toList]; exact hc1
    clear h
    have hti' := htt _ _ hti
    generalize hu : ti.ud = ud at hA
    have empty : ∀ {e : TypeId} {a : Option Addr} {cap : Nat}, ti.ud = .slice e → c = .slice a 0 cap → Runs P (Builtin.clear_ at_ ty cargs) w (.tuple #[]) w := by
      intro e a cap hu hc
      unfold Builtin.clear_
      simp only [e1, e2, hc]
      refine Runs.bind (runs_underlying (hti'.und_slice hu)) ?_
      cases a <;> exact Runs.pure
    split at hA
    · simp only [Option.some.injEq, Prod.mk.injEq] at hA
      obtain ⟨rfl, rfl⟩ := hA
      cases hc2
      exact NOk.of_val (VOk.pure hr ⟨_, empty hu rfl, .tup rfl (by simp)⟩)
    · simp only [Option.some.injEq, Prod.mk.injEq] at hA
      obtain ⟨rfl, rfl⟩ := hA
      cases hc2
      exact NOk.of_val (VOk.pure hr ⟨_, empty hu rfl, .tup rfl (by simp)⟩)
    · simp only [Option.some.injEq, Prod.mk.injEq] at hA
      obtain ⟨rfl, rfl⟩ := hA
      cases hc2
      exact NOk.of_val (VOk.pure hr ⟨_, empty hu rfl, .tup rfl (by simp)⟩)
    · rename_i e id sz st len cap ex
      obtain ⟨te, hte, hB⟩ := bindSome hA
      obtain ⟨hcond, hC⟩ := condSome hB
      simp only [Bool.and_eq_true] at hcond
      have z1 := Nat.eq_of_beq_eq_true hcond.1
      have z2 := Nat.eq_of_beq_eq_true hcond.2
      subst z1
      clear hA hB
      split at hC
      · rename_i sz' es hgo
        obtain ⟨hcond2, hD⟩ := condSome hC
        simp only [Option.some.injEq, Prod.mk.injEq] at hD
        obtain ⟨rfl, rfl⟩ := hD
        simp only [Bool.and_eq_true] at hcond2
        have z3 := Nat.eq_of_beq_eq_true hcond2.1
        have z4 := Nat.le_of_ble_eq_true hcond2.2
        subst z3
        cases hc2 with
        | slice hσ k1 k2 k3 k4 =>
          rename_i b csz cap'
          obtain ⟨b', c', hs'', cc, et, fr, g1, g2, g3, g4⟩ := hr.obj id _ hgo
          rw [hσ] at hs''; cases hs''
          have hid := hr.bnd id _ hσ
          obtain ⟨z, hz1, hz2, hz3⟩ := (htt _ _ hte).zeroCells (σ := σ) (F := F) (w := w)
          have hzz : z.cells.size = te.size := by omega
          have hrow := rep_row (n := len) hz3 hz2 z2
          have hbn := g4.bnd
          have hmul : (st + len) * te.size ≤ es.length * te.size := Nat.mul_le_mul_right _ z4
          rw [Nat.add_mul] at hmul
          have hzc : Builtin.zeroCells z.cells len = (Array.range (len * te.size)).map (fun k => z.cells[k % z.cells.size]!) := by
            unfold Builtin.zeroCells; rw [hzz]
          have hrl : (rep len te.zero).length = len := by simp [rep]
          refine NOk.of_val ⟨.tuple #[], σ, F, setBlock w b (.cells (overC cc (st * te.size) (Builtin.zeroCells z.cells len).toList) et fr), ?_, .tup rfl (by simp), ?_, LogOk.put⟩
          · unfold Builtin.clear_
            simp only [e1, e2]
            refine Runs.bind (runs_underlying (hti'.und_slice hu)) ?_
            have hst : Runs P (storeCells ⟨b, st * te.size, none⟩ (Builtin.zeroCells z.cells len).toList) w () (setBlock w b (.cells (overC cc (st * te.size) (Builtin.zeroCells z.cells len).toList) et fr)) := by
              have := runs_storeCells (P := P) (o := st * te.size) (i := 0) (Builtin.zeroCells z.cells len).toList cc w g1 (by rw [hzc]; simp; omega) g3 (by rw [hzc]; exact Row.plain hrow)
              simpa using this
            cases len with
            | zero =>
              simp only []
              have : (Builtin.zeroCells z.cells 0).toList = [] := by simp [Builtin.zeroCells]
              rw [this]
              simp only [overC, setBlock_self g1]
              exact Runs.pure
            | succ len =>
              simp only []
              refine Runs.bind hz1 ?_
              exact Runs.bind hst Runs.pure
          · rw [AH.get_put hid, hzc]
            exact Post.set hr hgo hσ ⟨_, et, fr, rfl, by simpa using g2, by simpa using g3, g4.overE hrow (by rw [hrl]; omega)⟩
      · cases hC
    · cases hA
  · cases h

theorem Row.one {cs : List AV} {c : Array Value} (h : CRel σ F cs c 0) (hs : c.size = cs.length) : Row σ F cs.length [cs] c := by
  have get : ∀ (i : Nat) (e : List AV), [cs][i]? = some e → i = 0 ∧ e = cs := by
    intro i e he
    cases i with
    | zero => simp at he; exact ⟨rfl, he.symm⟩
    | succ i => simp at he
  refine ⟨by simp [hs], ?_, ?_, ?_⟩
  · intro i e he; obtain ⟨_, rfl⟩ := get i e he; rfl
  · intro i e j v he hj; obtain ⟨_, rfl⟩ := get i e he; exact h.cell _ _ hj
  · intro i e j v he hj
    obtain ⟨rfl, rfl⟩ := get i e he
    have := h.val _ _ hj
    simpa using this

theorem newVar_ok {H H' : AH} {id sz : Nat} {cs : List AV} {cv : Value} {e : TypeId} (hr : HR σ F H.get w) (hn : H.new (.arr sz [cs]) = some (id, H')) (hsz : sz = cs.length)
    (hfr : ∀ i, H.next ≤ i → i < H'.next → σ i = none) (hc : CRel σ F cs cv.cells 0) (hs : cv.cells.size = cs.length) :
    VOk P σ F H w (do pure (.pointer (some (← newVar e cv)))) (.ptr id sz 0 0) H' := by
  subst hsz
  obtain ⟨h1, h2, h3⟩ := newRow_ok (P := P) (e := e) hr hn hfr (Row.one hc hs)
  obtain ⟨rfl, _⟩ := AH.new_eq hn
  refine ⟨.pointer (some ⟨w.heap.size, 0, none⟩), _, _, _, Runs.bind h1 Runs.pure, ?_, h2, h3⟩
  have := VRel.ptr (σ := updσ σ H.next (w.heap.size, cv.cells.size)) (F := F) (id := H.next) (sz := cs.length) (idx := 0) (off := 0) (b := w.heap.size) (cs := cv.cells.size) (by unfold updσ; rw [if_pos rfl])
  simpa using this

theorem callA_ok {fv : AV} {cf : Value} {args : List AV} {cargs : Array Value} {n : AN} {H : AH} (h : callA fv args = some n) (hf : VRel σ F fv cf) (ha : ARel σ F args cargs) :
    NOk P σ F H w (do let d ← (Deferred.ofValue cf cargs); invoke d.target d.args) n H := by
  unfold callA at h
  split at h
  · rename_i f caps
    simp only [Option.some.injEq] at h; subst h
    cases hf with
    | func hs hv =>
      rename_i caps'
      refine ⟨rfl, cargs ++ caps', ?_, ha.append ⟨hs, hv⟩⟩
      simp [run_bind, Deferred.ofValue, invoke, Pure.pure, Sem.run]
  · rename_i l
    simp only [Option.some.injEq] at h; subst h
    cases hf with
    | yld hs =>
      refine ⟨rfl, _, _, cargs, hs, ?_, ha⟩
      simp [run_bind, Deferred.ofValue, invoke, Pure.pure, Sem.run]
  · cases h

theorem invoke_ok {tt : TT} (htt : TTok P tt) {t : TypeId} {ti : TI} {v : AV} {cv : Value} {name : String} {f : FuncId} {args : List AV} {cargs : Array Value} {H : AH} (ht : TIok P t ti) (hf : findM name ti.meths = some f)
    (hv : VRel σ F v cv) (ha : ARel σ F args cargs) : NOk P σ F H w (invoke (.fn (.method name) #[]) (#[.iface t cv] ++ cargs)) (.fn f (v :: args)) H := by
  refine ⟨rfl, #[cv] ++ cargs, ?_, hv |> fun h => ARel.cons h ha⟩
  obtain ⟨i, m, h1, h2, h3, h4, h5⟩ := ht.meth name f hf
  obtain ⟨d, hd, _⟩ := ht.und
  have hrecv : Runs P (Go.receiverAt t (.val cv) false (some ((name.splitOn ".").getLastD name))) w cv w := by
    unfold Go.receiverAt
    refine Runs.bind (runs_underlying hd) ?_
    cases d <;> first | exact Runs.pure | exact absurd hd (h5 _)
  have hm : ∀ k, Runs P (Go.method (k + 1) t cv name) w (f, cv) w := by
    intro k
    unfold Go.method
    refine Runs.bind (runs_typeInfo h1) ?_
    simp only [h2]
    refine Runs.bind (a := (t, Go.Place.val cv)) (w1 := w) (by rw [h3]; exact Runs.pure) ?_
    simp only [h4, h3]
    exact Runs.bind hrecv Runs.pure
  have e1 : (#[Value.iface t cv] ++ cargs)[0]? = some (.iface t cv) := by rw [Array.getElem?_append_left (by simp)]; rfl
  have e2 : (#[Value.iface t cv] ++ cargs).extract 1 (#[Value.iface t cv] ++ cargs).size = cargs := by
    apply Array.ext'
    simp
  unfold invoke
  simp only [e1, e2]
  unfold callMethod
  simp only []
  have hpos : 0 < Made.depth := by decide
  have hk : P.types.size + Made.depth = (P.types.size + Made.depth - 1) + 1 := by omega
  have hm' := hm (P.types.size + Made.depth - 1)
  rw [← hk] at hm'
  have : ((do let (f, receiver) ← Go.method (P.types.size + Made.depth) t cv name; callFunc f (#[receiver] ++ cargs) : Sem Next)).run P w = (callFunc f (#[cv] ++ cargs)).run P w := by
    rw [run_bind, hm']
  rw [run_bind]
  simpa [program, Sem.run] using this

theorem getX_ok {tmps : Tr AV} {a : Act} (h : TRel σ F tmps a) {x : Option Operand} {v : Option AV} (hx : getX tmps x = some v) : ORelV σ F v (x.map a.eval) := by
  unfold getX at hx
  split at hx
  · simp only [Option.some.injEq] at hx; subst hx; trivial
  · obtain ⟨y, h1, h2⟩ := bindSome hx
    simp only [Option.some.injEq] at h2; subst h2
    exact evx_ok h h1

theorem opA_ok {tt : TT} (htt : TTok P tt) {o : Oper} {tmps : Tr AV} {a : Act} {H H' : AH} {n : AN} (h : opA tt o.op tmps H = some (n, H')) (ht : TRel σ F tmps a) (hr : HR σ F H.get w)
    (hfr : ∀ i, H.next ≤ i → i < H'.next → σ i = none) : NOk P σ F H w (execOp a.eval o) n H' := by
  obtain ⟨dst, op, type, pos, after, guard⟩ := o
  simp only at h
  unfold opA at h
  split at h
  · -- move
    unfold val1 at h
    obtain ⟨v, hv, hA⟩ := bindSome h
    simp only [Option.some.injEq, Prod.mk.injEq] at hA
    obtain ⟨rfl, rfl⟩ := hA
    exact ⟨_, σ, F, w, Runs.pure, evx_ok ht hv, Post.refl hr _, LogOk.refl _⟩
  · unfold val1 at h
    obtain ⟨v, hv, hA⟩ := bindSome h
    simp only [Option.some.injEq, Prod.mk.injEq] at hA
    obtain ⟨rfl, rfl⟩ := hA
    exact ⟨_, σ, F, w, Runs.pure, evx_ok ht hv, Post.refl hr _, LogOk.refl _⟩
  · -- pick
    rename_i c x y
    obtain ⟨cv, hc, hA⟩ := bindSome h
    split at hA
    · rename_i b
      have hcv := (evx_ok ht hc).bool_inv
      unfold val1 at hA
      obtain ⟨v, hv, hB⟩ := bindSome hA
      simp only [Option.some.injEq, Prod.mk.injEq] at hB
      obtain ⟨rfl, rfl⟩ := hB
      refine ⟨if b then a.eval x else a.eval y, σ, F, w, ?_, ?_, Post.refl hr _, LogOk.refl _⟩
      · unfold execOp
        simp only [hcv]
        exact Runs.bind (a := b) (w1 := w) Runs.pure Runs.pure
      · cases b with
        | true => exact evx_ok ht hv
        | false => exact evx_ok ht hv
    · cases hA
  · -- alloc
    rename_i e
    obtain ⟨ti, hti, hA0⟩ := bindSome h
    obtain ⟨hsz, hA⟩ := condSome hA0
    obtain ⟨r, hn, hB⟩ := bindSome hA
    simp only [Option.some.injEq, Prod.mk.injEq] at hB
    obtain ⟨rfl, rfl⟩ := hB
    obtain ⟨id, H2⟩ := r
    obtain ⟨z, hz1, hz2, hz3⟩ := (htt _ _ hti).zeroCells (σ := σ) (F := F) (w := w)
    obtain ⟨cv, σ', F', w', g1, g2, g3, g4⟩ := newVar_ok (P := P) (e := e) hr hn (Nat.eq_of_beq_eq_true hsz) hfr hz3 hz2
    exact NOk.of_val ⟨cv, σ', F', w', Runs.bind hz1 g1, g2, g3, g4⟩
  · -- box
    rename_i e x
    obtain ⟨v, hv, hA⟩ := bindSome h
    obtain ⟨cs, hcs, hB⟩ := bindSome hA
    obtain ⟨r, hn, hC⟩ := bindSome hB
    simp only [Option.some.injEq, Prod.mk.injEq] at hC
    obtain ⟨rfl, rfl⟩ := hC
    obtain ⟨id, H2⟩ := r
    obtain ⟨g1, g2⟩ := (evx_ok ht hv).cells hcs
    exact NOk.of_val (newVar_ok hr hn rfl hfr g2 g1)
  · -- build
    rename_i t parts
    obtain ⟨ti, hti, hA⟩ := bindSome h
    obtain ⟨ps, hps, hB⟩ := bindSome hA
    clear h hA
    have hp := evParts_ok ht hps
    generalize hu : ti.ud = u at hB
    have harr : parts.map (fun (p : Nat × Operand) => (p.1, a.eval p.2)) = (parts.toList.map fun p => (p.1, a.eval p.2)).toArray := by
      apply Array.ext'; simp
    split at hB
    · rename_i fs
      obtain ⟨cs, hcs, hC⟩ := bindSome hB
      simp only [Option.some.injEq, Prod.mk.injEq] at hC
      obtain ⟨rfl, rfl⟩ := hC
      have := build_ok (P := P) (w := w) (htt _ _ hti) hu hcs hp
      refine NOk.of_val (VOk.pure hr ?_)
      rw [harr]; exact this
    · rename_i m e
      obtain ⟨te, hte, hC⟩ := bindSome hB
      obtain ⟨cs, hcs, hD⟩ := bindSome hC
      simp only [Option.some.injEq, Prod.mk.injEq] at hD
      obtain ⟨rfl, rfl⟩ := hD
      have := buildArr_ok (P := P) (w := w) (htt _ _ hti) hu (htt _ _ hte) hcs hp
      refine NOk.of_val (VOk.pure hr ?_)
      rw [harr]; exact this
    · cases hB
  · -- buildSlice
    rename_i t m parts
    obtain ⟨ti, hti, hA⟩ := bindSome h
    obtain ⟨ps, hps, hB⟩ := bindSome hA
    clear h hA
    have hp := evParts_ok ht hps
    generalize hu : ti.ud = u at hB
    have harr : parts.map (fun (p : Nat × Operand) => (p.1, a.eval p.2)) = (parts.toList.map fun p => (p.1, a.eval p.2)).toArray := by
      apply Array.ext'; simp
    split at hB
    · rename_i e
      obtain ⟨te, hte, hC⟩ := bindSome hB
      obtain ⟨hcond, hD⟩ := condSome hC
      obtain ⟨es, hes, hE⟩ := bindSome hD
      obtain ⟨r, hn, hG⟩ := bindSome hE
      simp only [Option.some.injEq, Prod.mk.injEq] at hG
      obtain ⟨rfl, rfl⟩ := hG
      obtain ⟨id, H2⟩ := r
      simp only [Bool.and_eq_true, Bool.not_eq_true'] at hcond
      obtain ⟨⟨c1, c2⟩, c3⟩ := hcond
      have c1 := Nat.le_of_ble_eq_true c1
      have c2' : te.size ≠ 0 := fun e0 => by rw [e0] at c2; cases c2
      have c3 := Nat.eq_of_beq_eq_true c3
      have he := htt _ _ hte
      obtain ⟨z, hz1, hz2, hz3⟩ := he.zeroCells (σ := σ) (F := F) (w := w)
      have hrow := rep_row (n := m) hz3 hz2 c3
      obtain ⟨c', k1, k2⟩ := fillE_ok c2' ps _ _ es _ hes hp hrow
      obtain ⟨h1, h2, h3⟩ := newRow_ok (P := P) (e := e) hr hn hfr k2.toRow
      obtain ⟨rfl, _⟩ := AH.new_eq hn
      have hw := k2.whole
      have hlen : es.length = m := by
        have h5 : c'.size = (rep m te.zero).length * te.size := by
          have key : ∀ (ps : List (Nat × Value)) (c c' : Array Value) (pl : Nat → Option (Nat × Nat)), Instr.fill pl c ps = some c' → c'.size = c.size := by
            intro ps
            induction ps with
            | nil => intro c c' pl h; simp only [Instr.fill, Option.some.injEq] at h; subst h; rfl
            | cons p ps ih =>
              intro c c' pl h
              obtain ⟨i, v⟩ := p
              simp only [Instr.fill] at h
              split at h
              · cases h
              · split at h
                · cases h
                · have := ih _ _ _ h
                  rw [fold_over] at this
                  rw [this]; simp
          rw [key _ _ _ _ k1, hrow.whole]
        rw [hw] at h5
        have : es.length = (rep m te.zero).length := Nat.eq_of_mul_eq_mul_right (by omega) h5
        rw [this]; simp [rep]
      refine NOk.of_val ⟨.slice (some ⟨w.heap.size, 0, none⟩) m m, _, _, _, ?_, ?_, h2, h3⟩
      · unfold Instr.buildSlice
        refine Runs.bind (runs_underlying ((htt _ _ hti).und_slice hu)) ?_
        simp only []
        refine Runs.bind he.size_ ?_
        rw [if_neg (by omega)]
        by_cases h0 : m * te.size = 0
        · rw [if_pos h0]
          refine Runs.bind (a := #[]) (w1 := w) Runs.pure ?_
          have hfill : Instr.fill (fun i => some (i * te.size, te.size)) ((Array.range (m * te.size)).map fun x => (#[] : Array Value)[x % (#[] : Array Value).size]!) (parts.map (fun (p : Nat × Operand) => (p.1, a.eval p.2))).toList = some c' := by
            rw [harr]
            rw [h0] at k1 ⊢
            simpa [show Array.range 0 = #[] from rfl] using k1
          simp only [hfill]
          exact Runs.bind h1 Runs.pure
        · rw [if_neg h0]
          refine Runs.bind hz1 ?_
          refine Runs.bind (a := z.cells) (w1 := w) Runs.pure ?_
          have hfill : Instr.fill (fun i => some (i * te.size, te.size)) ((Array.range (m * te.size)).map fun x => z.cells[x % z.cells.size]!) (parts.map (fun (p : Nat × Operand) => (p.1, a.eval p.2))).toList = some c' := by
            rw [harr]; simpa using k1
          simp only [hfill]
          exact Runs.bind h1 Runs.pure
      · have := VRel.slice (σ := updσ σ H.next (w.heap.size, c'.size)) (F := F) (id := H.next) (sz := te.size) (st := 0) (len := m) (cap := m) (ex := true) (b := w.heap.size) (cs := c'.size) (cap' := m)
          (by unfold updσ; rw [if_pos rfl]) (Nat.le_refl _) (fun _ => rfl) (by rw [hw, hlen]; simp) (Nat.le_refl _)
        simpa using this
    · cases hB
  · -- load
    rename_i t x
    obtain ⟨ti, hti, hA⟩ := bindSome h
    obtain ⟨av, hav, hB⟩ := bindSome hA
    exact NOk.pure1 hB hr fun v hv => loadA_ok (htt _ _ hti) hv (evx_ok ht hav) hr
  · -- store
    rename_i t x y
    obtain ⟨ti, hti, hA⟩ := bindSome h
    obtain ⟨av, hav, hB⟩ := bindSome hA
    obtain ⟨bv, hbv, hC⟩ := bindSome hB
    unfold skipH at hC
    obtain ⟨H2, hH2, hD⟩ := bindSome hC
    simp only [Option.some.injEq, Prod.mk.injEq] at hD
    obtain ⟨rfl, rfl⟩ := hD
    exact NOk.of_unit (storeA_ok (htt _ _ hti) hH2 (evx_ok ht hav) (evx_ok ht hbv) hr)
  · -- nilCheck
    rename_i x
    obtain ⟨v, hv, hA⟩ := bindSome h
    have hvx := evx_ok ht hv
    have fin : ∀ {cv : Value}, a.eval x = cv → VRel σ F v cv → (execOp a.eval { dst, op := .nilCheck x, type, pos, after, guard }) = pure (.value cv) → NOk P σ F H w (execOp a.eval { dst, op := .nilCheck x, type, pos, after, guard }) (.val v) H := by
      intro cv h1 h2 h3
      exact ⟨cv, σ, F, w, by rw [h3]; exact Runs.pure, h2, Post.refl hr _, LogOk.refl _⟩
    split at hA
    · simp only [Option.some.injEq, Prod.mk.injEq] at hA
      obtain ⟨rfl, rfl⟩ := hA
      generalize he : a.eval x = cv at hvx
      cases hvx with
      | ptr hs => exact fin he (.ptr hs) (by simp only [execOp, he])
    · simp only [Option.some.injEq, Prod.mk.injEq] at hA
      obtain ⟨rfl, rfl⟩ := hA
      generalize he : a.eval x = cv at hvx
      cases hvx with
      | lp q1 q2 q3 q4 => exact fin he (.lp q1 q2 q3 q4) (by simp only [execOp, he])
    · simp only [Option.some.injEq, Prod.mk.injEq] at hA
      obtain ⟨rfl, rfl⟩ := hA
      generalize he : a.eval x = cv at hvx
      cases hvx with
      | func q1 q2 => exact fin he (.func q1 q2) (by simp only [execOp, he])
    · simp only [Option.some.injEq, Prod.mk.injEq] at hA
      obtain ⟨rfl, rfl⟩ := hA
      generalize he : a.eval x = cv at hvx
      cases hvx with
      | iface q1 => exact fin he (.iface q1) (by simp only [execOp, he])
    · cases hA
  · -- binOp
    rename_i op t x y yt
    obtain ⟨av, hav, hA⟩ := bindSome h
    obtain ⟨bv, hbv, hB⟩ := bindSome hA
    obtain ⟨hn, hC⟩ := condSome hB
    exact NOk.pure1 hC hr fun v hv => binOpA_ok htt hv hn (evx_ok ht hav) (evx_ok ht hbv)
  · -- unOp
    obtain ⟨av, hav, hA⟩ := bindSome h
    exact NOk.pure1 hA hr fun v hv => unOpA_ok hv (evx_ok ht hav)
  · -- convert
    obtain ⟨av, hav, hA⟩ := bindSome h
    unfold valH at hA
    obtain ⟨r, hr1, hB⟩ := bindSome hA
    simp only [Option.some.injEq, Prod.mk.injEq] at hB
    obtain ⟨rfl, rfl⟩ := hB
    exact NOk.of_val (convertA_ok htt hr1 (evx_ok ht hav) hr hfr)
  · -- makeInterface
    rename_i t x
    obtain ⟨ti, hti, hA⟩ := bindSome h
    obtain ⟨av, hav, hB⟩ := bindSome hA
    clear h hA
    generalize hu : ti.ud = u at hB
    split at hB
    · cases hB
    · rename_i hni
      simp only [Option.some.injEq, Prod.mk.injEq] at hB
      obtain ⟨rfl, rfl⟩ := hB
      obtain ⟨d, hd, hud⟩ := (htt _ _ hti).und
      rw [hu] at hud
      have hif : isIfD d = false := hud.notIf (fun e => hni e)
      refine NOk.of_val (VOk.pure hr ⟨_, ?_, .iface (evx_ok ht hav)⟩)
      unfold Instr.makeInterface
      refine Runs.bind (runs_underlying hd) ?_
      cases d <;> first | exact Runs.pure | (simp [isIfD] at hif)
  · -- makeFunc
    rename_i f first caps
    obtain ⟨he, hA⟩ := condSome h
    obtain ⟨cs, hcs, hB⟩ := bindSome hA
    simp only [Option.some.injEq, Prod.mk.injEq] at hB
    obtain ⟨rfl, rfl⟩ := hB
    have hf : first = #[] := by simpa using he
    subst hf
    obtain ⟨q1, q2⟩ := evs_arel ht hcs
    refine NOk.of_val (VOk.pure hr ⟨.func (.func f) #[] (caps.map a.eval), ?_, .func q1 q2⟩)
    unfold Instr.makeFunc
    exact Runs.pure.of (by simp)
  · -- makeMap
    rename_i t
    obtain ⟨r, hn, hA⟩ := bindSome h
    simp only [Option.some.injEq, Prod.mk.injEq] at hA
    obtain ⟨rfl, rfl⟩ := hA
    obtain ⟨id, H2⟩ := r
    have hl := LogOk.new hn
    obtain ⟨rfl, h2, h3, h4, h5⟩ := AH.new_eq hn
    have hnone := hfr H.next (Nat.le_refl _) (by show H.next < H2.next; omega)
    refine NOk.of_val ⟨.map (some w.heap.size), updσ σ H.next (w.heap.size, 0), F, pushW w (.map #[] 0), ?_, .map (cs := 0) (by unfold updσ; rw [if_pos rfl]), ?_, hl⟩
    · unfold Instr.makeMap
      exact Runs.bind (a := w.heap.size) rfl Runs.pure
    · rw [h2, h4]
      exact Post.new hr hnone h3 ⟨#[], 0, rfl, rfl, by simp, Stm.empty⟩
  · -- makeSlice
    rename_i t l c
    obtain ⟨ti, hti, hA⟩ := bindSome h
    obtain ⟨lv, hlv, hB⟩ := bindSome hA
    obtain ⟨cv, hcv, hC⟩ := bindSome hB
    clear h hA hB
    generalize hu : ti.ud = u at hC
    split at hC
    · rename_i e
      obtain ⟨te, hte, hD⟩ := bindSome hC
      obtain ⟨ln, hln, hE⟩ := bindSome hD
      obtain ⟨cn, hcn, hG⟩ := bindSome hE
      obtain ⟨hcond, hI⟩ := condSome hG
      obtain ⟨r, hn, hJ⟩ := bindSome hI
      simp only [Option.some.injEq, Prod.mk.injEq] at hJ
      obtain ⟨rfl, rfl⟩ := hJ
      obtain ⟨id, H2⟩ := r
      simp only [Bool.and_eq_true, Bool.not_eq_true'] at hcond
      obtain ⟨⟨⟨⟨c1, c2⟩, c3⟩, c4⟩, c5⟩ := hcond
      have c1 := Nat.le_of_ble_eq_true c1
      have c2 := Nat.le_of_ble_eq_true c2
      have c3 := blt_iff.1 c3
      have c5 := Nat.eq_of_beq_eq_true c5
      have he := htt _ _ hte
      obtain ⟨ie, hie, hby, hsz⟩ := bytes_ok (w := w) he
      obtain ⟨z, hz1, hz2, hz3⟩ := he.zeroCells (σ := σ) (F := F) (w := w)
      have hrow := rep_row (n := cn) hz3 hz2 c5
      obtain ⟨h1, h2, h3⟩ := newRow_ok (P := P) (e := e) hr hn hfr hrow.toRow
      obtain ⟨rfl, _⟩ := AH.new_eq hn
      obtain ⟨lk, rfl⟩ := natOf_eq hln
      obtain ⟨ck, rfl⟩ := natOf_eq hcn
      have el := (evx_ok ht hlv).int_inv
      have ec := (evx_ok ht hcv).int_inv
      have hwrap : ∀ n : Nat, n < 9223372036854775808 → IntKind.i64.wrap (n : Int) = (n : Int) := by
        intro n hn
        exact IntWalk.i64_in _ (by omega)
      have hw := hrow.whole
      refine NOk.of_val ⟨.slice (some ⟨w.heap.size, 0, none⟩) ln cn, _, _, _, ?_, ?_, h2, h3⟩
      · unfold Instr.makeSlice
        refine Runs.bind (runs_underlying ((htt _ _ hti).und_slice hu)) ?_
        simp only [el, ec]
        refine Runs.bind (a := (ln : Int)) (w1 := w) (Runs.bind (a := (lk, (ln : Int))) (w1 := w) Runs.pure Runs.pure) ?_
        refine Runs.bind (a := (cn : Int)) (w1 := w) (Runs.bind (a := (ck, (cn : Int))) (w1 := w) Runs.pure Runs.pure) ?_
        refine Runs.bind hie ?_
        rw [hwrap ln (by omega), hwrap cn c3, hby]
        rw [if_neg (by
          simp only [Bool.or_eq_true, decide_eq_true_eq, not_or]
          refine ⟨⟨⟨by omega, ?_⟩, by omega⟩, by omega⟩
          have := Int.ofNat_le.2 c1
          rw [Int.natCast_mul] at this
          omega)]
        refine Runs.bind runs_askRoom ?_
        refine Runs.bind he.size_ ?_
        simp only [Int.toNat_natCast]
        have hz0 : te.size ≠ 0 := fun e0 => by rw [e0] at c4; cases c4
        by_cases h0 : cn * te.size = 0
        · rw [if_pos h0]
          refine Runs.bind (a := #[]) (w1 := w) Runs.pure ?_
          have hsame : ((Array.range (cn * te.size)).map fun x => (#[] : Array Value)[x % (#[] : Array Value).size]!) = (Array.range (cn * te.size)).map (fun k => z.cells[k % z.cells.size]!) := by
            rw [h0, show Array.range 0 = #[] from rfl]; simp
          rw [hsame]
          exact Runs.bind h1 Runs.pure
        · rw [if_neg h0]
          refine Runs.bind hz1 ?_
          refine Runs.bind (a := z.cells) (w1 := w) Runs.pure ?_
          exact Runs.bind h1 Runs.pure
      · have := VRel.slice (σ := updσ σ H.next (w.heap.size, ((Array.range (cn * te.size)).map (fun k => z.cells[k % z.cells.size]!)).size)) (F := F) (id := H.next) (sz := te.size) (st := 0) (len := ln) (cap := cn) (ex := true) (b := w.heap.size)
          (cs := ((Array.range (cn * te.size)).map (fun k => z.cells[k % z.cells.size]!)).size) (cap' := cn) (by unfold updσ; rw [if_pos rfl]) (Nat.le_refl _) (fun _ => rfl) (by rw [hw]; simp [rep]) c2
        simpa using this
    · cases hC
  · -- slice
    rename_i t x lo hi mx
    obtain ⟨ti, hti, hA⟩ := bindSome h
    obtain ⟨xv, hxv, hB⟩ := bindSome hA
    obtain ⟨lv, hlv, hC⟩ := bindSome hB
    obtain ⟨hv, hhv, hD⟩ := bindSome hC
    obtain ⟨mv, hmv, hE⟩ := bindSome hD
    exact NOk.pure1 hE hr fun v hv => sliceA_ok htt (htt _ _ hti) hv (evx_ok ht hxv) (getX_ok ht hlv) (getX_ok ht hhv) (getX_ok ht hmv)
  · -- sliceToArrayPointer
    rename_i t x
    obtain ⟨ti, hti, hA⟩ := bindSome h
    obtain ⟨xv, hxv, hB⟩ := bindSome hA
    refine NOk.pure1 hB hr fun v hv => ?_
    have hxr := evx_ok ht hxv
    unfold arrayAtA at hv
    split at hv
    · rename_i m e id sz st len cap ex hu
      obtain ⟨hle, hv⟩ := condSome hv
      have hle := Nat.le_of_ble_eq_true hle
      simp only [Option.some.injEq] at hv; subst hv
      generalize a.eval x = cx at hxr ⊢
      cases hxr with
      | slice hs h1 h2 h3 h4 =>
      rename_i b cs cap'
      have hd := (htt _ _ hti).und_arr hu
      refine ⟨.pointer (some ⟨b, st * sz, none⟩), ?_, VRel.ptr (off := 0) hs⟩
      unfold Instr.arrayAt
      refine Runs.bind (runs_underlying hd) ?_
      simp only []
      rw [if_neg (by omega)]
      exact Runs.pure
    · cases hv
  · -- fieldAddr
    obtain ⟨ti, hti, hA⟩ := bindSome h
    obtain ⟨xv, hxv, hB⟩ := bindSome hA
    exact NOk.pure1 hB hr fun v hv => fieldAddrA_ok (htt _ _ hti) hv (evx_ok ht hxv)
  · -- field
    rename_i t x f
    obtain ⟨ti, hti, hA⟩ := bindSome h
    obtain ⟨xv, hxv, hB⟩ := bindSome hA
    clear h hA
    have hxr := evx_ok ht hxv
    generalize hu : ti.ud = u at hB
    split at hB
    · rename_i fs cs
      obtain ⟨q, hq, hC⟩ := bindSome hB
      obtain ⟨tq, htq, hD⟩ := bindSome hC
      obtain ⟨fields, hd, hsz, hf⟩ := (htt _ _ hti).und_struct hu
      obtain ⟨fd, fi, h1, h2, h3, h4, h5⟩ := hf f q hq
      obtain ⟨cs', hcs', hs1, hs2⟩ := hxr.agg_inv
      refine NOk.pure1 hD hr fun v hv => ?_
      obtain ⟨cv, g1, g2⟩ := partA_part (w := w) (htt _ _ htq) hv hs2
      refine ⟨cv, ?_, g2⟩
      unfold Instr.field
      rw [hcs']
      refine Runs.bind (runs_underlying hd) ?_
      simp only [h1]
      refine Runs.bind (a := cs') (w1 := w) Runs.pure ?_
      rw [h3, h2]; exact g1
    · cases hB
  · -- indexAddr
    obtain ⟨ti, hti, hA⟩ := bindSome h
    obtain ⟨xv, hxv, hB⟩ := bindSome hA
    obtain ⟨iv, hiv, hC⟩ := bindSome hB
    exact NOk.pure1 hC hr fun v hv => indexAddrA_ok htt (htt _ _ hti) hv (evx_ok ht hxv) (evx_ok ht hiv)
  · -- index
    obtain ⟨ti, hti, hA⟩ := bindSome h
    obtain ⟨xv, hxv, hB⟩ := bindSome hA
    obtain ⟨iv, hiv, hC⟩ := bindSome hB
    exact NOk.pure1 hC hr fun v hv => indexA_ok htt (htt _ _ hti) hv (evx_ok ht hxv) (evx_ok ht hiv)
  · -- lookup
    obtain ⟨ti, hti, hA⟩ := bindSome h
    obtain ⟨xv, hxv, hB⟩ := bindSome hA
    obtain ⟨iv, hiv, hC⟩ := bindSome hB
    exact NOk.pure1 hC hr fun v hv => lookupA_ok htt (htt _ _ hti) hv (evx_ok ht hxv) (evx_ok ht hiv) hr
  · -- mapUpdate
    obtain ⟨ti, hti, hA⟩ := bindSome h
    obtain ⟨xv, hxv, hB⟩ := bindSome hA
    obtain ⟨iv, hiv, hC⟩ := bindSome hB
    obtain ⟨yv, hyv, hD⟩ := bindSome hC
    unfold skipH at hD
    obtain ⟨H2, hH2, hE⟩ := bindSome hD
    simp only [Option.some.injEq, Prod.mk.injEq] at hE
    obtain ⟨rfl, rfl⟩ := hE
    exact NOk.of_unit (updateA_ok htt (htt _ _ hti) hH2 (evx_ok ht hxv) (evx_ok ht hiv) (evx_ok ht hyv) hr)
  · -- insert
    obtain ⟨ti, hti, hA⟩ := bindSome h
    obtain ⟨xv, hxv, hB⟩ := bindSome hA
    obtain ⟨iv, hiv, hC⟩ := bindSome hB
    obtain ⟨yv, hyv, hD⟩ := bindSome hC
    unfold skipH at hD
    obtain ⟨H2, hH2, hE⟩ := bindSome hD
    simp only [Option.some.injEq, Prod.mk.injEq] at hE
    obtain ⟨rfl, rfl⟩ := hE
    exact NOk.of_unit (updateA_ok htt (htt _ _ hti) hH2 (evx_ok ht hxv) (evx_ok ht hiv) (evx_ok ht hyv) hr)
  · -- typeAssert
    obtain ⟨xv, hxv, hA⟩ := bindSome h
    exact NOk.pure1 hA hr fun v hv => assertA_ok htt hv (evx_ok ht hxv)
  · -- extract
    rename_i x i
    obtain ⟨xv, hxv, hA⟩ := bindSome h
    have hxr := evx_ok ht hxv
    split at hA
    · rename_i vs
      refine NOk.pure1 hA hr fun v hv => ?_
      generalize a.eval x = cx at hxr
      cases hxr with
      | tup hs hv' =>
        rename_i vs'
        have hi : i < vs'.size := by have := (List.getElem?_eq_some_iff.1 hv).1; omega
        refine ⟨vs'.getD i undef, ?_, hv' i v hv⟩
        unfold Instr.extract
        simp only [Array.getElem?_eq_getElem hi]
        exact Runs.pure.of (by simp [Array.getD, hi])
    · cases hA
  · -- call
    rename_i c
    split at h
    · rename_i fo hc
      obtain ⟨fv, hfv, hA⟩ := bindSome h
      obtain ⟨as, has, hB⟩ := bindSome hA
      obtain ⟨m, hm, hC⟩ := bindSome hB
      simp only [Option.some.injEq, Prod.mk.injEq] at hC
      obtain ⟨rfl, rfl⟩ := hC
      have := callA_ok (P := P) (w := w) (H := H) hm (evx_ok ht hfv) (evs_arel ht has)
      unfold execOp resolve
      simp only [hc]
      exact this
    · rename_i ro name hc
      obtain ⟨rv, hrv, hA⟩ := bindSome h
      obtain ⟨as, has, hB⟩ := bindSome hA
      have hrr := evx_ok ht hrv
      split at hB
      · rename_i t v
        obtain ⟨ti, hti, hC⟩ := bindSome hB
        obtain ⟨f, hf, hD⟩ := bindSome hC
        simp only [Option.some.injEq, Prod.mk.injEq] at hD
        obtain ⟨rfl, rfl⟩ := hD
        generalize he : a.eval ro = cr at hrr
        cases hrr with
        | iface hv =>
          rename_i cv
          have := invoke_ok (P := P) (w := w) (H := H) htt (htt _ _ hti) hf hv (evs_arel ht has)
          unfold execOp resolve
          simp only [hc, he]
          exact this
      · cases hB
    · rename_i b hc
      obtain ⟨as, has, hA⟩ := bindSome h
      have := builtinA_ok (P := P) (ty := type) (consts := c.args.map fun | .const _ => true | _ => false) htt hA (evs_arel ht has) hr hfr
      unfold execOp resolve
      simp only [hc]
      exact this
  · cases h

end
end Go.VM

/- What each operation writes into the log. -/
namespace Go.VM
open Go

theorem storeA_log {ti : TI} {a v : AV} {H H' : AH} (h : storeA ti a v H = some H') : LogOk H H' := by
  unfold storeA at h
  split at h
  · split at h
    · obtain ⟨_, hA⟩ := condSome h
      obtain ⟨_, _, hB⟩ := bindSome hA
      obtain ⟨_, _, hC⟩ := bindSome hB
      obtain ⟨_, hD⟩ := condSome hC
      simp only [Option.some.injEq] at hD; subst hD
      exact LogOk.put
    · cases h
  · cases h

theorem new_log {H H' : AH} {o : AO} {r : Nat × AH} (h : H.new o = some r) (e : r.2 = H') : LogOk H H' := by
  subst e; exact LogOk.new (i := r.1) h

theorem appendA_log {te tx : TI} {s x v : AV} {H H' : AH} (h : appendA te tx s x H = some (v, H')) : LogOk H H' := by
  unfold appendA at h
  obtain ⟨_, hA⟩ := condSome h
  obtain ⟨_, hB⟩ := condSome hA
  obtain ⟨new, _, hC⟩ := bindSome hB
  clear h hA hB
  have grow : ∀ {c : Bool} {o : AO} {f : Nat × AH → AV × AH} (hf : ∀ r, (f r).2 = r.2) {K : AH}, cond c ((K.new o).bind fun r => some (f r)) none = some (v, H') → LogOk K H' := by
    intro c o f hf K h
    obtain ⟨_, h1⟩ := condSome h
    obtain ⟨r, h2, h3⟩ := bindSome h1
    simp only [Option.some.injEq] at h3
    exact new_log h2 (by rw [← hf r, h3])
  split at hC
  · split at hC
    · simp only [Option.some.injEq, Prod.mk.injEq] at hC
      rw [← hC.2]; exact LogOk.refl _
    · exact grow (f := fun r => (AV.slice r.1 te.size 0 _ _ false, r.2)) (fun _ => rfl) hC
  · split at hC
    · simp only [Option.some.injEq, Prod.mk.injEq] at hC
      rw [← hC.2]; exact LogOk.refl _
    · exact grow (f := fun r => (AV.slice r.1 te.size 0 _ _ false, r.2)) (fun _ => rfl) hC
  · rename_i id sz st len cap ex
    obtain ⟨_, hD⟩ := condSome hC
    split at hD
    · obtain ⟨_, hE⟩ := condSome hD
      cases hb : (!(te.grow && !ex) && Nat.ble (len + new.length) cap) with
      | true =>
        rw [hb] at hE
        simp only [cond_true] at hE
        obtain ⟨_, hG⟩ := condSome hE
        simp only [Option.some.injEq, Prod.mk.injEq] at hG
        rw [← hG.2]; exact LogOk.put
      | false =>
        rw [hb] at hE
        simp only [cond_false] at hE
        obtain ⟨_, hG⟩ := condSome hE
        cases ex with
        | true =>
          simp only [cond_true] at hG
          obtain ⟨r, h2, h3⟩ := bindSome hG
          simp only [Option.some.injEq, Prod.mk.injEq] at h3
          exact new_log h2 h3.2
        | false =>
          simp only [cond_false] at hG
          obtain ⟨_, hI⟩ := condSome hG
          obtain ⟨r, h2, h3⟩ := bindSome hI
          simp only [Option.some.injEq, Prod.mk.injEq] at h3
          exact LogOk.put.trans (new_log h2 h3.2)
    · cases hD
  · cases hC

theorem convertA_log {tt : TT} {s d : TypeId} {x v : AV} {H H' : AH} (h : convertA tt s d x H = some (v, H')) : LogOk H H' := by
  unfold convertA at h
  obtain ⟨_, _, hA⟩ := bindSome h
  obtain ⟨_, _, hB⟩ := bindSome hA
  have same : ∀ {u : AV}, some (u, H) = some (v, H') → LogOk H H' := by
    intro u h
    simp only [Option.some.injEq, Prod.mk.injEq] at h
    rw [← h.2]; exact LogOk.refl _
  split at hB
  · exact same hB
  · exact same hB
  · obtain ⟨_, _, hC⟩ := bindSome hB
    split at hC
    · split at hC
      · cases hC
      · obtain ⟨_, hD⟩ := condSome hC
        obtain ⟨_, _, hE⟩ := bindSome hD
        obtain ⟨_, _, hG⟩ := bindSome hE
        exact same hG
    · cases hC
  · obtain ⟨_, _, hC⟩ := bindSome hB
    split at hC
    · obtain ⟨r, h2, h3⟩ := bindSome hC
      simp only [Option.some.injEq, Prod.mk.injEq] at h3
      exact new_log h2 h3.2
    · cases hC
  · obtain ⟨_, hC⟩ := condSome hB
    obtain ⟨_, _, hD⟩ := bindSome hC
    split at hD
    · split at hD
      · simp only [Option.some.injEq, Prod.mk.injEq] at hD
        rw [← hD.2]; exact LogOk.put
      · cases hD
    · cases hD
  · cases hB

theorem updateA_log {tt : TT} {ti : TI} {m k v : AV} {H H' : AH} (h : updateA tt ti m k v H = some H') : LogOk H H' := by
  unfold updateA at h
  split at h
  · obtain ⟨_, hA⟩ := condSome h
    split at hA
    · obtain ⟨_, _, hB⟩ := bindSome hA
      split at hB
      · simp only [Option.some.injEq] at hB; subst hB; exact LogOk.put
      · simp only [Option.some.injEq] at hB; subst hB; exact LogOk.put
    · cases hA
  · cases h

theorem deleteA_log {tt : TT} {ti : TI} {m k : AV} {H H' : AH} (h : deleteA tt ti m k H = some H') : LogOk H H' := by
  unfold deleteA at h
  split at h
  · obtain ⟨_, hA⟩ := condSome h
    split at hA
    · obtain ⟨_, _, hB⟩ := bindSome hA
      split at hB
      · simp only [Option.some.injEq] at hB; subst hB; exact LogOk.put
      · simp only [Option.some.injEq] at hB; subst hB; exact LogOk.refl _
    · cases hA
  · cases h

theorem val1_log {x : Option AV} {H H' : AH} {n : AN} (h : val1 x H = some (n, H')) : LogOk H H' := by
  unfold val1 at h
  obtain ⟨_, _, hA⟩ := bindSome h
  simp only [Option.some.injEq, Prod.mk.injEq] at hA
  rw [← hA.2]; exact LogOk.refl _

theorem same_log {m n : AN} {H H' : AH} (h : some (m, H) = some (n, H')) : LogOk H H' := by
  simp only [Option.some.injEq, Prod.mk.injEq] at h
  rw [← h.2]; exact LogOk.refl _

theorem builtinA_log {tt : TT} {b : Builtin} {at_ : List TypeId} {args : List AV} {H H' : AH} {n : AN} (h : builtinA tt b at_ args H = some (n, H')) : LogOk H H' := by
  unfold builtinA at h
  split at h
  · obtain ⟨_, _, hA⟩ := bindSome h
    obtain ⟨_, _, hB⟩ := bindSome hA
    exact same_log hB
  · obtain ⟨_, _, hA⟩ := bindSome h
    obtain ⟨_, _, hB⟩ := bindSome hA
    split at hB
    · obtain ⟨_, _, hC⟩ := bindSome hB
      unfold valH at hC
      obtain ⟨r, h2, h3⟩ := bindSome hC
      simp only [Option.some.injEq, Prod.mk.injEq] at h3
      rw [← h3.2]
      exact appendA_log h2
    · cases hB
  · exact val1_log h
  · exact val1_log h
  · obtain ⟨_, _, hA⟩ := bindSome h
    obtain ⟨_, h2, hB⟩ := bindSome hA
    simp only [Option.some.injEq, Prod.mk.injEq] at hB
    rw [← hB.2]; exact deleteA_log h2
  · obtain ⟨_, _, hA⟩ := bindSome h
    split at hA
    · exact same_log hA
    · exact same_log hA
    · exact same_log hA
    · obtain ⟨_, _, hB⟩ := bindSome hA
      obtain ⟨_, hC⟩ := condSome hB
      split at hC
      · obtain ⟨_, hD⟩ := condSome hC
        simp only [Option.some.injEq, Prod.mk.injEq] at hD
        rw [← hD.2]; exact LogOk.put
      · cases hC
    · cases hA
  · cases h

theorem opA_LogOk {tt : TT} {op : Op} {tmps : Tr AV} {H H' : AH} {n : AN} (h : opA tt op tmps H = some (n, H')) : LogOk H H' := by
  have newp : ∀ {o : AO} {f : Nat × AH → AN}, ((H.new o).bind fun r => some (f r, r.2)) = some (n, H') → LogOk H H' := by
    intro o f h
    obtain ⟨r, h2, h3⟩ := bindSome h
    simp only [Option.some.injEq, Prod.mk.injEq] at h3
    exact new_log h2 h3.2
  unfold opA at h
  split at h
  · exact val1_log h
  · exact val1_log h
  · obtain ⟨_, _, hA⟩ := bindSome h
    split at hA
    · exact val1_log hA
    · cases hA
  · obtain ⟨_, _, hA⟩ := bindSome h
    obtain ⟨_, hB⟩ := condSome hA
    exact newp (f := fun r => .val (.ptr r.1 _ 0 0)) hB
  · obtain ⟨_, _, hA⟩ := bindSome h
    obtain ⟨_, _, hB⟩ := bindSome hA
    exact newp (f := fun r => .val (.ptr r.1 _ 0 0)) hB
  · obtain ⟨_, _, hA⟩ := bindSome h
    obtain ⟨_, _, hB⟩ := bindSome hA
    split at hB
    · obtain ⟨_, _, hC⟩ := bindSome hB; exact same_log hC
    · obtain ⟨_, _, hC⟩ := bindSome hB
      obtain ⟨_, _, hD⟩ := bindSome hC; exact same_log hD
    · cases hB
  · obtain ⟨_, _, hA⟩ := bindSome h
    obtain ⟨_, _, hB⟩ := bindSome hA
    split at hB
    · obtain ⟨_, _, hC⟩ := bindSome hB
      obtain ⟨_, hD⟩ := condSome hC
      obtain ⟨_, _, hE⟩ := bindSome hD
      exact newp (f := fun r => .val (.slice r.1 _ 0 _ _ true)) hE
    · cases hB
  · obtain ⟨_, _, hA⟩ := bindSome h
    obtain ⟨_, _, hB⟩ := bindSome hA
    exact val1_log hB
  · obtain ⟨_, _, hA⟩ := bindSome h
    obtain ⟨_, _, hB⟩ := bindSome hA
    obtain ⟨_, _, hC⟩ := bindSome hB
    unfold skipH at hC
    obtain ⟨_, h2, hD⟩ := bindSome hC
    simp only [Option.some.injEq, Prod.mk.injEq] at hD
    rw [← hD.2]; exact storeA_log h2
  · obtain ⟨_, _, hA⟩ := bindSome h
    split at hA <;> first | exact same_log hA | cases hA
  · obtain ⟨_, _, hA⟩ := bindSome h
    obtain ⟨_, _, hB⟩ := bindSome hA
    obtain ⟨_, hC⟩ := condSome hB
    exact val1_log hC
  · obtain ⟨_, _, hA⟩ := bindSome h
    exact val1_log hA
  · obtain ⟨_, _, hA⟩ := bindSome h
    unfold valH at hA
    obtain ⟨r, h2, h3⟩ := bindSome hA
    simp only [Option.some.injEq, Prod.mk.injEq] at h3
    rw [← h3.2]
    exact convertA_log h2
  · obtain ⟨_, _, hA⟩ := bindSome h
    obtain ⟨_, _, hB⟩ := bindSome hA
    split at hB
    · cases hB
    · exact same_log hB
  · obtain ⟨_, hA⟩ := condSome h
    obtain ⟨_, _, hB⟩ := bindSome hA
    exact same_log hB
  · exact newp (f := fun r => .val (.map r.1)) h
  · obtain ⟨_, _, hA⟩ := bindSome h
    obtain ⟨_, _, hB⟩ := bindSome hA
    obtain ⟨_, _, hC⟩ := bindSome hB
    split at hC
    · obtain ⟨_, _, hD⟩ := bindSome hC
      obtain ⟨_, _, hE⟩ := bindSome hD
      obtain ⟨_, _, hG⟩ := bindSome hE
      obtain ⟨_, hI⟩ := condSome hG
      exact newp (f := fun r => .val (.slice r.1 _ 0 _ _ true)) hI
    · cases hC
  · obtain ⟨_, _, hA⟩ := bindSome h
    obtain ⟨_, _, hB⟩ := bindSome hA
    obtain ⟨_, _, hC⟩ := bindSome hB
    obtain ⟨_, _, hD⟩ := bindSome hC
    obtain ⟨_, _, hE⟩ := bindSome hD
    exact val1_log hE
  · obtain ⟨_, _, hA⟩ := bindSome h
    obtain ⟨_, _, hB⟩ := bindSome hA
    exact val1_log hB
  · obtain ⟨_, _, hA⟩ := bindSome h
    obtain ⟨_, _, hB⟩ := bindSome hA
    exact val1_log hB
  · obtain ⟨_, _, hA⟩ := bindSome h
    obtain ⟨_, _, hB⟩ := bindSome hA
    split at hB
    · obtain ⟨_, _, hC⟩ := bindSome hB
      obtain ⟨_, _, hD⟩ := bindSome hC
      exact val1_log hD
    · cases hB
  · obtain ⟨_, _, hA⟩ := bindSome h
    obtain ⟨_, _, hB⟩ := bindSome hA
    obtain ⟨_, _, hC⟩ := bindSome hB
    exact val1_log hC
  · obtain ⟨_, _, hA⟩ := bindSome h
    obtain ⟨_, _, hB⟩ := bindSome hA
    obtain ⟨_, _, hC⟩ := bindSome hB
    exact val1_log hC
  · obtain ⟨_, _, hA⟩ := bindSome h
    obtain ⟨_, _, hB⟩ := bindSome hA
    obtain ⟨_, _, hC⟩ := bindSome hB
    exact val1_log hC
  · obtain ⟨_, _, hA⟩ := bindSome h
    obtain ⟨_, _, hB⟩ := bindSome hA
    obtain ⟨_, _, hC⟩ := bindSome hB
    obtain ⟨_, _, hD⟩ := bindSome hC
    unfold skipH at hD
    obtain ⟨_, h2, hE⟩ := bindSome hD
    simp only [Option.some.injEq, Prod.mk.injEq] at hE
    rw [← hE.2]; exact updateA_log h2
  · obtain ⟨_, _, hA⟩ := bindSome h
    obtain ⟨_, _, hB⟩ := bindSome hA
    obtain ⟨_, _, hC⟩ := bindSome hB
    obtain ⟨_, _, hD⟩ := bindSome hC
    unfold skipH at hD
    obtain ⟨_, h2, hE⟩ := bindSome hD
    simp only [Option.some.injEq, Prod.mk.injEq] at hE
    rw [← hE.2]; exact updateA_log h2
  · obtain ⟨_, _, hA⟩ := bindSome h
    exact val1_log hA
  · obtain ⟨_, _, hA⟩ := bindSome h
    split at hA
    · exact val1_log hA
    · cases hA
  · split at h
    · obtain ⟨_, _, hA⟩ := bindSome h
      obtain ⟨_, _, hB⟩ := bindSome hA
      obtain ⟨_, _, hC⟩ := bindSome hB
      exact same_log hC
    · obtain ⟨_, _, hA⟩ := bindSome h
      obtain ⟨_, _, hB⟩ := bindSome hA
      split at hB
      · obtain ⟨_, _, hC⟩ := bindSome hB
        obtain ⟨_, _, hD⟩ := bindSome hC
        exact same_log hD
      · cases hB
    · obtain ⟨_, _, hA⟩ := bindSome h
      exact builtinA_log hA
  · cases h

end Go.VM

