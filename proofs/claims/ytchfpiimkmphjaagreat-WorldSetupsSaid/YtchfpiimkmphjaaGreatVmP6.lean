/- An abstract machine for the program form, with the proof that it is sound: part VmP6. No condition. -/
import Derived.Test.YtchfpiimkmphjaaGreatVmP5
import Derived.LoopNIn
/- Code. -/
namespace Go.VM
open Go

section steps
variable {P : Program} {b : Frame} {a : Act} {k : List Item} {cs : List Frame} {w : World}

theorem stepR_scope {c : Code} : step P (lone (b.atR a (.code (.scope c) :: k)) cs w) = .next (lone (b.atR a (.code c :: .inScope c :: k)) cs w) :=
  step_lone_go (by simp [stepG, stepG.exec, Frame.atR])

theorem stepR_inScope {c : Code} : step P (lone (b.atR a (.inScope c :: k)) cs w) = .next (lone (b.atR a k) cs w) :=
  step_lone_go (by simp [stepG, stepG.exec, Frame.atR])
end steps

def noGoto (Q : Exit → Act → World → Prop) : Exit → Act → World → Prop
  | .goto _, _, _ => False
  | e, a, w => Q e a w

theorem wpIn_scope {F : Fence} {n : Nat} {P : Program} {Q : Exit → Act → World → Prop} {a : Act} {w : World} {c : Code} (h : c.wpIn F n P (noGoto Q) a w) : (Code.scope c).wpIn F n P Q a w := by
  intro b k cs hro hb hr
  have h0 : (lone (b.atR a (.code (.scope c) :: k)) cs w).fenced P F := fenced_calm hb hr rfl
  obtain ⟨e, a₁, w₁, hq, harr⟩ := h b (.inScope c :: k) cs hro hb hr
  have hx : ∀ id, exitTo id (.inScope c :: k) = exitTo id k := fun id => by simp [exitTo]
  cases e with
  | normal => exact ⟨.normal, a₁, w₁, hq, .head h0 stepR_scope (StepsIn.trans harr (.one (fenced_calm hb hr rfl) stepR_inScope))⟩
  | exit id =>
    exact ⟨.exit id, a₁, w₁, hq, fun k' hk => .head h0 stepR_scope (harr.1 k' (by rw [hx]; exact hk)),
      fun hr' hk => let ⟨k₁, h1, h2⟩ := harr.2 hr' (by rw [hx]; exact hk); ⟨k₁, h1, .head h0 stepR_scope h2⟩⟩
  | goto l => exact hq.elim
  | ret => exact ⟨_, a₁, w₁, hq, .of_steps (.one h0 stepR_scope) harr⟩
  | panic ch => exact ⟨_, a₁, w₁, hq, .of_steps (.one h0 stepR_scope) harr⟩
  | outgrown => exact ⟨_, a₁, w₁, hq, .of_steps (.one h0 stepR_scope) harr⟩

def exOf : Ex → Exit
  | .norm => .normal
  | .exit id => .exit id
  | .ret => .ret

/-- The deferred calls of an activation: marks alone. -/
inductive DefR (σ : Sg) : List Nat → List Deferred → Prop
  | nil : DefR σ [] []
  | cons {d b cs : Nat} {ds : List Nat} {fs : List Deferred} (h : σ d = some (b, cs)) (t : DefR σ ds fs) : DefR σ (d :: ds) ({ target := .collected b, args := #[] } :: fs)

theorem DefR.mono {σ σ' : Sg} (hs : Sub σ σ') {ds : List Nat} {fs : List Deferred} (h : DefR σ ds fs) : DefR σ' ds fs := by
  induction h with
  | nil => exact .nil
  | cons h _ ih => exact .cons (hs _ _ h) ih

def RndR (σ : Sg) : Option Nat → Option Nat → Prop
  | none, none => True
  | some l, some b => ∃ cs, σ l = some (b, cs)
  | _, _ => False

theorem RndR.mono {σ σ' : Sg} (hs : Sub σ σ') {x y : Option Nat} (h : RndR σ x y) : RndR σ' x y := by
  cases x <;> cases y <;> simp only [RndR] at h ⊢
  obtain ⟨cs, h⟩ := h
  exact ⟨cs, hs _ _ h⟩

/-- A frame of the abstract machine beside one of the model's. -/
structure FrR (σ : Sg) (F : Fz) (fr : AF) (r : Option Nat) (a : Act) : Prop where
  t : FRT σ F fr.sz fr.tmps a
  d : fr.rnd = none → DefR σ fr.marks a.defers
  r : RndR σ fr.rnd r

def Leads (P : Program) (r : Option Nat) (c : Code) (e : Ex) (fr fr' : AF) (H H' : AH) : Prop :=
  ∀ (σ : Sg) (F : Fz) (a : Act) (w : World) (Q : Exit → Act → World → Prop), FrR σ F fr r a → HR σ F H.get w → (∀ i, H.next ≤ i → i < H'.next → σ i = none) →
    (∀ a' w' σ' F', FrR σ' F' fr' r a' → Post σ F H.get w H.next H'.next σ' F' H'.get w' → Q (exOf e) a' w') → c.wpIn (fence r) 0 P Q a w

section
variable {P : Program} {tt : TT} {nt : NT} {call : CallF}

theorem drawA_log (hcall : CallLog call) {ops : Array Oper} {sz : Nat} (hsz : sz ≤ 1000000) {os : List Oper} {ps : List Nat} {i : Nat} {tmps tmps' : Tr AV} {H H' : AH}
    (h : drawA tt nt call ops sz os ps i [] tmps H = some (tmps', H')) : LogOk H H' := by
  obtain ⟨ss, hss⟩ := drawA_trace hcall hsz _ _ _ _ _ _ _ _ (by simp) h
  exact hss.end_.2.2

theorem mem_dedN {x : Nat} : ∀ {l : List Nat}, x ∈ l → x ∈ dedN l := by
  intro l
  induction l with
  | nil => intro h; cases h
  | cons y ys ih =>
    intro h
    simp only [dedN]
    cases hm : memN y ys with
    | true =>
      rw [cond_true]
      rcases List.mem_cons.1 h with rfl | h
      · exact ih (memN_iff.1 hm)
      · exact ih h
    | false =>
      rw [cond_false]
      rcases List.mem_cons.1 h with rfl | h
      · exact List.mem_cons_self
      · exact List.mem_cons_of_mem _ (ih h)

theorem trimH_log (t : Option (List Nat)) (H : AH) : LogOk H (trimH t H) := by
  cases t with
  | none => exact .refl _
  | some l => exact ⟨fun i hi => mem_dedN hi, fun _ _ => rfl, Nat.le_refl _⟩

theorem trimH_get (t : Option (List Nat)) (H : AH) : (trimH t H).get = H.get := by cases t <;> rfl
theorem trimH_next (t : Option (List Nat)) (H : AH) : (trimH t H).next = H.next := by cases t <;> rfl
theorem trimFr_sz (t : Option (List Nat)) (fr : AF) : (trimFr t fr).sz = fr.sz := by cases t <;> rfl
theorem trimFr_rnd (t : Option (List Nat)) (fr : AF) : (trimFr t fr).rnd = fr.rnd := by cases t <;> rfl
theorem trimFr_marks (t : Option (List Nat)) (fr : AF) : (trimFr t fr).marks = fr.marks := by cases t <;> rfl
theorem trimFr_get (t : Option (List Nat)) (fr : AF) {x : Nat} {v : AV} (h : (trimFr t fr).tmps.get x = some v) : fr.tmps.get x = some v := by
  cases t with
  | none => exact h
  | some l => exact (onlyT_get h).2

theorem FrR.trim {σ : Sg} {F : Fz} {fr : AF} {r : Option Nat} {a : Act} (h : FrR σ F fr r a) {t : Option (List Nat)} : FrR σ F (trimFr t fr) r a := by
  refine ⟨⟨by rw [trimFr_sz]; exact h.t.size, by rw [trimFr_sz]; exact h.t.le, fun x v hx => ?_, fun x v hx => h.t.val x v (trimFr_get t fr hx)⟩, fun hn => ?_, by rw [trimFr_rnd]; exact h.r⟩
  · rw [trimFr_sz]; exact h.t.lt x v (trimFr_get t fr hx)
  · rw [trimFr_marks]; exact h.d (by rw [trimFr_rnd] at hn; exact hn)

theorem loopA_fr {t : Option (List Nat)} {body : AF → AH → Option (Ex × AF × AH)} (ih : ∀ (fr fr' : AF) (H H' : AH) (e : Ex), body fr H = some (e, fr', H') → fr.sz ≤ 1000000 → fr'.sz = fr.sz ∧ fr'.rnd = fr.rnd ∧ LogOk H H') :
    ∀ m (fr fr' : AF) (H H' : AH) (e : Ex), loopA t body m fr H = some (e, fr', H') → fr.sz ≤ 1000000 → fr'.sz = fr.sz ∧ fr'.rnd = fr.rnd ∧ LogOk H H' := by
  intro m
  induction m with
  | zero => intro fr fr' H H' e h _; simp only [loopA] at h; cases h
  | succ m ihm =>
    intro fr fr' H H' e h hsz
    simp only [loopA] at h
    cases hx : body (trimFr t fr) (trimH t H) with
    | none => rw [hx] at h; cases h
    | some p =>
      obtain ⟨e1, fr1, H1⟩ := p
      rw [hx] at h
      obtain ⟨h1, h2, h3⟩ := ih _ _ _ _ _ hx (by rw [trimFr_sz]; exact hsz)
      rw [trimFr_sz] at h1
      rw [trimFr_rnd] at h2
      have h3 := (trimH_log t H).trans h3
      cases e1 with
      | norm =>
        simp only at h
        obtain ⟨k1, k2, k3⟩ := ihm _ _ _ _ _ h (by rw [h1]; exact hsz)
        exact ⟨k1.trans h1, k2.trans h2, h3.trans k3⟩
      | exit id => simp only [Option.some.injEq, Prod.mk.injEq] at h; obtain ⟨rfl, rfl, rfl⟩ := h; exact ⟨by rw [trimFr_sz]; exact h1, by rw [trimFr_rnd]; exact h2, h3.trans (trimH_log _ _)⟩
      | ret => simp only [Option.some.injEq, Prod.mk.injEq] at h; obtain ⟨rfl, rfl, rfl⟩ := h; exact ⟨by rw [trimFr_sz]; exact h1, by rw [trimFr_rnd]; exact h2, h3.trans (trimH_log _ _)⟩

theorem codeA_fr (hcall : CallLog call) {lf : Nat} {tm : TrimF} : ∀ (c : Code) (fr fr' : AF) (H H' : AH) (e : Ex), codeA tt nt call lf tm c fr H = some (e, fr', H') → fr.sz ≤ 1000000 → fr'.sz = fr.sz ∧ fr'.rnd = fr.rnd ∧ LogOk H H' := by
  intro c
  induction c with
  | skip =>
    intro fr fr' H H' e h _
    simp only [codeA, Option.some.injEq, Prod.mk.injEq] at h
    obtain ⟨rfl, rfl, rfl⟩ := h
    exact ⟨rfl, rfl, .refl _⟩
  | label l =>
    intro fr fr' H H' e h _
    simp only [codeA, Option.some.injEq, Prod.mk.injEq] at h
    obtain ⟨rfl, rfl, rfl⟩ := h
    exact ⟨rfl, rfl, .refl _⟩
  | region id ops draw =>
    intro fr fr' H H' e h hsz
    simp only [codeA] at h
    cases draw with
    | true =>
      rw [cond_true] at h
      obtain ⟨⟨t, K⟩, h1, h2⟩ := bindSome h
      simp only [Option.some.injEq, Prod.mk.injEq] at h2
      obtain ⟨rfl, rfl, rfl⟩ := h2
      exact ⟨rfl, rfl, drawA_log hcall hsz h1⟩
    | false =>
      rw [cond_false] at h
      obtain ⟨⟨t, K⟩, h1, h2⟩ := bindSome h
      simp only [Option.some.injEq, Prod.mk.injEq] at h2
      obtain ⟨rfl, rfl, rfl⟩ := h2
      exact ⟨rfl, rfl, regionA_log hcall _ _ _ _ _ h1⟩
  | seq x y ihx ihy =>
    intro fr fr' H H' e h hsz
    simp only [codeA] at h
    cases hx : codeA tt nt call lf tm x fr H with
    | none => rw [hx] at h; cases h
    | some p =>
      obtain ⟨e1, fr1, H1⟩ := p
      rw [hx] at h
      obtain ⟨h1, h2, h3⟩ := ihx _ _ _ _ _ hx hsz
      cases e1 with
      | norm =>
        simp only at h
        obtain ⟨k1, k2, k3⟩ := ihy _ _ _ _ _ h (by rw [h1]; exact hsz)
        exact ⟨k1.trans h1, k2.trans h2, h3.trans k3⟩
      | exit id => simp only [Option.some.injEq, Prod.mk.injEq] at h; obtain ⟨rfl, rfl, rfl⟩ := h; exact ⟨h1, h2, h3⟩
      | ret => simp only [Option.some.injEq, Prod.mk.injEq] at h; obtain ⟨rfl, rfl, rfl⟩ := h; exact ⟨h1, h2, h3⟩
  | cond c x y ihx ihy =>
    intro fr fr' H H' e h hsz
    simp only [codeA] at h
    split at h
    · rename_i t _
      cases t with
      | true => exact ihx _ _ _ _ _ h hsz
      | false => exact ihy _ _ _ _ _ h hsz
    · cases h
  | block id b ih =>
    intro fr fr' H H' e h hsz
    simp only [codeA] at h
    cases hx : codeA tt nt call lf tm b fr H with
    | none => rw [hx] at h; cases h
    | some p =>
      obtain ⟨e1, fr1, H1⟩ := p
      rw [hx] at h
      obtain ⟨h1, h2, h3⟩ := ih _ _ _ _ _ hx hsz
      cases e1 with
      | norm => simp only [Option.some.injEq, Prod.mk.injEq] at h; obtain ⟨rfl, rfl, rfl⟩ := h; exact ⟨h1, h2, h3⟩
      | exit id' =>
        simp only at h
        cases hb : Nat.beq id' id <;> rw [hb] at h <;> simp only [cond_true, cond_false, Option.some.injEq, Prod.mk.injEq] at h <;> obtain ⟨rfl, rfl, rfl⟩ := h <;> exact ⟨h1, h2, h3⟩
      | ret => simp only [Option.some.injEq, Prod.mk.injEq] at h; obtain ⟨rfl, rfl, rfl⟩ := h; exact ⟨h1, h2, h3⟩
  | loop b ih =>
    intro fr fr' H H' e h hsz
    simp only [codeA] at h
    exact loopA_fr ih lf _ _ _ _ _ h hsz
  | rangeFunc g ps assign body _ _ =>
    intro fr fr' H H' e h hsz
    simp only [codeA] at h
    split at h
    · rename_i gf caps _
      obtain ⟨⟨d, mk, K0⟩, h1, h2⟩ := bindSome h
      obtain ⟨⟨l, K1⟩, h3, h4⟩ := bindSome h2
      obtain ⟨⟨v, K2⟩, h5, h6⟩ := bindSome h4
      simp only at h3 h5 h6
      have l0 : LogOk H K0 := by
        split at h1
        · obtain ⟨q, hq1, hq2⟩ := bindSome h1
          simp only [Option.some.injEq, Prod.mk.injEq] at hq2
          exact new_log hq1 hq2.2.2
        · split at h1
          · simp only [Option.some.injEq, Prod.mk.injEq] at h1
            rw [← h1.2.2]; exact .refl _
          · cases h1
      have l1 : LogOk K0 K1 := new_log h3 rfl
      have l2 : LogOk K1 K2 := hcall _ _ _ _ _ h5
      have l3 := l0.trans (l1.trans l2)
      have put : ∀ {o : AO}, LogOk H (K2.put l (some o)) := fun {o} => l3.trans .put
      split at h6
      · split at h6
        · cases h6
        · split at h6
          all_goals first
            | (simp only [Option.some.injEq, Prod.mk.injEq] at h6
               obtain ⟨rfl, rfl, rfl⟩ := h6
               exact ⟨rfl, rfl, put⟩)
            | cases h6
      · cases h6
    · cases h
  | exit id =>
    intro fr fr' H H' e h _
    simp only [codeA, Option.some.injEq, Prod.mk.injEq] at h
    obtain ⟨rfl, rfl, rfl⟩ := h
    exact ⟨rfl, rfl, .refl _⟩
  | scope b ih =>
    intro fr fr' H H' e h hsz
    simp only [codeA] at h
    exact ih _ _ _ _ _ h hsz
  | goto l => intro fr fr' H H' e h _; simp only [codeA] at h; cases h
  | ret =>
    intro fr fr' H H' e h _
    simp only [codeA, Option.some.injEq, Prod.mk.injEq] at h
    obtain ⟨rfl, rfl, rfl⟩ := h
    exact ⟨rfl, rfl, .refl _⟩
  | refuse s => intro fr fr' H H' e h _; simp only [codeA] at h; cases h

end
end Go.VM

/- What code does. -/
namespace Go.VM
open Go

section
variable {P : Program} {w : World}

theorem rn_getLoop {b : Nat} {L : Loop} (h : w.heap[b]? = some (.loop L)) : Runs P (Instr.getLoop b) w L w := by
  unfold Instr.getLoop
  exact Runs.bind (runs_getObj h (by simp)) Runs.pure

theorem rn_newObj {o : Obj} : Runs P (newObj o) w w.heap.size (pushW w o) := rfl

theorem rn_endLoop {b : Nat} {L : Loop} (h : w.heap[b]? = some (.loop L)) (hs : L.state ≠ .busy) : Runs P (Instr.endLoop b) w L.pending (setBlock w b (.loop { L with state := .exhausted })) := by
  unfold Instr.endLoop
  refine Runs.bind (rn_getLoop h) ?_
  have e : (L.state == LoopState.busy) = false := by
    cases hh : L.state <;> first | rfl | exact absurd hh hs
  simp only [e, Bool.false_eq_true, if_false]
  exact Runs.bind (runs_setObj h (by simp)) Runs.pure

theorem rn_beginRound {b : Nat} {L : Loop} (h : w.heap[b]? = some (.loop L)) (hs : L.state = .ready) : Runs P (Instr.beginRound b) w () (setBlock w b (.loop { L with state := .busy })) := by
  unfold Instr.beginRound
  refine Runs.bind (rn_getLoop h) (Runs.bind (runs_setObj h (by simp)) ?_)
  rw [hs]
  exact Runs.pure

theorem rn_endRound {b : Nat} {L : Loop} {j : Option Code} (h : w.heap[b]? = some (.loop L)) :
    Runs P (Instr.endRound b j) w (.bool j.isNone) (setBlock w b (.loop { L with state := if j.isNone then .ready else .done, pending := j })) := by
  unfold Instr.endRound
  exact Runs.bind (rn_getLoop h) (Runs.bind (runs_setObj h (by simp)) Runs.pure)

theorem rn_take {b : Nat} (h : w.heap[b]? = some (.deferred (some []))) : Runs P (Instr.takeDeferred b) w [] (setBlock w b (.deferred none)) := by
  unfold Instr.takeDeferred
  exact Runs.bind (runs_getObj h (by simp)) (Runs.bind (runs_setObj h (by simp)) Runs.pure)

variable {tt : TT} {nt : NT} {call : CallF}

theorem FrR.mono {σ σ' : Sg} {F F' : Fz} {fr : AF} {r : Option Nat} {a : Act} (h : FrR σ F fr r a) (hs : Sub σ σ') (hf : Sub F F') : FrR σ' F' fr r a :=
  ⟨h.t.mono hs hf, fun hn => (h.d hn).mono hs, h.r.mono hs⟩

theorem range_ok (htt : TTok P tt) (hcall : CallOk P call) {g : Operand} {ps : Array Tmp} {assign body : Code} {fr fr' : AF} {H H' : AH} {e : Ex} {r : Option Nat} {lf : Nat} {tm : TrimF}
    (h : codeA tt nt call lf tm (.rangeFunc g ps assign body) fr H = some (e, fr', H')) (hchk : chk assign = true ∧ chk body = true) : Leads P r (.rangeFunc g ps assign body) e fr fr' H H' := by
  intro σ F a w Q hf hr hfr hQ
  simp only [codeA] at h
  split at h
  · rename_i gf caps hg
    obtain ⟨⟨d, mk, K0⟩, h1, h2⟩ := bindSome h
    obtain ⟨⟨l, K1⟩, h3, h4⟩ := bindSome h2
    obtain ⟨⟨v, K2⟩, h5, h6⟩ := bindSome h4
    simp only at h3 h5 h6
    have hl2 : LogOk K1 K2 := hcall.log _ _ _ _ _ h5
    have hnx : K2.next ≤ H'.next ∧ fr'.sz = fr.sz ∧ fr'.tmps = fr.tmps ∧ fr'.rnd = fr.rnd ∧ fr'.marks = mk ∧ ∃ st pend t' z' p' a' b' d', K2.get l = some (.loop st pend t' z' p' a' b' d') ∧ st ≠ .busy ∧
        H' = K2.put l (some (.loop .exhausted pend t' z' p' a' b' d')) ∧ (match pend with | none => e = .norm | some .ret => e = .ret | some (.exit id) => e = .exit id | _ => False) := by
      split at h6
      · rename_i st pend t' z' p' a' b' d' hK
        split at h6
        · cases h6
        · rename_i hst
          refine ⟨?_, ?_, ?_, ?_, ?_, st, pend, t', z', p', a', b', d', hK, fun hc => hst hc, ?_, ?_⟩
          all_goals
            split at h6
            all_goals first
              | (simp only [Option.some.injEq, Prod.mk.injEq] at h6
                 obtain ⟨rfl, rfl, rfl⟩ := h6
                 first | rfl | exact Nat.le_refl _)
              | cases h6
      · cases h6
    obtain ⟨hnx, e1, e2, e3, e4, st, pend, t', z', p', a', b', d', hK, hst, hH', hpend⟩ := hnx
    clear h6 h4 h2 h
    obtain ⟨rfl, n2, n3, n4, n5⟩ := AH.new_eq h3
    -- the block for deferred calls
    have stage1 : ∃ (bd : Nat) (mark : List Deferred) (σ1 : Sg) (w1 : World) (csd : Nat), Post σ F H.get w H.next K0.next σ1 F K0.get w1 ∧ σ1 d = some (bd, csd) ∧
        (fr.rnd = none → DefR σ1 mk (mark ++ a.defers)) ∧
        (∀ fn, Runs P (Instr.enterLoop fn a.tmps ps assign body r) w (w1.heap.size, mark) (pushW w1 (.loop { state := .ready, pending := none, fn, tmps := a.tmps, params := ps, assign, body, defers := bd }))) := by
      have hrr := hf.r
      cases hrn : fr.rnd with
      | none =>
        rw [hrn] at h1 hrr
        cases r with
        | some _ => exact hrr.elim
        | none =>
        obtain ⟨q, hq1, hq2⟩ := bindSome h1
        simp only [Option.some.injEq, Prod.mk.injEq] at hq2
        obtain ⟨rfl, rfl, rfl⟩ := hq2
        obtain ⟨q1, Q1⟩ := q
        obtain ⟨rfl, m2, m3, m4, m5⟩ := AH.new_eq hq1
        simp only at *
        have hno := hfr H.next (Nat.le_refl _) (by have := hl2.le; omega)
        have hp := Post.new (x := .deferred (some [])) (cs := 0) (o := .defd) hr hno m3 rfl
        refine ⟨w.heap.size, [{ target := .collected w.heap.size, args := #[] }], updσ σ H.next (w.heap.size, 0), pushW w (.deferred (some [])), 0, by rw [m2, m4]; exact hp, by unfold updσ; rw [if_pos rfl], ?_, ?_⟩
        · intro _
          exact .cons (cs := 0) (by unfold updσ; rw [if_pos rfl]) ((hf.d hrn).mono (sub_updσ hno))
        · intro fn
          rfl
      | some l0 =>
        rw [hrn] at h1 hrr
        cases r with
        | none => exact hrr.elim
        | some b0 =>
        obtain ⟨cs0, hs0⟩ := hrr
        simp only at h1
        split at h1
        · rename_i st0 pd0 t0 z0 p0 a0 b0' d0 hg0
          simp only [Option.some.injEq, Prod.mk.injEq] at h1
          obtain ⟨rfl, rfl, rfl⟩ := h1
          obtain ⟨b2, c2, hs2, ho⟩ := hr.obj _ _ hg0
          rw [hs0] at hs2; cases hs2
          obtain ⟨L, q1, q2, q3, q4, q5, q6, q7, q8, q9, csd, q10⟩ := ho
          refine ⟨L.defers, [], σ, w, csd, Post.refl hr _, q10, fun hc => (by cases hc), ?_⟩
          intro fn
          have en : Instr.enterLoop fn a.tmps ps assign body (some b0) = (Instr.getLoop b0 >>= fun L => newObj (.loop { state := .ready, pending := none, fn, tmps := a.tmps, params := ps, assign, body, defers := L.defers }) >>= fun l => pure (l, [])) := by
            simp [Instr.enterLoop]
          rw [en]
          exact Runs.bind (rn_getLoop q1) (Runs.bind rn_newObj Runs.pure)
        · cases h1
    obtain ⟨bd, mark, σ1, w1, csd, hp1, hsd, hdef, hent⟩ := stage1
    have hfr1 := hp1.fresh hfr
    have hno1 := hfr1 K0.next (Nat.le_refl _) (by have := hl2.le; omega)
    refine wpIn_rangeFunc ?_
    intro fn _
    let L : Loop := { state := .ready, pending := none, fn, tmps := a.tmps, params := ps, assign, body, defers := bd }
    have hsub1 := sub_updσ (x := (w1.heap.size, 0)) hno1
    have hp2 := Post.new (x := .loop L) (cs := 0) (o := .loop .ready none fr.tmps fr.sz ps.toList assign body d) hp1.hr hno1 n3
      ⟨L, rfl, rfl, rfl, hf.t.size, fun t v ht => ⟨hf.t.lt t v ht, ((hf.t.val t v ht).mono hp1.sub hp1.fsub).mono hsub1 (.refl _)⟩, rfl, rfl, rfl, ⟨hf.t.le, hchk⟩, csd, hsub1 _ _ hsd⟩
    rw [← n2, ← n4] at hp2
    have hp12 := hp1.trans hp2
    -- the call
    have hgv := evx_ok hf.t.val hg
    have hgv2 := hgv.mono hp12.sub hp12.fsub
    have hyld : VRel (updσ σ1 K0.next (w1.heap.size, 0)) F (.yld K0.next) (.func (.yield w1.heap.size) #[] #[]) := .yld (cs := 0) (by unfold updσ; rw [if_pos rfl])
    generalize hgc : a.eval g = gc at hgv hgv2
    cases hgv2 with
    | func hs hv =>
    rename_i caps'
    have harg : ARel (updσ σ1 K0.next (w1.heap.size, 0)) F (.yld K0.next :: caps) (#[.func (.yield w1.heap.size) #[] #[]] ++ caps') := ARel.cons hyld ⟨hs, hv⟩
    obtain ⟨hrun, hcallin⟩ := (hcall _ _ _ _ _ h5).2 _ _ _ _ harg hp2.hr (hp12.fresh (fun i k1 k2 => hfr i k1 (Nat.lt_of_lt_of_le k2 hnx)))
    refine ⟨w1.heap.size, mark, _, { target := .fn (.func gf) caps', args := #[.func (.yield w1.heap.size) #[] #[]] }, pushW w1 (.loop L), gf, #[.func (.yield w1.heap.size) #[] #[]] ++ caps', pushW w1 (.loop L), hent fn, ?_, fun _ _ => trivial, ?_, fun hh => by simp [Fence.wide] at hh, ?_⟩
    · have hm : Array.map a.eval #[Operand.const (Value.func (Fn.yield w1.heap.size) #[] #[])] = #[.func (.yield w1.heap.size) #[] #[]] := by
        simp [Act.eval]
      simp only [resolve, rangeCall, hgc, hm]
      rfl
    · have : (invoke (.fn (.func gf) caps') #[.func (.yield w1.heap.size) #[] #[]]) = callFunc gf (#[.func (.yield w1.heap.size) #[] #[]] ++ caps') := by simp [invoke]
      rw [this]
      exact hrun _
    · refine CallsIn.mono (F := fence r) hcallin ?_
      rintro en w3 ⟨cv, σ3, F3, rfl, hcv, hp3⟩
      have hp13 := hp12.trans hp3
      obtain ⟨b4, c4, hs4, ho4⟩ := hp3.hr.obj _ _ hK
      obtain ⟨L4, q1, q2, q3, q4, q5, q6, q7, q8, q9, csd4, q10⟩ := ho4
      have hb4 : b4 = w1.heap.size ∧ c4 = 0 := by
        have := hp3.sub K0.next (w1.heap.size, 0) (by unfold updσ; rw [if_pos rfl])
        rw [hs4] at this; cases this; exact ⟨rfl, rfl⟩
      obtain ⟨rfl, rfl⟩ := hb4
      have hend := rn_endLoop (P := P) q1 (by rw [q2]; exact hst)
      have hp4 := Post.set (n := K2.next) (x := .loop { L4 with state := .exhausted }) (o' := .loop .exhausted pend t' z' p' a' b' d') hp3.hr hK hs4 ⟨{ L4 with state := .exhausted }, rfl, rfl, q3, q4, q5, q6, q7, q8, q9, csd4, q10⟩
      have hg' : H'.get = upd K2.get K0.next (some (.loop .exhausted pend t' z' p' a' b' d')) := by rw [hH']; exact AH.get_put (by omega)
      have hn' : H'.next = K2.next := by rw [hH']; rfl
      rw [← hg'] at hp4
      have hp14 := hp13.trans hp4
      rw [← hn'] at hp14
      have hfin : Q (exOf e) { a with defers := mark ++ a.defers } _ := hQ { a with defers := mark ++ a.defers } _ _ _ (by
        have hm := hf.mono hp14.sub hp14.fsub
        refine ⟨?_, ?_, ?_⟩
        · rw [e1, e2]; exact ⟨hm.t.size, hm.t.le, hm.t.lt, hm.t.val⟩
        · rw [e3, e4]
          intro hn
          have hsub : Sub σ1 _ := hp2.sub.trans (hp3.sub.trans hp4.sub)
          exact (hdef hn).mono hsub
        · rw [e3]; exact hm.r) hp14
      refine ⟨L4.pending, _, hend, ?_⟩
      generalize setBlock w3 w1.heap.size (.loop { L4 with state := .exhausted }) = w4 at hfin ⊢
      rw [q3]
      cases pend with
      | none =>
        simp only at hpend
        rw [hpend] at hfin
        exact hfin
      | some c =>
        cases c <;> simp only at hpend <;> rw [hpend] at hfin
        · exact wpIn_exit hfin
        · exact wpIn_ret hfin
  · cases h

theorem codeA_ok (hmx : P.follows .mixedOrders = true) (htt : TTok P tt) (hnt : NTok P nt) (hcall : CallOk P call) {lf : Nat} {tm : TrimF} : ∀ (c : Code), chk c = true → ∀ (fr fr' : AF) (H H' : AH) (e : Ex) (r : Option Nat),
    codeA tt nt call lf tm c fr H = some (e, fr', H') → Leads P r c e fr fr' H H' := by
  intro c
  induction c with
  | skip =>
    intro _ fr fr' H H' e r h σ F a w Q hf hr hfr hQ
    simp only [codeA, Option.some.injEq, Prod.mk.injEq] at h
    obtain ⟨rfl, rfl, rfl⟩ := h
    exact wpIn_skip (hQ _ _ _ _ hf (.refl hr _))
  | label l =>
    intro _ fr fr' H H' e r h σ F a w Q hf hr hfr hQ
    simp only [codeA, Option.some.injEq, Prod.mk.injEq] at h
    obtain ⟨rfl, rfl, rfl⟩ := h
    exact wpIn_label (hQ _ _ _ _ hf (.refl hr _))
  | region id ops draw =>
    intro hchk fr fr' H H' e r h σ F a w Q hf hr hfr hQ
    simp only [codeA] at h
    cases draw with
    | true =>
      rw [cond_true] at h
      obtain ⟨⟨t, K⟩, h1, h2⟩ := bindSome h
      simp only [Option.some.injEq, Prod.mk.injEq] at h2
      obtain ⟨rfl, rfl, rfl⟩ := h2
      simp only [chk, cond_true] at hchk
      refine drawA_ok hmx htt hnt hcall h1 hchk hf.t hr hfr (df := a.defers) rfl ?_
      intro a' w' σ' F' k1 k2 k3
      exact hQ a' w' σ' F' ⟨k1, fun hn => by rw [k2]; exact (hf.d hn).mono k3.sub, hf.r.mono k3.sub⟩ k3
    | false =>
      rw [cond_false] at h
      obtain ⟨⟨t, K⟩, h1, h2⟩ := bindSome h
      simp only [Option.some.injEq, Prod.mk.injEq] at h2
      obtain ⟨rfl, rfl, rfl⟩ := h2
      refine wpIn_region ?_
      rw [List.range_eq_range', ← Array.length_toList]
      refine regionA_ok htt hnt hcall ops.toList 0 _ _ _ _ σ F a w h1 rfl hf.t (df := a.defers) rfl hr hfr ?_
      intro a' w' σ' F' k1 k2 k3
      exact hQ a' w' σ' F' ⟨k1, fun hn => by rw [k2]; exact (hf.d hn).mono k3.sub, hf.r.mono k3.sub⟩ k3
  | seq x y ihx ihy =>
    intro hchk fr fr' H H' e r h σ F a w Q hf hr hfr hQ
    simp only [chk, Bool.and_eq_true] at hchk
    simp only [codeA] at h
    cases hx : codeA tt nt call lf tm x fr H with
    | none => rw [hx] at h; cases h
    | some p =>
      obtain ⟨e1, fr1, H1⟩ := p
      rw [hx] at h
      refine wpIn_seq ?_
      obtain ⟨z1, z2, z3⟩ := codeA_fr hcall.log _ _ _ _ _ _ hx hf.t.le
      cases e1 with
      | norm =>
        simp only at h
        obtain ⟨y1, y2, y3⟩ := codeA_fr hcall.log _ _ _ _ _ _ h (by rw [z1]; exact hf.t.le)
        refine ihx hchk.1 _ _ _ _ _ r hx σ F a w _ hf hr (fun i k1 k2 => hfr i k1 (Nat.lt_of_lt_of_le k2 y3.le)) ?_
        intro a' w' σ' F' hf' hp
        refine ihy hchk.2 _ _ _ _ _ r h σ' F' a' w' _ hf' hp.hr (hp.fresh hfr) ?_
        intro a2 w2 σ2 F2 hf2 hp2
        exact hQ _ _ _ _ hf2 (hp.trans hp2)
      | exit id =>
        simp only [Option.some.injEq, Prod.mk.injEq] at h; obtain ⟨rfl, rfl, rfl⟩ := h
        exact ihx hchk.1 _ _ _ _ _ r hx σ F a w _ hf hr hfr hQ
      | ret =>
        simp only [Option.some.injEq, Prod.mk.injEq] at h; obtain ⟨rfl, rfl, rfl⟩ := h
        exact ihx hchk.1 _ _ _ _ _ r hx σ F a w _ hf hr hfr hQ
  | cond c x y ihx ihy =>
    intro hchk fr fr' H H' e r h σ F a w Q hf hr hfr hQ
    simp only [chk, Bool.and_eq_true] at hchk
    simp only [codeA] at h
    split at h
    · rename_i t hc
      have := (evx_ok hf.t.val hc).bool_inv
      refine wpIn_cond this ?_
      cases t with
      | true => exact ihx hchk.1 _ _ _ _ _ r h σ F a w _ hf hr hfr hQ
      | false => exact ihy hchk.2 _ _ _ _ _ r h σ F a w _ hf hr hfr hQ
    · cases h
  | block id b ih =>
    intro hchk fr fr' H H' e r h σ F a w Q hf hr hfr hQ
    simp only [chk] at hchk
    simp only [codeA] at h
    cases hx : codeA tt nt call lf tm b fr H with
    | none => rw [hx] at h; cases h
    | some p =>
      obtain ⟨e1, fr1, H1⟩ := p
      rw [hx] at h
      refine wpIn_block ?_
      cases e1 with
      | norm =>
        simp only [Option.some.injEq, Prod.mk.injEq] at h; obtain ⟨rfl, rfl, rfl⟩ := h
        exact ih hchk _ _ _ _ _ r hx σ F a w _ hf hr hfr hQ
      | exit id' =>
        simp only at h
        cases hb : Nat.beq id' id with
        | true =>
          rw [hb, cond_true] at h
          simp only [Option.some.injEq, Prod.mk.injEq] at h; obtain ⟨rfl, rfl, rfl⟩ := h
          refine ih hchk _ _ _ _ _ r hx σ F a w _ hf hr hfr ?_
          intro a' w' σ' F' h1 h2
          simp only [exOf, Exit.inBlock, Nat.eq_of_beq_eq_true hb, if_true]
          exact hQ _ _ _ _ h1 h2
        | false =>
          rw [hb, cond_false] at h
          simp only [Option.some.injEq, Prod.mk.injEq] at h; obtain ⟨rfl, rfl, rfl⟩ := h
          refine ih hchk _ _ _ _ _ r hx σ F a w _ hf hr hfr ?_
          intro a' w' σ' F' h1 h2
          simp only [exOf, Exit.inBlock, Nat.ne_of_beq_eq_false hb, if_false]
          exact hQ _ _ _ _ h1 h2
      | ret =>
        simp only [Option.some.injEq, Prod.mk.injEq] at h; obtain ⟨rfl, rfl, rfl⟩ := h
        exact ih hchk _ _ _ _ _ r hx σ F a w _ hf hr hfr hQ
  | loop b ih =>
    intro hchk fr fr' H H' e r h σ F a w Q hf hr hfr hQ
    simp only [chk] at hchk
    simp only [codeA] at h
    refine wpIn_loop_rounds lf ?_
    have key : ∀ m (fr fr' : AF) (H H' : AH) (e : Ex) (σ : Sg) (F : Fz) (a : Act) (w : World), loopA (tm (keyC b)) (codeA tt nt call lf tm b) m fr H = some (e, fr', H') → FrR σ F fr r a → HR σ F H.get w →
        (∀ i, H.next ≤ i → i < H'.next → σ i = none) → (∀ a' w' σ' F', FrR σ' F' fr' r a' → Post σ F H.get w H.next H'.next σ' F' H'.get w' → Q (exOf e) a' w') →
        Code.roundsIn (fence r) 0 P b Q m a w ∧ H.next ≤ H'.next := by
      intro m
      induction m with
      | zero => intro fr fr' H H' e σ F a w h; simp only [loopA] at h; cases h
      | succ m ihm =>
        intro fr fr' H H' e σ F a w h hf hr hfr hQ
        simp only [loopA] at h
        have hf0 : FrR σ F (trimFr (tm (keyC b)) fr) r a := hf.trim
        have hr0 : HR σ F (trimH (tm (keyC b)) H).get w := by rw [trimH_get]; exact hr
        have hn0 : (trimH (tm (keyC b)) H).next = H.next := trimH_next _ _
        have hsz0 : (trimFr (tm (keyC b)) fr).sz ≤ 1000000 := by rw [trimFr_sz]; exact hf.t.le
        cases hx : codeA tt nt call lf tm b (trimFr (tm (keyC b)) fr) (trimH (tm (keyC b)) H) with
        | none => rw [hx] at h; cases h
        | some p =>
          obtain ⟨e1, fr1, H1⟩ := p
          rw [hx] at h
          obtain ⟨z1, z2, z3⟩ := codeA_fr hcall.log _ _ _ _ _ _ hx hsz0
          have z3n : H.next ≤ H1.next := by have := z3.le; rw [hn0] at this; exact this
          rw [trimFr_sz] at z1
          have conv : ∀ {σ' F' w'}, Post σ F (trimH (tm (keyC b)) H).get w (trimH (tm (keyC b)) H).next H1.next σ' F' H1.get w' → Post σ F H.get w H.next H1.next σ' F' H1.get w' := by
            intro σ' F' w' hp; rw [trimH_get, trimH_next] at hp; exact hp
          have hfr0 : ∀ i, (trimH (tm (keyC b)) H).next ≤ i → i < H1.next → H1.next ≤ H'.next → σ i = none := fun i k1 k2 k3 => hfr i (by rw [hn0] at k1; exact k1) (Nat.lt_of_lt_of_le k2 k3)
          cases e1 with
          | norm =>
            simp only at h
            have hle : H1.next ≤ H'.next := (loopA_fr (fun fr fr' H H' e => codeA_fr hcall.log b fr fr' H H' e) _ _ _ _ _ _ h (by rw [z1]; exact hf.t.le)).2.2.le
            refine ⟨?_, Nat.le_trans z3n hle⟩
            refine ih hchk _ _ _ _ _ r hx σ F a w _ hf0 hr0 (fun i k1 k2 => hfr0 i k1 k2 hle) ?_
            intro a' w' σ' F' hf' hp
            have hp := conv hp
            refine (ihm _ _ _ _ _ σ' F' a' w' h hf' hp.hr (hp.fresh hfr) ?_).1
            intro a2 w2 σ2 F2 hf2 hp2
            exact hQ _ _ _ _ hf2 (hp.trans hp2)
          | exit id =>
            simp only [Option.some.injEq, Prod.mk.injEq] at h; obtain ⟨rfl, rfl, rfl⟩ := h
            exact ⟨ih hchk _ _ _ _ _ r hx σ F a w _ hf0 hr0 (fun i k1 k2 => hfr0 i k1 k2 (by rw [trimH_next]; exact Nat.le_refl _)) (fun a' w' σ' F' q1 q2 => hQ a' w' σ' F' q1.trim (by rw [trimH_get, trimH_next]; exact conv q2)), by rw [trimH_next]; exact z3n⟩
          | ret =>
            simp only [Option.some.injEq, Prod.mk.injEq] at h; obtain ⟨rfl, rfl, rfl⟩ := h
            exact ⟨ih hchk _ _ _ _ _ r hx σ F a w _ hf0 hr0 (fun i k1 k2 => hfr0 i k1 k2 (by rw [trimH_next]; exact Nat.le_refl _)) (fun a' w' σ' F' q1 q2 => hQ a' w' σ' F' q1.trim (by rw [trimH_get, trimH_next]; exact conv q2)), by rw [trimH_next]; exact z3n⟩
    exact (key lf fr fr' H H' e σ F a w h hf hr hfr hQ).1
  | rangeFunc g ps assign body _ _ =>
    intro hchk fr fr' H H' e r h
    simp only [chk, Bool.and_eq_true] at hchk
    exact range_ok htt hcall h hchk
  | exit id =>
    intro _ fr fr' H H' e r h σ F a w Q hf hr hfr hQ
    simp only [codeA, Option.some.injEq, Prod.mk.injEq] at h
    obtain ⟨rfl, rfl, rfl⟩ := h
    exact wpIn_exit (hQ _ _ _ _ hf (.refl hr _))
  | scope b ih =>
    intro hchk fr fr' H H' e r h σ F a w Q hf hr hfr hQ
    simp only [chk] at hchk
    simp only [codeA] at h
    refine wpIn_scope (ih hchk _ _ _ _ _ r h σ F a w _ hf hr hfr ?_)
    intro a' w' σ' F' h1 h2
    have := hQ _ _ _ _ h1 h2
    cases e <;> exact this
  | goto l => intro _ fr fr' H H' e r h; simp only [codeA] at h; cases h
  | ret =>
    intro _ fr fr' H H' e r h σ F a w Q hf hr hfr hQ
    simp only [codeA, Option.some.injEq, Prod.mk.injEq] at h
    obtain ⟨rfl, rfl, rfl⟩ := h
    exact wpIn_ret (hQ _ _ _ _ hf (.refl hr _))
  | refuse s => intro _ fr fr' H H' e r h; simp only [codeA] at h; cases h

end
end Go.VM

