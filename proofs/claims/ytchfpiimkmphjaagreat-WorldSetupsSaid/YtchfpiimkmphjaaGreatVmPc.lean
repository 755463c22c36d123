/- An abstract machine for the program form, with the proof that it is sound: part VmPc. No condition. -/
import Derived.Test.YtchfpiimkmphjaaGreatVmPb
import Derived.Test.YtchfpiimkmphjaaGreatVmP8
/- Contracts of functions that change memory: from the machine whose rest is handed on. -/
namespace Go.VM
open Go
noncomputable section

/-- A result and the objects behind, by their own numbers. -/
def canonH2 (n : Nat) (u : AV) (H1 : AH) (q : List Nat) (t : Nat → Option Nat) : Option (AV × List (Option AO)) :=
  cond (chkP t q 0 && lowB n q 0)
    ((renA t 30 u).bind fun v =>
      (mapO (fun i => cond (Nat.blt i n && !memN i H1.log) (some none) ((H1.get i).bind fun o => (renO t o).bind fun o => some (some o))) q).bind fun L => some (v, L))
    none
def canonH1 (n : Nat) (u : AV) (H1 : AH) (q : List Nat) : Option (AV × List (Option AO)) := canonH2 n u H1 q (posT q 0).get
def canonH (n : Nat) (u : AV) (H1 : AH) : Option (AV × List (Option AO)) := canonH1 n u H1 (qOf n u H1)

theorem canonH1_ok {n : Nat} {u : AV} {H1 : AH} {v : AV} {L : List (Option AO)} {q : List Nat} (h : canonH1 n u H1 q = some (v, L)) : RanH n u H1 v L q := by
  unfold canonH1 canonH2 at h
  obtain ⟨hc, h⟩ := condSome h
  rw [Bool.and_eq_true] at hc
  obtain ⟨v', h1, h⟩ := bindSome h
  obtain ⟨L', h2, h⟩ := bindSome h
  simp only [Option.some.injEq, Prod.mk.injEq] at h
  obtain ⟨rfl, rfl⟩ := h
  obtain ⟨l1, l2⟩ := lowB_ok _ _ hc.2
  have hlow : ∀ j : Nat, j < n → q[j]? = some j := fun j hj => by have := l1 j (by omega); simpa using this
  have hhigh : ∀ j i : Nat, n ≤ j → q[j]? = some i → n ≤ i := fun j i hj hi => l2 j i (by omega) hi
  obtain ⟨k1, k2⟩ := mapO_some h2
  refine ⟨k1.symm, hc.1, hlow, hhigh, h1, ?_, ?_⟩
  · intro j hjn hj
    obtain ⟨i, h3, h4⟩ := k2 j _ hj
    cases hb : (Nat.blt i n && !memN i H1.log) with
    | false =>
      rw [hb, cond_false] at h4
      obtain ⟨o, h5, h6⟩ := bindSome h4
      obtain ⟨o2, h7, h8⟩ := bindSome h6
      cases h8
    | true =>
      rw [Bool.and_eq_true, Nat.blt_eq] at hb
      have e := hlow j hjn
      rw [h3] at e
      simp only [Option.some.injEq] at e
      subst e
      exact memN_not.1 hb.2
  · intro j o hj
    obtain ⟨i, h3, h4⟩ := k2 j _ hj
    cases hb : (Nat.blt i n && !memN i H1.log) with
    | true => rw [hb, cond_true] at h4; cases h4
    | false =>
      rw [hb, cond_false] at h4
      obtain ⟨o1, h5, h6⟩ := bindSome h4
      obtain ⟨o2, h7, h8⟩ := bindSome h6
      cases h8
      exact ⟨i, o1, h3, h5, .inl h7⟩

/-- An object behind, or as before, or (from number `know` on) nothing but that it is there. -/
def seenO (tell : List Nat) (n know : Nat) (H1 : AH) (t : Nat → Option Nat) (i : Nat) : Option (Option AO) :=
  cond (Nat.blt i n && !memN i H1.log && !memN i tell) (some none)
    (match H1.get i with
      | some (.arr s es) => match t i with
        | some j => cond (Nat.ble know j) (some (some (.arr 1 []))) ((renO t (.arr s es)).bind fun o => some (some o))
        | none => none
      | some o => (renO t o).bind fun o => some (some o)
      | none => none)
def canonF2 (tell : List Nat) (n know : Nat) (u : AV) (H1 : AH) (q : List Nat) (t : Nat → Option Nat) : Option (AV × List (Option AO)) :=
  cond (chkP t q 0 && lowB n q 0)
    ((renA t 30 u).bind fun v => (mapO (seenO tell n know H1 t) q).bind fun L => some (v, L))
    none
def canonF1 (tell : List Nat) (n know : Nat) (u : AV) (H1 : AH) (q : List Nat) : Option (AV × List (Option AO)) := canonF2 tell n know u H1 q (posT q 0).get
def canonF (tell : List Nat) (n keep know : Nat) (u : AV) (H1 : AH) : Option (AV × List (Option AO)) := canonF1 tell n know u H1 ((qOf n u H1).take keep)

theorem seenO_none {tell : List Nat} {n know : Nat} {H1 : AH} {t : Nat → Option Nat} {i : Nat} (h : seenO tell n know H1 t i = some none) : i < n ∧ i ∉ H1.log := by
  unfold seenO at h
  cases hb : (Nat.blt i n && !memN i H1.log && !memN i tell) with
  | true =>
    rw [Bool.and_eq_true, Bool.and_eq_true, Nat.blt_eq] at hb
    exact ⟨hb.1.1, memN_not.1 hb.1.2⟩
  | false =>
    rw [hb, cond_false] at h
    split at h
    · split at h
      · rename_i j _
        cases hk : Nat.ble know j with
        | true => rw [hk] at h; cases h
        | false =>
          rw [hk, cond_false] at h
          obtain ⟨_, _, h2⟩ := bindSome h; cases h2
      · cases h
    · obtain ⟨_, _, h2⟩ := bindSome h; cases h2
    · cases h

theorem seenO_some {tell : List Nat} {n know : Nat} {H1 : AH} {t : Nat → Option Nat} {i : Nat} {o : AO} (h : seenO tell n know H1 t i = some (some o)) :
    ∃ o1, H1.get i = some o1 ∧ (renO t o1 = some o ∨ ∃ s s' es, o1 = .arr s' es ∧ o = .arr s []) := by
  unfold seenO at h
  cases hb : (Nat.blt i n && !memN i H1.log && !memN i tell) with
  | true => rw [hb, cond_true] at h; cases h
  | false =>
    rw [hb, cond_false] at h
    split at h
    · rename_i s es hg
      split at h
      · rename_i j _
        cases hk : Nat.ble know j with
        | true => rw [hk, cond_true] at h; cases h; exact ⟨_, hg, .inr ⟨1, s, es, rfl, rfl⟩⟩
        | false =>
          rw [hk, cond_false] at h
          obtain ⟨_, h1, h2⟩ := bindSome h; cases h2; exact ⟨_, hg, .inl h1⟩
      · cases h
    · rename_i o1 _ hg
      obtain ⟨_, h1, h2⟩ := bindSome h; cases h2; exact ⟨_, hg, .inl h1⟩
    · cases h

theorem canonF1_ok {tell : List Nat} {n know : Nat} {u : AV} {H1 : AH} {v : AV} {L : List (Option AO)} {q : List Nat} (h : canonF1 tell n know u H1 q = some (v, L)) : RanH n u H1 v L q := by
  unfold canonF1 canonF2 at h
  obtain ⟨hc, h⟩ := condSome h
  rw [Bool.and_eq_true] at hc
  obtain ⟨v', h1, h⟩ := bindSome h
  obtain ⟨L', h2, h⟩ := bindSome h
  simp only [Option.some.injEq, Prod.mk.injEq] at h
  obtain ⟨rfl, rfl⟩ := h
  obtain ⟨l1, l2⟩ := lowB_ok _ _ hc.2
  have hlow : ∀ j : Nat, j < n → q[j]? = some j := fun j hj => by have := l1 j (by omega); simpa using this
  have hhigh : ∀ j i : Nat, n ≤ j → q[j]? = some i → n ≤ i := fun j i hj hi => l2 j i (by omega) hi
  obtain ⟨k1, k2⟩ := mapO_some h2
  refine ⟨k1.symm, hc.1, hlow, hhigh, h1, ?_, ?_⟩
  · intro j hjn hj
    obtain ⟨i, h3, h4⟩ := k2 j _ hj
    rw [hlow j hjn] at h3
    cases h3
    exact (seenO_none h4).2
  · intro j o hj
    obtain ⟨i, h3, h4⟩ := k2 j _ hj
    obtain ⟨o1, h5, h6⟩ := seenO_some h4
    exact ⟨i, o1, h3, h5, h6⟩

theorem sumOk_heapF {P : Program} (hmx : P.follows .mixedOrders = true) {ft : Tr FI} (hft : FTok P ft) {tt : TT} (htt : TTok P tt) {nt : NT} (hnt : NTok P nt) {ot : OT} (hot : OTok P ot) {lf m k : Nat} {S : HS}
    (hrun : ∀ a os cs v L, S a os = some (cs, v, L) → allB cs = true → ∃ tell keep know, funK ft tt nt ot lf m (.fn k) a (heap0 os) (fun u H1 => canonF tell os.length keep know u H1) = some (v, L)) : SumOk P k (heapS rhoA S) := by
  refine sumOk_heap hmx hft htt hnt hot (lf := lf) (m := m) ?_
  intro a os cs v L h hcs
  obtain ⟨tell, keep, know, this⟩ := hrun a os cs v L h hcs
  rw [funK_eq] at this
  obtain ⟨⟨u, H1⟩, h1, h2⟩ := bindSome this
  exact ⟨u, H1, _, h1, canonF1_ok h2⟩

theorem sumOk_heapK {P : Program} (hmx : P.follows .mixedOrders = true) {ft : Tr FI} (hft : FTok P ft) {tt : TT} (htt : TTok P tt) {nt : NT} (hnt : NTok P nt) {ot : OT} (hot : OTok P ot) {lf m k : Nat} {S : HS}
    (hrun : ∀ a os cs v L, S a os = some (cs, v, L) → allB cs = true → funK ft tt nt ot lf m (.fn k) a (heap0 os) (fun u H1 => canonH os.length u H1) = some (v, L)) : SumOk P k (heapS rhoA S) := by
  refine sumOk_heap hmx hft htt hnt hot (lf := lf) (m := m) ?_
  intro a os cs v L h hcs
  have := hrun a os cs v L h hcs
  rw [funK_eq] at this
  obtain ⟨⟨u, H1⟩, h1, h2⟩ := bindSome this
  exact ⟨u, H1, _, h1, canonH1_ok h2⟩
end
end Go.VM

/- Contracts of functions that read memory, change nothing, and answer with what never changes. -/
namespace Go.VM
open Go
noncomputable section

def upTo : Nat → List Nat
  | 0 => []
  | n + 1 => n :: upTo n

theorem upTo_mem : ∀ (n i : Nat), i < n → i ∈ upTo n := by
  intro n
  induction n with
  | zero => intro i h; omega
  | succ n ih =>
    intro i h
    by_cases e : i = n
    · subst e; exact List.mem_cons_self
    · exact List.mem_cons_of_mem _ (ih i (by omega))

/-- A heap without the objects below a number. -/
def hidN (n : Nat) (H : AH) : AH := { next := H.next, tr := hideA H.tr (upTo n), log := H.log }

theorem hideA_some {t : Tr AO} : ∀ {l : List Nat} {i : Nat} {o : AO}, (hideA t l).get i = some o → t.get i = some o ∧ (i < 1099511627775 → i ∉ l) := by
  intro l
  induction l with
  | nil => intro i o h; exact ⟨h, fun _ hm => by cases hm⟩
  | cons x xs ih =>
    intro i o h
    simp only [hideA] at h
    rcases Tr.get_set_any 40 (hideA t xs) x i none with e | ⟨_, e⟩
    · have h0 := h
      rw [e] at h
      obtain ⟨h1, h2⟩ := ih h
      refine ⟨h1, fun hb hm => ?_⟩
      rcases List.mem_cons.1 hm with rfl | hm
      · rw [Tr.get_set _ i _ hb] at h0
        unfold upd at h0
        rw [if_pos rfl] at h0; cases h0
      · exact h2 hb hm
    · rw [e] at h; cases h

theorem hidN_some {n : Nat} {H : AH} {i : Nat} {o : AO} (h : (hidN n H).get i = some o) : H.get i = some o ∧ (i < 1099511627775 → n ≤ i) := by
  obtain ⟨h1, h2⟩ := hideA_some (t := H.tr) (l := upTo n) (i := i) (o := o) h
  refine ⟨h1, fun hb => ?_⟩
  have := h2 hb
  by_cases hn : n ≤ i
  · exact hn
  · exact absurd (upTo_mem n i (by omega)) this

theorem HR.hid {σ : Sg} {F : Fz} {H : AH} {w : World} (h : HR σ F H.get w) (n : Nat) : HR σ F (hidN n H).get w :=
  ⟨fun i o hi => h.obj i o (hidN_some hi).1, fun i j b c c' o o' hi hj => h.inj i j b c c' o o' (hidN_some hi).1 (hidN_some hj).1, fun i b c o hi => h.sep i b c o (hidN_some hi).1, h.frz, h.bnd⟩

abbrev RS := List AV → List AO → Option (List Bool × AV)

def readT (S : RS) (args : List AV) (H : AH) (ρ : List Nat) (t : Nat → Option Nat) (n : Nat) : Option (List Bool × AV × AH) :=
  cond (Nat.ble n 1000000 && chkP t ρ 0)
    ((mapO (renA t 30) args).bind fun a =>
      (mapO (fun i => (H.get i).bind (renO t)) ρ).bind fun os =>
      (S a os).bind fun r => some (r.1, r.2, H)) none

def readS (rho : List AV → AH → List Nat) (S : RS) : SumF := fun args H => readT S args H (rho args H) (posT (rho args H) 0).get (rho args H).length

/-- An answer as it is told: nil slices are lists without elements. -/
def tellA (v' v : AV) : Prop := v' = v ∨ (v' = .nils ∧ ∃ sz, v = .list sz [])

def readR (n : Nat) (u : AV) (H1 : AH) : Option AV := cond (allN (fun j => Nat.ble n j) H1.log) (frzA (hidN n H1) true 30 u) none

theorem allN_ok {p : Nat → Bool} : ∀ {l : List Nat}, allN p l = true → ∀ x ∈ l, p x = true := by
  intro l
  induction l with
  | nil => intro _ x hx; cases hx
  | cons y ys ih =>
    intro h x hx
    simp only [allN] at h
    cases hp : p y with
    | false => rw [hp, cond_false] at h; cases h
    | true =>
      rw [hp, cond_true] at h
      rcases List.mem_cons.1 hx with rfl | hx
      · exact hp
      · exact ih h x hx

theorem sumOk_read {P : Program} (hmx : P.follows .mixedOrders = true) {ft : Tr FI} (hft : FTok P ft) {tt : TT} (htt : TTok P tt) {nt : NT} (hnt : NTok P nt) {ot : OT} (hot : OTok P ot) {lf m k : Nat} {rho : List AV → AH → List Nat} {S : RS}
    (hrun : ∀ a os cs v, S a os = some (cs, v) → allB cs = true → ∃ u H1 v', funA ft tt nt ot lf m (.fn k) a (heap0 os) = some (u, H1) ∧ readR os.length u H1 = some v' ∧ tellA v' v) : SumOk P k (readS rho S) := by
  intro args H cs v H' h hcs
  unfold readS at h
  generalize hρ : rho args H = ρ at h
  unfold readT at h
  obtain ⟨hc, h⟩ := condSome h
  simp only [Bool.and_eq_true] at hc
  have hn1 := Nat.le_of_ble_eq_true hc.1
  have hpos := chkP_ok _ _ hc.2
  obtain ⟨a, ha1, h⟩ := bindSome h
  obtain ⟨os, ho1, h⟩ := bindSome h
  obtain ⟨⟨cs', v0⟩, hS, h⟩ := bindSome h
  simp only [Option.some.injEq, Prod.mk.injEq] at h
  obtain ⟨rfl, rfl, rfl⟩ := h
  obtain ⟨u, H1, v', hfun, hq, htell⟩ := hrun a os cs' v0 hS hcs
  unfold readR at hq
  obtain ⟨hlogB, hval⟩ := condSome hq
  have hnolog : ∀ j ∈ H1.log, os.length ≤ j := fun j hj => Nat.le_of_ble_eq_true (allN_ok hlogB j hj)
  obtain ⟨ko1, ko2⟩ := mapO_some ho1
  have ho1f := mapO_fwd ho1
  have hon : os.length = ρ.length := ko1
  have hrun2 := (funA_ok hmx hft htt hnt hot m) _ _ _ _ _ hfun
  have hlog1 := hrun2.1
  have htp : ∀ i j, (posT ρ 0).get i = some j → ρ[j]? = some i := fun i j hj => by
    have := (posT_ok ρ 0 i j hj).2; simpa using this
  have hlt : ∀ {l : List Nat} {j i : Nat}, l[j]? = some i → j < l.length := fun h => (List.getElem?_eq_some_iff.1 h).1
  refine ⟨.refl _, ?_⟩
  intro σ F w cargs ha hr _
  have hos : ∀ j o, (heap0 os).get j = some o → ∃ i o0, ρ[j]? = some i ∧ H.get i = some o0 ∧ renO (posT ρ 0).get o0 = some o := by
    intro j o hj
    rw [heap0_get (by omega)] at hj
    obtain ⟨i, h1, h2⟩ := ko2 j o hj
    obtain ⟨o0, h3, h4⟩ := bindSome h2
    exact ⟨i, o0, h1, h3, h4⟩
  have hos2 : ∀ j i, ρ[j]? = some i → ∃ o0 o, H.get i = some o0 ∧ renO (posT ρ 0).get o0 = some o ∧ (heap0 os).get j = some o := by
    intro j i hj
    obtain ⟨o, h1, h2⟩ := ho1f j i hj
    obtain ⟨o0, h3, h4⟩ := bindSome h2
    exact ⟨o0, o, h3, h4, by rw [heap0_get (by omega)]; exact h1⟩
  let τ : Sg := fun j => (ρ[j]?).bind σ
  have hτi : ∀ j x, τ j = some x → ∃ i, ρ[j]? = some i ∧ σ i = some x := fun j x hj => bindSome hj
  have hτ : ∀ i j x, (posT ρ 0).get i = some j → σ i = some x → τ j = some x := by
    intro i j x h1 h2
    show (ρ[j]?).bind σ = some x
    rw [htp i j h1]; exact h2
  have harg : ARel τ F a cargs := by
    obtain ⟨k1, k2⟩ := mapO_some ha1
    refine ⟨by rw [ha.1, k1], ?_⟩
    intro i v hi
    obtain ⟨x, h5, h6⟩ := k2 i v hi
    exact renA_ok (.refl _) hτ 30 x v _ h6 (ha.2 i x h5)
  have hr0 : HR τ F (heap0 os).get w := by
    refine ⟨?_, ?_, ?_, hr.frz, ?_⟩
    · intro j o hj
      obtain ⟨i, o0, h1, h2, h3⟩ := hos j o hj
      obtain ⟨b, c, h4, h5⟩ := hr.obj i o0 h2
      refine ⟨b, c, ?_, renO_ok (.refl _) hτ h3 h5⟩
      show (ρ[j]?).bind σ = some (b, c)
      rw [h1]; exact h4
    · intro j1 j2 b c c' o o' hj1 hj2 hs1 hs2
      obtain ⟨i1, x1, h1, h2, _⟩ := hos j1 o hj1
      obtain ⟨i2, x2, h3, h4, _⟩ := hos j2 o' hj2
      obtain ⟨y1, q1, q2⟩ := hτi _ _ hs1
      obtain ⟨y2, q3, q4⟩ := hτi _ _ hs2
      rw [h1] at q1; cases q1
      rw [h3] at q3; cases q3
      have := hr.inj _ _ _ _ _ _ _ h2 h4 q2 q4
      subst this
      have e1 := hpos j1 i1 h1
      have e2 := hpos j2 i1 h3
      rw [e1] at e2
      simp only [Option.some.injEq] at e2
      omega
    · intro j b c o hj hs
      obtain ⟨i, x, h1, h2, _⟩ := hos j o hj
      obtain ⟨y, q1, q2⟩ := hτi _ _ hs
      rw [h1] at q1; cases q1
      exact hr.sep _ _ _ _ h2 q2
    · intro j x hj
      obtain ⟨y, q1, _⟩ := hτi _ _ hj
      have := hlt q1
      omega
  have hcall := hrun2.2 τ F w cargs harg hr0 (by
    intro i hi _
    have hi : os.length ≤ i := hi
    show (ρ[i]?).bind σ = none
    rw [List.getElem?_eq_none (by omega)]; rfl)
  refine CallsIn.mono hcall.2 ?_
  rintro e w' ⟨cv, τ', F', rfl, hv, hp⟩
  have hkeep : ∀ j o, (heap0 os).get j = some o → H1.get j = some o := by
    intro j o hj
    have hjl : j < os.length := by
      rw [heap0_get (by omega)] at hj; exact (List.getElem?_eq_some_iff.1 hj).1
    rw [hlog1.log j (fun hm => by have := hnolog j hm; omega)]
    exact hj
  have hltF : ∀ b c, F b = some c → b < w.heap.size := by
    intro b c hb
    obtain ⟨e, fr, hh⟩ := hr.frz b c hb
    exact (Array.getElem?_eq_some_iff.1 hh).1
  let G : Fz := fun b => if b < w.heap.size then F b else snap w' b
  have hFG : Sub F G := by
    intro b c hb
    show (if b < w.heap.size then F b else snap w' b) = some c
    rw [if_pos (hltF b c hb)]; exact hb
  have hF'G : Sub F' G := by
    intro b c hb
    obtain ⟨e, fr, hh⟩ := hp.hr.frz b c hb
    show (if b < w.heap.size then F b else snap w' b) = some c
    rcases hp.fold b c hb with h3 | h3 | ⟨j, c', o', h3, h4⟩
    · rw [if_pos (hltF b c h3)]; exact h3
    · rw [if_neg (by omega)]; exact snap_some hh
    · rw [hp.hr.sep j b c' o' (hkeep j o' h3) (hp.sub _ _ h4)] at hb; cases hb
  have hlow : ∀ j x, j < ρ.length → τ' j = some x → τ j = some x := by
    intro j x hj hx
    rcases hp.rng j x hx with h1 | ⟨h1, _⟩
    · exact h1
    · have h1 : os.length ≤ j := h1
      omega
  have hinv : ∀ i j x, (posT ρ 0).get i = some j → τ' j = some x → σ i = some x := by
    intro i j x h1 h2
    have h3 := htp i j h1
    obtain ⟨i', h4, h5⟩ := hτi _ _ (hlow j x (hlt h3) h2)
    rw [h3] at h4; cases h4
    exact h5
  have hv' : VRel σ G v' cv := by
    refine frzA_ok (hp.hr.hid os.length) (fun _ => hF'G) ?_ 30 u v' cv hval hv
    intro id o b cs c e fr hi hs hh
    obtain ⟨hi1, hi2⟩ := hidN_some hi
    have hge : ¬ b < w.heap.size := by
      intro hb
      obtain ⟨j, c', o', hj, hj2⟩ := hp.old id b cs o hi1 hs hb
      have := hp.hr.inj id j b cs c' o o' hi1 (hkeep j o' hj) hs (hp.sub _ _ hj2)
      subst this
      have := hi2 (hp.hr.bnd _ _ hs)
      rw [heap0_get (by omega), List.getElem?_eq_none (by omega)] at hj
      cases hj
    show (if b < w.heap.size then F b else snap w' b) = some c
    rw [if_neg hge]; exact snap_some hh
  have hv'' : VRel σ G v0 cv := by
    rcases htell with rfl | ⟨rfl, sz, rfl⟩
    · exact hv'
    · cases hv'; exact .listnil
  refine ⟨cv, σ, G, rfl, hv'', ?_⟩
  refine ⟨.refl _, hFG, ⟨?_, hr.inj, ?_, ?_, hr.bnd⟩, hp.size, ?_, fun _ _ h => .inl h, fun i b c o h1 h2 _ => ⟨i, c, o, h1, h2⟩, ?_, hp.os, hp.out, hp.tape, Nat.le_refl _⟩
  · -- obj
    intro i o h1
    obtain ⟨b, c, h2, h3⟩ := hr.obj _ _ h1
    refine ⟨b, c, h2, ?_⟩
    by_cases hj : ∃ j : Nat, ρ[j]? = some i
    · obtain ⟨j, hj⟩ := hj
      obtain ⟨o0, oj, h4, h5, h6⟩ := hos2 j i hj
      rw [h1] at h4; cases h4
      have h7 : H1.get j = some oj := hkeep j oj h6
      obtain ⟨b', c', h8, h9⟩ := hp.hr.obj _ _ h7
      have h10 : τ j = some (b, c) := by
        show (ρ[j]?).bind σ = _
        rw [hj]; exact h2
      rw [hp.sub _ _ h10] at h8
      simp only [Option.some.injEq, Prod.mk.injEq] at h8
      obtain ⟨rfl, rfl⟩ := h8
      exact (renO_inv hinv h5 h9).mono (.refl _) hF'G
    · rw [hp.frame b (hr.lt h1 h2) (by
        intro j o' c' h4 h5
        obtain ⟨i', o0, h6, h7, _⟩ := hos j o' h4
        obtain ⟨i'', h8, h9⟩ := hτi _ _ h5
        rw [h6] at h8; cases h8
        have := hr.inj _ _ _ _ _ _ _ h1 h7 h2 h9
        exact hj ⟨j, by rw [this]; exact h6⟩)]
      exact h3.mono (.refl _) hFG
  · -- sep
    intro i b c o h1 h2
    show (if b < w.heap.size then F b else snap w' b) = none
    rw [if_pos (hr.lt h1 h2)]; exact hr.sep i b c o h1 h2
  · -- frz
    intro b c hb
    have hb : (if b < w.heap.size then F b else snap w' b) = some c := hb
    split at hb
    · exact hp.hr.frz b c (hp.fsub _ _ hb)
    · exact snap_cells hb
  · -- frame
    intro b hb hno
    refine hp.frame b hb fun j o c h1 h2 => ?_
    obtain ⟨i, o0, h3, h4, _⟩ := hos j o h1
    obtain ⟨i', h5, h6⟩ := hτi _ _ h2
    rw [h3] at h5; cases h5
    exact hno _ _ _ h4 h6
  · -- fold
    intro b c hb
    have hb : (if b < w.heap.size then F b else snap w' b) = some c := hb
    split at hb
    · exact .inl hb
    · exact .inr (.inl (by omega))

theorem sumOk_readK {P : Program} (hmx : P.follows .mixedOrders = true) {ft : Tr FI} (hft : FTok P ft) {tt : TT} (htt : TTok P tt) {nt : NT} (hnt : NTok P nt) {ot : OT} (hot : OTok P ot) {lf m k : Nat} {S : RS}
    (hrun : ∀ a os cs v, S a os = some (cs, v) → allB cs = true → ∃ v', funK ft tt nt ot lf m (.fn k) a (heap0 os) (fun u H1 => readR os.length u H1) = some v' ∧ tellA v' v) : SumOk P k (readS rhoA S) := by
  refine sumOk_read hmx hft htt hnt hot (lf := lf) (m := m) ?_
  intro a os cs v h hcs
  obtain ⟨v', this, ht⟩ := hrun a os cs v h hcs
  rw [funK_eq] at this
  obtain ⟨⟨u, H1⟩, h1, h2⟩ := bindSome this
  exact ⟨u, H1, v', h1, h2, ht⟩

end
end Go.VM

/- Contracts weakened, tables changed in one place. -/
namespace Go.VM
open Go
noncomputable section

theorem pureS_weak {P : Program} {k : Nat} {S S' : List AV → Option (List Bool × AV)} (h : SumOk P k (pureS S))
    (hw : ∀ a cs' v', S' a = some (cs', v') → allB cs' = true → ∃ cs, S a = some (cs, v') ∧ allB cs = true) : SumOk P k (pureS S') := by
  intro args H cs v H' h0 hcs
  unfold pureS at h0
  obtain ⟨a, h1, h0⟩ := bindSome h0
  obtain ⟨⟨cs', v'⟩, h2, h0⟩ := bindSome h0
  simp only [Option.some.injEq, Prod.mk.injEq] at h0
  obtain ⟨rfl, rfl, rfl⟩ := h0
  obtain ⟨cs2, h3, h4⟩ := hw a cs' v' h2 hcs
  refine h args H cs2 v' H ?_ h4
  unfold pureS
  rw [h1]
  simp only [Option.bind_some, h3]

/-- A pure contract whose arguments are plain as they stand, by its conditions. -/
def pureZ (S : List AV → Option (List Bool × AV)) : SumF := fun args H => (S args).bind fun r => some (r.1, r.2, H)

theorem sumOk_pureZ {P : Program} {k : Nat} {S : List AV → Option (List Bool × AV)} (h : SumOk P k (pureS S)) (hp : ∀ args cs v (H : AH), S args = some (cs, v) → allB cs = true → mapO (frzA H true 30) args = some args) : SumOk P k (pureZ S) := by
  intro args H cs v H' h0 hcs
  unfold pureZ at h0
  obtain ⟨⟨cs', v'⟩, h2, h0⟩ := bindSome h0
  simp only [Option.some.injEq, Prod.mk.injEq] at h0
  obtain ⟨rfl, rfl, rfl⟩ := h0
  refine h args H cs' v' H ?_ hcs
  unfold pureS
  rw [hp args cs' v' H h2 hcs]
  simp only [Option.bind_some, h2]

theorem frz_rowI (H : AH) (m : Nat) (ns : List Int) : frzA H true (m + 2) (AV.list 1 (rowI ns)) = some (AV.list 1 (rowI ns)) := by
  have e : ∀ ns : List Int, mapO (mapO (frzA H true (m + 1))) (rowI ns) = some (rowI ns) := by
    intro ns
    induction ns with
    | nil => rfl
    | cons n ns ih =>
      have h1 : mapO (frzA H true (m + 1)) [.int .i64 n] = some [.int .i64 n] := rfl
      show (mapO (frzA H true (m + 1)) [.int .i64 n]).bind (fun y => (mapO (mapO (frzA H true (m + 1))) (rowI ns)).bind fun ys => some (y :: ys)) = _
      rw [h1, ih]; rfl
  cases ns with
  | nil => rfl
  | cons n ns =>
    show cond true ((mapO (mapO (frzA H true (m + 1))) (rowI (n :: ns))).bind fun es => some (AV.list 1 es)) none = _
    rw [cond_true, e]; rfl

theorem otok_set {P : Program} {ot : OT} (h : OTok P ot) {k : Nat} {g : SumF} (ht : HasText P k) (hg : SumOk P k g) : OTok P (ot.set 40 k (some g)) := by
  intro f g' hf
  rcases Tr.get_set_any 40 ot k f (some g) with e | ⟨e1, e⟩
  · rw [e] at hf; exact h f g' hf
  · rw [e] at hf
    simp only [Option.some.injEq] at hf
    subst hf; subst e1
    exact ⟨ht, hg⟩

/-- A function that is not called: any run that reaches it stops. -/
def stopS : SumF := fun _ _ => none

theorem stop_ok (P : Program) (k : Nat) : SumOk P k stopS := by
  intro args H cs v H' h _
  cases h

theorem tiok_grow {P : Program} {t : TypeId} {ti : TI} (h : TIok P t ti) (b : Bool) : TIok P t { ti with grow := b } :=
  ⟨h.und, h.info, h.eqk, h.meth⟩

theorem ttok_grow {P : Program} {tt : TT} (h : TTok P tt) {t : Nat} {ti : TI} (ht : tt.get t = some ti) : TTok P (tt.set 40 t (some { ti with grow := true })) := by
  intro t2 ti2 hf
  rcases Tr.get_set_any 40 tt t t2 (some { ti with grow := true }) with e | ⟨e1, e⟩
  · rw [e] at hf; exact h t2 ti2 hf
  · rw [e] at hf
    simp only [Option.some.injEq] at hf
    subst hf; subst e1
    exact tiok_grow (h _ _ ht) true
end
end Go.VM

/- A loop one round at a time, what comes behind a round handed over. -/
namespace Go.VM
open Go
noncomputable section

def gK {R : Type} (t : Option (List Nat)) (body : AF → AH → (Ex → AF → AH → Option R) → Option R) (m : Nat) (k : Ex → AF → AH → Option R) : Ex → AF → AH → Option R
  | .norm, fr, H => loopK t body m fr H k
  | e, fr, H => k e fr H

/-- One round; `G` is what comes behind it. -/
def rndK {R : Type} (tt : TT) (nt : NT) (call : CallK R) (lf : Nat) (tm : TrimF) (b : Code) (fr : AF) (H : AH) (G : Ex → AF → AH → Option R) : Option R :=
  codeK tt nt call lf tm b fr H fun e fr' H' => G e (trimFr (tm (keyC b)) fr') (trimH (tm (keyC b)) H')

theorem loopK_round {R : Type} {tt : TT} {nt : NT} {call : CallK R} {lf : Nat} {tm : TrimF} (hb : TrimB tm) {b : Code} (m : Nat) {fr : AF} {H : AH} (hF : trimFr (tm (keyC b)) fr = fr) (hH : trimH (tm (keyC b)) H = H) (k : Ex → AF → AH → Option R) :
    loopK (tm (keyC b)) (codeK tt nt call lf tm b) (m + 1) fr H k = rndK tt nt call lf tm b fr H (gK (tm (keyC b)) (codeK tt nt call lf tm b) m k) := by
  simp only [loopK, hF, hH, rndK]
  congr 1
  funext e fr' H'
  cases e with
  | norm => exact (loopK_trim hb _ _ _ _ _ _).symm
  | exit id => rfl
  | ret => rfl
end
end Go.VM

/- Contracts of functions that change memory, where objects may be lost (told as `.defd`). -/
namespace Go.VM
open Go
noncomputable section

def renL (r : Nat → Option Nat) : AO → Option (Option AO)
  | .defd => some none
  | o => (renO r o).bind fun o' => some (some o')

theorem renL_some {r : Nat → Option Nat} {o o' : AO} (h : renL r o = some (some o')) : o ≠ .defd ∧ renO r o = some o' := by
  cases o with
  | defd => cases h
  | _ =>
    refine ⟨by simp, ?_⟩
    simp only [renL] at h
    obtain ⟨x, h1, h2⟩ := bindSome h
    cases h2; exact h1

def upsL2 (bk : Nat → Option Nat) : List (Option AO) → Nat → Option (List (Nat × Option AO))
  | [], _ => some []
  | none :: os, j => upsL2 bk os (j + 1)
  | some o :: os, j => (bk j).bind fun i => (renL bk o).bind fun o' => (upsL2 bk os (j + 1)).bind fun r => some ((i, o') :: r)

theorem upsL2_mem {bk : Nat → Option Nat} : ∀ (os : List (Option AO)) (k : Nat) (r : List (Nat × Option AO)), upsL2 bk os k = some r → ∀ i o', (i, o') ∈ r → ∃ j o, os[j]? = some (some o) ∧ bk (k + j) = some i ∧ renL bk o = some o' := by
  intro os
  induction os with
  | nil => intro k r h i o' hm; simp only [upsL2, Option.some.injEq] at h; subst h; cases hm
  | cons x os ih =>
    intro k r h i o' hm
    cases x with
    | none =>
      simp only [upsL2] at h
      obtain ⟨j, o, h1, h2, h3⟩ := ih _ _ h i o' hm
      exact ⟨j + 1, o, h1, by rw [show k + (j + 1) = k + 1 + j by omega]; exact h2, h3⟩
    | some o =>
      simp only [upsL2] at h
      obtain ⟨i0, h1, h⟩ := bindSome h
      obtain ⟨o0, h2, h⟩ := bindSome h
      obtain ⟨r0, h3, h⟩ := bindSome h
      simp only [Option.some.injEq] at h; subst h
      rcases List.mem_cons.1 hm with he | hm
      · simp only [Prod.mk.injEq] at he
        obtain ⟨rfl, rfl⟩ := he
        exact ⟨0, o, rfl, h1, h2⟩
      · obtain ⟨j, o1, q1, q2, q3⟩ := ih _ _ h3 i o' hm
        exact ⟨j + 1, o1, q1, by rw [show k + (j + 1) = k + 1 + j by omega]; exact q2, q3⟩

theorem upsL2_has {bk : Nat → Option Nat} : ∀ (os : List (Option AO)) (k : Nat) (r : List (Nat × Option AO)), upsL2 bk os k = some r → ∀ j o, os[j]? = some (some o) → ∃ i o', bk (k + j) = some i ∧ renL bk o = some o' ∧ (i, o') ∈ r := by
  intro os
  induction os with
  | nil => intro k r h j o hj; cases hj
  | cons x os ih =>
    intro k r h j o hj
    cases x with
    | none =>
      simp only [upsL2] at h
      cases j with
      | zero => cases hj
      | succ j =>
        obtain ⟨i, o', h1, h2, h3⟩ := ih _ _ h j o hj
        exact ⟨i, o', by rw [show k + (j + 1) = k + 1 + j by omega]; exact h1, h2, h3⟩
    | some o0 =>
      simp only [upsL2] at h
      obtain ⟨i0, h1, h⟩ := bindSome h
      obtain ⟨o1, h2, h⟩ := bindSome h
      obtain ⟨r0, h3, h⟩ := bindSome h
      simp only [Option.some.injEq] at h; subst h
      cases j with
      | zero => cases hj; exact ⟨i0, o1, h1, h2, List.mem_cons_self⟩
      | succ j =>
        obtain ⟨i, o', q1, q2, q3⟩ := ih _ _ h3 j o hj
        exact ⟨i, o', by rw [show k + (j + 1) = k + 1 + j by omega]; exact q1, q2, List.mem_cons_of_mem _ q3⟩

def setAll2 (t : Tr AO) : List (Nat × Option AO) → Tr AO
  | [] => t
  | p :: ps => (setAll2 t ps).set 40 p.1 p.2

theorem setAll2_get {t : Tr AO} : ∀ (ps : List (Nat × Option AO)) (i : Nat) (o : AO), (setAll2 t ps).get i = some o → (∀ p ∈ ps, p.1 < 1099511627775) → (i, some o) ∈ ps ∨ (t.get i = some o ∧ i ∉ ps.map (·.1)) := by
  intro ps
  induction ps with
  | nil => intro i o h _; exact .inr ⟨h, by simp⟩
  | cons p ps ih =>
    intro i o h hb
    simp only [setAll2] at h
    rw [Tr.get_set _ _ _ (hb p List.mem_cons_self)] at h
    unfold upd at h
    by_cases hi : i = p.1
    · rw [if_pos hi] at h
      subst hi
      rw [← h]
      exact .inl List.mem_cons_self
    · rw [if_neg hi] at h
      rcases ih i o h (fun q hq => hb q (List.mem_cons_of_mem _ hq)) with h1 | ⟨h1, h2⟩
      · exact .inl (List.mem_cons_of_mem _ h1)
      · refine .inr ⟨h1, ?_⟩
        simp only [List.map_cons, List.mem_cons, not_or]
        exact ⟨hi, h2⟩

theorem setAll2_out {t : Tr AO} : ∀ (ps : List (Nat × Option AO)) (i : Nat), i ∉ ps.map (·.1) → (setAll2 t ps).get i = t.get i := by
  intro ps
  induction ps with
  | nil => intro i _; rfl
  | cons p ps ih =>
    intro i hi
    simp only [List.map_cons, List.mem_cons, not_or] at hi
    simp only [setAll2]
    rw [Tr.get_set_ne _ _ _ _ _ (fun e => hi.1 e.symm)]
    exact ih i hi.2

def heapT2 (S : HS) (args : List AV) (H : AH) (ρ : List Nat) (t : Nat → Option Nat) (n : Nat) : Option (List Bool × AV × AH) :=
  cond (Nat.ble n 1000000 && Nat.ble H.next 1000000000 && chkP t ρ 0)
    ((mapO (renA t 30) args).bind fun a =>
      (mapO (fun i => (H.get i).bind (renO t)) ρ).bind fun os =>
      (S a os).bind fun r =>
      cond (Nat.ble n r.2.2.length && Nat.ble r.2.2.length 2000000)
        ((renA (backN ρ n H.next) 30 r.2.1).bind fun v =>
          (upsL2 (backN ρ n H.next) r.2.2 0).bind fun ps =>
          some (r.1, v, { next := H.next + (r.2.2.length - n), tr := setAll2 H.tr ps, log := ps.map (·.1) ++ H.log })) none)
    none

def heapS2 (rho : List AV → AH → List Nat) (S : HS) : SumF := fun args H => heapT2 S args H (rho args H) (posT (rho args H) 0).get (rho args H).length

/-- What a run over the contract's own heap must show. -/
structure RanL (n : Nat) (u : AV) (H1 : AH) (v : AV) (L : List (Option AO)) (q : List Nat) : Prop where
  len : q.length = L.length
  pos : chkP (posT q 0).get q 0 = true
  low : ∀ j : Nat, j < n → q[j]? = some j
  high : ∀ j i : Nat, n ≤ j → q[j]? = some i → n ≤ i
  val : renA (posT q 0).get 30 u = some v
  old : ∀ j : Nat, j < n → L[j]? = some none → j ∉ H1.log
  new : ∀ (j : Nat) (o : AO), L[j]? = some (some o) → o ≠ .defd → ∃ i o1, q[j]? = some i ∧ H1.get i = some o1 ∧ (renO (posT q 0).get o1 = some o ∨ ∃ s s' es, o1 = .arr s' es ∧ o = .arr s [])
  lost : ∀ j : Nat, L[j]? = some (some AO.defd) → j < n

theorem sumOk_heap2 {P : Program} (hmx : P.follows .mixedOrders = true) {ft : Tr FI} (hft : FTok P ft) {tt : TT} (htt : TTok P tt) {nt : NT} (hnt : NTok P nt) {ot : OT} (hot : OTok P ot) {lf m k : Nat} {rho : List AV → AH → List Nat} {S : HS}
    (hrun : ∀ a os cs v L, S a os = some (cs, v, L) → allB cs = true → ∃ u H1 q, funA ft tt nt ot lf m (.fn k) a (heap0 os) = some (u, H1) ∧ RanL os.length u H1 v L q) : SumOk P k (heapS2 rho S) := by
  intro args H cs v H' h hcs
  unfold heapS2 at h
  generalize hρ : rho args H = ρ at h
  unfold heapT2 at h
  obtain ⟨hc, h⟩ := condSome h
  simp only [Bool.and_eq_true] at hc
  have hn1 := Nat.le_of_ble_eq_true hc.1.1
  have hnx := Nat.le_of_ble_eq_true hc.1.2
  have hpos := chkP_ok _ _ hc.2
  obtain ⟨a, ha1, h⟩ := bindSome h
  obtain ⟨os, ho1, h⟩ := bindSome h
  obtain ⟨⟨cs', v0, L⟩, hS, h⟩ := bindSome h
  obtain ⟨hc2, h⟩ := condSome h
  simp only [Bool.and_eq_true] at hc2
  have hL1 := Nat.le_of_ble_eq_true hc2.1
  have hL2 := Nat.le_of_ble_eq_true hc2.2
  obtain ⟨v1, hv1, h⟩ := bindSome h
  obtain ⟨ps, hps, h⟩ := bindSome h
  simp only [Option.some.injEq, Prod.mk.injEq] at h
  obtain ⟨rfl, rfl, rfl⟩ := h
  simp only at hps hv1 hL1 hL2
  obtain ⟨u, H1, q, hfun, hq⟩ := hrun a os cs' v0 L hS hcs
  obtain ⟨ko1, ko2⟩ := mapO_some ho1
  have ho1f := mapO_fwd ho1
  have hon : os.length = ρ.length := ko1
  have hqpos := chkP_ok _ _ hq.pos
  have hrun2 := (funA_ok hmx hft htt hnt hot m) _ _ _ _ _ hfun
  have hlog1 := hrun2.1
  -- numbers of the new contents
  have hbk : ∀ j i, backN ρ ρ.length H.next j = some i → (j < ρ.length ∧ ρ[j]? = some i) ∨ (ρ.length ≤ j ∧ i = H.next + (j - ρ.length)) := by
    intro j i hj
    by_cases hlt : j < ρ.length
    · rw [backN_lo hlt] at hj; exact .inl ⟨hlt, hj⟩
    · rw [backN_hi (by omega)] at hj; simp only [Option.some.injEq] at hj; exact .inr ⟨by omega, hj.symm⟩
  have htp : ∀ i j, (posT ρ 0).get i = some j → ρ[j]? = some i := fun i j hj => by
    have := (posT_ok ρ 0 i j hj).2; simpa using this
  have hqp : ∀ i j, (posT q 0).get i = some j → q[j]? = some i := fun i j hj => by
    have := (posT_ok q 0 i j hj).2; simpa using this
  have hlt : ∀ {l : List Nat} {j i : Nat}, l[j]? = some i → j < l.length := fun h => (List.getElem?_eq_some_iff.1 h).1
  refine ⟨⟨fun i hi => List.mem_append_right _ hi, ?_, Nat.le_add_right _ _⟩, ?_⟩
  · intro i hi
    exact setAll2_out ps i (fun hm => hi (List.mem_append_left _ hm))
  intro σ F w cargs ha hr hfr
  simp only at hfr
  have hos : ∀ j o, (heap0 os).get j = some o → ∃ i o0, ρ[j]? = some i ∧ H.get i = some o0 ∧ renO (posT ρ 0).get o0 = some o := by
    intro j o hj
    rw [heap0_get (by omega)] at hj
    obtain ⟨i, h1, h2⟩ := ko2 j o hj
    obtain ⟨o0, h3, h4⟩ := bindSome h2
    exact ⟨i, o0, h1, h3, h4⟩
  have hos2 : ∀ j i, ρ[j]? = some i → ∃ o0 o, H.get i = some o0 ∧ renO (posT ρ 0).get o0 = some o ∧ (heap0 os).get j = some o := by
    intro j i hj
    obtain ⟨o, h1, h2⟩ := ho1f j i hj
    obtain ⟨o0, h3, h4⟩ := bindSome h2
    exact ⟨o0, o, h3, h4, by rw [heap0_get (by omega)]; exact h1⟩
  let τ : Sg := fun j => (ρ[j]?).bind σ
  have hτi : ∀ j x, τ j = some x → ∃ i, ρ[j]? = some i ∧ σ i = some x := fun j x hj => bindSome hj
  have hτ : ∀ i j x, (posT ρ 0).get i = some j → σ i = some x → τ j = some x := by
    intro i j x h1 h2
    show (ρ[j]?).bind σ = some x
    rw [htp i j h1]; exact h2
  have harg : ARel τ F a cargs := by
    obtain ⟨k1, k2⟩ := mapO_some ha1
    refine ⟨by rw [ha.1, k1], ?_⟩
    intro i v hi
    obtain ⟨x, h5, h6⟩ := k2 i v hi
    exact renA_ok (.refl _) hτ 30 x v _ h6 (ha.2 i x h5)
  have hr0 : HR τ F (heap0 os).get w := by
    refine ⟨?_, ?_, ?_, hr.frz, ?_⟩
    · intro j o hj
      obtain ⟨i, o0, h1, h2, h3⟩ := hos j o hj
      obtain ⟨b, c, h4, h5⟩ := hr.obj i o0 h2
      refine ⟨b, c, ?_, renO_ok (.refl _) hτ h3 h5⟩
      show (ρ[j]?).bind σ = some (b, c)
      rw [h1]; exact h4
    · intro j1 j2 b c c' o o' hj1 hj2 hs1 hs2
      obtain ⟨i1, x1, h1, h2, _⟩ := hos j1 o hj1
      obtain ⟨i2, x2, h3, h4, _⟩ := hos j2 o' hj2
      obtain ⟨y1, q1, q2⟩ := hτi _ _ hs1
      obtain ⟨y2, q3, q4⟩ := hτi _ _ hs2
      rw [h1] at q1; cases q1
      rw [h3] at q3; cases q3
      have := hr.inj _ _ _ _ _ _ _ h2 h4 q2 q4
      subst this
      have e1 := hpos j1 i1 h1
      have e2 := hpos j2 i1 h3
      rw [e1] at e2
      simp only [Option.some.injEq] at e2
      omega
    · intro j b c o hj hs
      obtain ⟨i, x, h1, h2, _⟩ := hos j o hj
      obtain ⟨y, q1, q2⟩ := hτi _ _ hs
      rw [h1] at q1; cases q1
      exact hr.sep _ _ _ _ h2 q2
    · intro j x hj
      obtain ⟨y, q1, _⟩ := hτi _ _ hj
      have := hlt q1
      omega
  have hcall := hrun2.2 τ F w cargs harg hr0 (by
    intro i hi _
    have hi : os.length ≤ i := hi
    show (ρ[i]?).bind σ = none
    rw [List.getElem?_eq_none (by omega)]; rfl)
  refine CallsIn.mono hcall.2 ?_
  rintro e w' ⟨cv, τ', F', rfl, hv, hp⟩
  let σ' : Sg := fun i => if H.next ≤ i ∧ i < H.next + (L.length - ρ.length) then (q[ρ.length + (i - H.next)]?).bind τ' else σ i
  let κ : Sg := fun j => (q[j]?).bind τ'
  have hσin : ∀ i, (H.next ≤ i ∧ i < H.next + (L.length - ρ.length)) → σ' i = (q[ρ.length + (i - H.next)]?).bind τ' := fun i hi => if_pos hi
  have hσout : ∀ i, ¬ (H.next ≤ i ∧ i < H.next + (L.length - ρ.length)) → σ' i = σ i := fun i hi => if_neg hi
  have hsub : Sub σ σ' := by
    intro i x hi
    by_cases hin : H.next ≤ i ∧ i < H.next + (L.length - ρ.length)
    · rw [hfr i hin.1 hin.2] at hi; cases hi
    · rw [hσout i hin]; exact hi
  have hlow : ∀ j x, j < ρ.length → τ' j = some x → τ j = some x := by
    intro j x hj hx
    rcases hp.rng j x hx with h1 | ⟨h1, _⟩
    · exact h1
    · have h1 : os.length ≤ j := h1
      omega
  have hκ : ∀ i j x, (posT q 0).get i = some j → τ' i = some x → κ j = some x := by
    intro i j x h1 h2
    show (q[j]?).bind τ' = some x
    rw [hqp i j h1]; exact h2
  have hback : ∀ j i x, backN ρ ρ.length H.next j = some i → κ j = some x → σ' i = some x := by
    intro j i x h1 h2
    obtain ⟨y, h3, h4⟩ := bindSome h2
    rcases hbk j i h1 with ⟨h5, h6⟩ | ⟨h5, h6⟩
    · rw [hq.low j (by omega)] at h3
      cases h3
      obtain ⟨i', h7, h8⟩ := hτi _ _ (hlow j x h5 h4)
      rw [h6] at h7; cases h7
      exact hsub _ _ h8
    · have := hlt h3
      have hlen := hq.len
      subst h6
      rw [hσin _ ⟨by omega, by omega⟩, show ρ.length + (H.next + (j - ρ.length) - H.next) = j by omega, h3]
      exact h4
  have hinv : ∀ i j x, (posT ρ 0).get i = some j → τ' j = some x → σ' i = some x := by
    intro i j x h1 h2
    have h3 := htp i j h1
    obtain ⟨i', h4, h5⟩ := hτi _ _ (hlow j x (hlt h3) h2)
    rw [h3] at h4; cases h4
    exact hsub _ _ h5
  have hkeep : ∀ j o, (heap0 os).get j = some o → (∃ o', H1.get j = some o') ∨ L[j]? = some (some AO.defd) := by
    intro j o hj
    have hjl : j < os.length := by
      rw [heap0_get (by omega)] at hj; exact (List.getElem?_eq_some_iff.1 hj).1
    have hjL : j < L.length := by omega
    cases hy : L[j]? with
    | none => rw [List.getElem?_eq_none_iff] at hy; omega
    | some y =>
      cases y with
      | none =>
        have := hq.old j hjl hy
        exact .inl ⟨o, by rw [hlog1.log j this]; exact hj⟩
      | some o1 =>
        by_cases hd : o1 = .defd
        · subst hd; exact .inr rfl
        · obtain ⟨i, o2, h1, h2, _⟩ := hq.new j o1 hy hd
          rw [hq.low j hjl] at h1
          cases h1
          exact .inl ⟨o2, h2⟩
  have hbnd : ∀ p ∈ ps, p.1 < 1099511627775 := by
    rintro ⟨i, o⟩ hm
    obtain ⟨j, o1, h1, h2, _⟩ := upsL2_mem _ _ _ hps i o hm
    rw [Nat.zero_add] at h2
    rcases hbk j i h2 with ⟨_, h6⟩ | ⟨h5, h6⟩
    · obtain ⟨o0, _, h7, _⟩ := hos2 j i h6
      obtain ⟨b, c, h8, _⟩ := hr.obj _ _ h7
      exact hr.bnd _ _ h8
    · have := (List.getElem?_eq_some_iff.1 h1).1
      simp only
      omega
  have hcase : ∀ i o, (setAll2 H.tr ps).get i = some o → (i, some o) ∈ ps ∨ (H.get i = some o ∧ i ∉ ps.map (·.1)) := fun i o h => setAll2_get ps i o h hbnd
  have hnosig : ∀ i o, H.get i = some o → ¬ (H.next ≤ i ∧ i < H.next + (L.length - ρ.length)) := by
    intro i o hi hin
    obtain ⟨b, c, h1, _⟩ := hr.obj _ _ hi
    rw [hfr i hin.1 hin.2] at h1; cases h1
  have hup : ∀ i o, (i, some o) ∈ ps → ∃ j i2 o2 b c, backN ρ ρ.length H.next j = some i ∧ q[j]? = some i2 ∧ H1.get i2 = some o2 ∧ τ' i2 = some (b, c) ∧ σ' i = some (b, c) ∧ ORel σ' F' o c (w'.heap[b]?) := by
    intro i o hm
    obtain ⟨j, o1, h1, h2, h3⟩ := upsL2_mem _ _ _ hps i (some o) hm
    rw [Nat.zero_add] at h2
    obtain ⟨hnd, h3⟩ := renL_some h3
    obtain ⟨i2, o2, h4, h5, h6⟩ := hq.new j o1 h1 hnd
    obtain ⟨b, c, h7, h8⟩ := hp.hr.obj _ _ h5
    have hk : κ j = some (b, c) := by
      show (q[j]?).bind τ' = _
      rw [h4]; exact h7
    refine ⟨j, i2, o2, b, c, h2, h4, h5, h7, hback _ _ _ h2 hk, ?_⟩
    rcases h6 with h6 | ⟨s, s', es, rfl, rfl⟩
    · exact renO_ok (.refl _) hback h3 (renO_ok (.refl _) hκ h6 h8)
    · cases h3
      obtain ⟨cc, e, fr, q1, q2, q3, _⟩ := h8
      exact ⟨cc, e, fr, q1, q2, q3, rowNil _ _ _ _⟩
  have hold : ∀ i o, (setAll2 H.tr ps).get i = some o → ¬ (H.next ≤ i ∧ i < H.next + (L.length - ρ.length)) → ∃ o0, H.get i = some o0 := by
    intro i o hi hout
    rcases hcase i o hi with hm | ⟨h1, _⟩
    · obtain ⟨j, i2, _, _, _, h1, h2, _⟩ := hup i o hm
      rcases hbk j i h1 with ⟨_, h6⟩ | ⟨h5, h6⟩
      · obtain ⟨o0, _, h7, _⟩ := hos2 j i h6
        exact ⟨o0, h7⟩
      · have := hlt h2
        have hlen := hq.len
        exact absurd ⟨by omega, by omega⟩ hout
    · exact ⟨o, h1⟩
  have hnew : ∀ i o, (setAll2 H.tr ps).get i = some o → (H.next ≤ i ∧ i < H.next + (L.length - ρ.length)) → ∃ i2 o2, q[ρ.length + (i - H.next)]? = some i2 ∧ H1.get i2 = some o2 := by
    intro i o hi hin
    rcases hcase i o hi with hm | ⟨h1, _⟩
    · obtain ⟨j, i2, o2, _, _, h1, h2, h3, _⟩ := hup i o hm
      rcases hbk j i h1 with ⟨_, h6⟩ | ⟨h5, h6⟩
      · obtain ⟨o0, _, h7, _⟩ := hos2 j i h6
        exact absurd hin (hnosig _ _ h7)
      · subst h6
        rw [show ρ.length + (H.next + (j - ρ.length) - H.next) = j by omega]
        exact ⟨i2, o2, h2, h3⟩
    · exact absurd hin (hnosig _ _ h1)
  have hqinj : ∀ j1 j2 i : Nat, q[j1]? = some i → q[j2]? = some i → j1 = j2 := by
    intro j1 j2 i h1 h2
    have e1 := hqpos j1 i h1
    have e2 := hqpos j2 i h2
    rw [e1] at e2
    simp only [Option.some.injEq] at e2
    omega
  -- an object that is there was not lost
  have hnl : ∀ i o, (setAll2 H.tr ps).get i = some o → ¬ (H.next ≤ i ∧ i < H.next + (L.length - ρ.length)) → ∀ j : Nat, ρ[j]? = some i → L[j]? = some (some AO.defd) → False := by
    intro i o hi hout j hj hL
    obtain ⟨i', o', q1, q2, q3⟩ := upsL2_has _ _ _ hps j .defd hL
    cases q2
    have hjl := hlt hj
    rw [Nat.zero_add, backN_lo hjl, hj] at q1
    cases q1
    rcases hcase i o hi with hm | ⟨_, hk⟩
    · obtain ⟨j2, o1, h1, h2, h3⟩ := upsL2_mem _ _ _ hps i (some o) hm
      rw [Nat.zero_add] at h2
      obtain ⟨hnd, _⟩ := renL_some h3
      rcases hbk j2 i h2 with ⟨_, h6⟩ | ⟨h5, h6⟩
      · have e1 := hpos j i hj
        have e2 := hpos j2 i h6
        rw [e1] at e2
        simp only [Option.some.injEq] at e2
        have : j = j2 := by omega
        subst this
        rw [hL] at h1
        cases h1
        exact hnd rfl
      · have := (List.getElem?_eq_some_iff.1 h1).1
        exact hout ⟨by omega, by omega⟩
    · exact hk (List.mem_map.2 ⟨_, q3, rfl⟩)
  -- the block of a new number is new, or that of an object that was lost
  have hfresh : ∀ i i2 o2 b c, (H.next ≤ i ∧ i < H.next + (L.length - ρ.length)) → q[ρ.length + (i - H.next)]? = some i2 → H1.get i2 = some o2 → τ' i2 = some (b, c) → b < w.heap.size → ∃ (j i' c' : Nat) (o' : AO), L[j]? = some (some AO.defd) ∧ ρ[j]? = some i' ∧ σ i' = some (b, c') ∧ H.get i' = some o' := by
    intro i i2 o2 b c hin h1 h2 h3 hb
    obtain ⟨j, c', o', h4, h5⟩ := hp.old i2 b c o2 h2 h3 hb
    obtain ⟨i', h7, h8⟩ := hτi _ _ h5
    rcases hkeep j o' h4 with ⟨o3, h6⟩ | h6
    · have := hp.hr.inj i2 j b c c' o2 o3 h2 h6 h3 (hp.sub _ _ h5)
      have := hlt h7
      have := hq.high _ _ (by omega) h1
      omega
    · obtain ⟨o0, _, h9, _⟩ := hos2 j i' h7
      exact ⟨j, i', c', o0, h6, h7, h8, h9⟩
  refine ⟨cv, σ', F', rfl, renA_ok (.refl _) hback 30 _ _ _ hv1 (renA_ok (.refl _) hκ 30 _ _ _ hq.val hv), ?_⟩
  refine ⟨hsub, hp.fsub, ⟨?_, ?_, ?_, hp.hr.frz, ?_⟩, hp.size, ?_, ?_, ?_, ?_, hp.os, hp.out, hp.tape, Nat.le_add_right _ _⟩
  · -- obj
    intro i o hi
    rcases hcase i o hi with hm | ⟨h1, hk⟩
    · obtain ⟨_, _, _, b, c, _, _, _, _, h5, h6⟩ := hup i o hm
      exact ⟨b, c, h5, h6⟩
    · obtain ⟨b, c, h2, h3⟩ := hr.obj _ _ h1
      refine ⟨b, c, hsub _ _ h2, ?_⟩
      by_cases hj : ∃ j : Nat, ρ[j]? = some i
      · obtain ⟨j, hj⟩ := hj
        obtain ⟨o0, oj, h4, h5, h6⟩ := hos2 j i hj
        rw [h1] at h4; cases h4
        have hjl := hlt hj
        have hjL : j < L.length := by omega
        cases hy : L[j]? with
        | none => rw [List.getElem?_eq_none_iff] at hy; omega
        | some y =>
          cases y with
          | some o1 =>
            obtain ⟨i', o', q1, _, q3⟩ := upsL2_has _ _ _ hps j o1 hy
            rw [Nat.zero_add, backN_lo hjl, hj] at q1
            cases q1
            exact absurd (List.mem_map.2 ⟨_, q3, rfl⟩) hk
          | none =>
            have hnl := hq.old j (by omega) hy
            have h7 : H1.get j = some oj := by rw [hlog1.log j hnl]; exact h6
            obtain ⟨b', c', h8, h9⟩ := hp.hr.obj _ _ h7
            have h10 : τ j = some (b, c) := by
              show (ρ[j]?).bind σ = _
              rw [hj]; exact h2
            rw [hp.sub _ _ h10] at h8
            simp only [Option.some.injEq, Prod.mk.injEq] at h8
            obtain ⟨rfl, rfl⟩ := h8
            exact renO_inv hinv h5 h9
      · rw [hp.frame b (hr.lt h1 h2) (by
          intro j o' c' h4 h5
          obtain ⟨i', o0, h6, h7, _⟩ := hos j o' h4
          obtain ⟨i'', h8, h9⟩ := hτi _ _ h5
          rw [h6] at h8; cases h8
          have := hr.inj _ _ _ _ _ _ _ h1 h7 h2 h9
          exact hj ⟨j, by rw [this]; exact h6⟩)]
        exact h3.mono hsub hp.fsub
  · -- inj
    intro i1 i2 b c c' o o' h1 h2 h3 h4
    by_cases hi1 : H.next ≤ i1 ∧ i1 < H.next + (L.length - ρ.length)
    · obtain ⟨k1, x1, q1, q2⟩ := hnew i1 o h1 hi1
      rw [hσin i1 hi1, q1] at h3
      have h3 : τ' k1 = some (b, c) := h3
      by_cases hi2 : H.next ≤ i2 ∧ i2 < H.next + (L.length - ρ.length)
      · obtain ⟨k2, x2, q3, q4⟩ := hnew i2 o' h2 hi2
        rw [hσin i2 hi2, q3] at h4
        have h4 : τ' k2 = some (b, c') := h4
        have := hp.hr.inj _ _ _ _ _ _ _ q2 q4 h3 h4
        subst this
        have := hqinj _ _ _ q1 q3
        omega
      · obtain ⟨x2, q3⟩ := hold i2 o' h2 hi2
        rw [hσout i2 hi2] at h4
        obtain ⟨j, i', c'', o'', g1, g2, g3, g4⟩ := hfresh i1 k1 x1 b c hi1 q1 q2 h3 (hr.lt q3 h4)
        have := hr.inj _ _ _ _ _ _ _ q3 g4 h4 g3
        subst this
        exact (hnl _ _ h2 hi2 j g2 g1).elim
    · obtain ⟨x1, q1⟩ := hold i1 o h1 hi1
      rw [hσout i1 hi1] at h3
      by_cases hi2 : H.next ≤ i2 ∧ i2 < H.next + (L.length - ρ.length)
      · obtain ⟨k2, x2, q3, q4⟩ := hnew i2 o' h2 hi2
        rw [hσin i2 hi2, q3] at h4
        obtain ⟨j, i', c'', o'', g1, g2, g3, g4⟩ := hfresh i2 k2 x2 b c' hi2 q3 q4 h4 (hr.lt q1 h3)
        have := hr.inj _ _ _ _ _ _ _ q1 g4 h3 g3
        subst this
        exact (hnl _ _ h1 hi1 j g2 g1).elim
      · obtain ⟨x2, q3⟩ := hold i2 o' h2 hi2
        rw [hσout i2 hi2] at h4
        exact hr.inj _ _ _ _ _ _ _ q1 q3 h3 h4
  · -- sep
    intro i b c o h1 h2
    by_cases hi : H.next ≤ i ∧ i < H.next + (L.length - ρ.length)
    · obtain ⟨k1, x1, q1, q2⟩ := hnew i o h1 hi
      rw [hσin i hi, q1] at h2
      exact hp.hr.sep _ _ _ _ q2 h2
    · obtain ⟨x1, q1⟩ := hold i o h1 hi
      rw [hσout i hi] at h2
      cases hF : F' b with
      | none => rfl
      | some cc =>
        rcases hp.fold b cc hF with h3 | h3 | ⟨j, c', o', h3, h4⟩
        · rw [hr.sep _ _ _ _ q1 h2] at h3; cases h3
        · exact absurd (hr.lt q1 h2) (by omega)
        · rcases hkeep j o' h3 with ⟨o3, h6⟩ | h6
          · rw [hp.hr.sep _ _ _ _ h6 (hp.sub _ _ h4)] at hF; cases hF
          · obtain ⟨i', g1, g2⟩ := hτi _ _ h4
            obtain ⟨o0, _, g3, _⟩ := hos2 j i' g1
            have := hr.inj _ _ _ _ _ _ _ q1 g3 h2 g2
            subst this
            exact (hnl _ _ h1 hi j g1 h6).elim
  · -- bnd
    intro i x hi
    by_cases hin : H.next ≤ i ∧ i < H.next + (L.length - ρ.length)
    · omega
    · rw [hσout i hin] at hi; exact hr.bnd _ _ hi
  · -- frame
    intro b hb hno
    refine hp.frame b hb fun j o c h1 h2 => ?_
    obtain ⟨i, o0, h3, h4, _⟩ := hos j o h1
    obtain ⟨i', h5, h6⟩ := hτi _ _ h2
    rw [h3] at h5; cases h5
    exact hno _ _ _ h4 h6
  · -- rng
    intro i x hi
    by_cases hin : H.next ≤ i ∧ i < H.next + (L.length - ρ.length)
    · exact .inr hin
    · rw [hσout i hin] at hi; exact .inl hi
  · -- old
    intro i b c o h1 h2 hb
    by_cases hi : H.next ≤ i ∧ i < H.next + (L.length - ρ.length)
    · obtain ⟨k1, x1, q1, q2⟩ := hnew i o h1 hi
      rw [hσin i hi, q1] at h2
      obtain ⟨_, i', c', o', _, _, g3, g4⟩ := hfresh i k1 x1 b c hi q1 q2 h2 hb
      exact ⟨i', c', o', g4, g3⟩
    · obtain ⟨x1, q1⟩ := hold i o h1 hi
      rw [hσout i hi] at h2
      exact ⟨i, c, x1, q1, h2⟩
  · -- fold
    intro b c hF
    rcases hp.fold b c hF with h3 | h3 | ⟨j, c', o', h3, h4⟩
    · exact .inl h3
    · exact .inr (.inl h3)
    · obtain ⟨i, o0, h5, h6, _⟩ := hos j o' h3
      obtain ⟨i', h7, h8⟩ := hτi _ _ h4
      rw [h5] at h7; cases h7
      exact .inr (.inr ⟨i, c', o0, h6, h8⟩)

/-- An object behind: as before, lost, told, or nothing but that it is there (from number `know` on). -/
def seenL (tell : List Nat) (n know : Nat) (H1 : AH) (t : Nat → Option Nat) (i : Nat) : Option (Option AO) :=
  cond (Nat.blt i n && !memN i H1.log && !memN i tell) (some none)
    (match H1.get i with
      | some (.arr s es) => match t i with
        | some j => cond (Nat.ble know j) (some (some (.arr 1 []))) ((renO t (.arr s es)).bind fun o => some (some o))
        | none => none
      | some o => (renO t o).bind fun o => some (some o)
      | none => cond (Nat.blt i n) (some (some AO.defd)) none)
def canonL2 (tell : List Nat) (n know : Nat) (u : AV) (H1 : AH) (q : List Nat) (t : Nat → Option Nat) : Option (AV × List (Option AO)) :=
  cond (chkP t q 0 && lowB n q 0)
    ((renA t 30 u).bind fun v => (mapO (seenL tell n know H1 t) q).bind fun L => some (v, L))
    none
def canonL1 (tell : List Nat) (n know : Nat) (u : AV) (H1 : AH) (q : List Nat) : Option (AV × List (Option AO)) := canonL2 tell n know u H1 q (posT q 0).get
def canonL (tell : List Nat) (n keep know : Nat) (u : AV) (H1 : AH) : Option (AV × List (Option AO)) := canonL1 tell n know u H1 ((qOf n u H1).take keep)

theorem renO_notDef {r : Nat → Option Nat} {o o' : AO} (h : renO r o = some o') : o' ≠ .defd := by
  cases o with
  | arr sz es => simp only [renO] at h; obtain ⟨_, _, h2⟩ := bindSome h; cases h2; simp
  | map es => simp only [renO] at h; obtain ⟨_, _, h2⟩ := bindSome h; cases h2; simp
  | _ => cases h

theorem seenL_none {tell : List Nat} {n know : Nat} {H1 : AH} {t : Nat → Option Nat} {i : Nat} (h : seenL tell n know H1 t i = some none) : i < n ∧ i ∉ H1.log := by
  unfold seenL at h
  cases hb : (Nat.blt i n && !memN i H1.log && !memN i tell) with
  | true =>
    rw [Bool.and_eq_true, Bool.and_eq_true, Nat.blt_eq] at hb
    exact ⟨hb.1.1, memN_not.1 hb.1.2⟩
  | false =>
    rw [hb, cond_false] at h
    split at h
    · split at h
      · rename_i j _
        cases hk : Nat.ble know j with
        | true => rw [hk] at h; cases h
        | false =>
          rw [hk, cond_false] at h
          obtain ⟨_, _, h2⟩ := bindSome h; cases h2
      · cases h
    · obtain ⟨_, _, h2⟩ := bindSome h; cases h2
    · obtain ⟨_, h2⟩ := condSome h; cases h2

theorem seenL_some {tell : List Nat} {n know : Nat} {H1 : AH} {t : Nat → Option Nat} {i : Nat} {o : AO} (h : seenL tell n know H1 t i = some (some o)) :
    (∃ o1, H1.get i = some o1 ∧ o ≠ .defd ∧ (renO t o1 = some o ∨ ∃ s s' es, o1 = .arr s' es ∧ o = .arr s [])) ∨ (o = .defd ∧ i < n) := by
  unfold seenL at h
  cases hb : (Nat.blt i n && !memN i H1.log && !memN i tell) with
  | true => rw [hb, cond_true] at h; cases h
  | false =>
    rw [hb, cond_false] at h
    split at h
    · rename_i s es hg
      split at h
      · rename_i j _
        cases hk : Nat.ble know j with
        | true => rw [hk, cond_true] at h; cases h; exact .inl ⟨_, hg, by simp, .inr ⟨1, s, es, rfl, rfl⟩⟩
        | false =>
          rw [hk, cond_false] at h
          obtain ⟨_, h1, h2⟩ := bindSome h; cases h2; exact .inl ⟨_, hg, renO_notDef h1, .inl h1⟩
      · cases h
    · rename_i o1 _ hg
      obtain ⟨_, h1, h2⟩ := bindSome h; cases h2; exact .inl ⟨_, hg, renO_notDef h1, .inl h1⟩
    · obtain ⟨hc, h2⟩ := condSome h
      cases h2
      rw [Nat.blt_eq] at hc
      exact .inr ⟨rfl, hc⟩

theorem canonL1_ok {tell : List Nat} {n know : Nat} {u : AV} {H1 : AH} {v : AV} {L : List (Option AO)} {q : List Nat} (h : canonL1 tell n know u H1 q = some (v, L)) : RanL n u H1 v L q := by
  unfold canonL1 canonL2 at h
  obtain ⟨hc, h⟩ := condSome h
  rw [Bool.and_eq_true] at hc
  obtain ⟨v', h1, h⟩ := bindSome h
  obtain ⟨L', h2, h⟩ := bindSome h
  simp only [Option.some.injEq, Prod.mk.injEq] at h
  obtain ⟨rfl, rfl⟩ := h
  obtain ⟨l1, l2⟩ := lowB_ok _ _ hc.2
  have hlow : ∀ j : Nat, j < n → q[j]? = some j := fun j hj => by have := l1 j (by omega); simpa using this
  have hhigh : ∀ j i : Nat, n ≤ j → q[j]? = some i → n ≤ i := fun j i hj hi => l2 j i (by omega) hi
  obtain ⟨k1, k2⟩ := mapO_some h2
  refine ⟨k1.symm, hc.1, hlow, hhigh, h1, ?_, ?_, ?_⟩
  · intro j hjn hj
    obtain ⟨i, h3, h4⟩ := k2 j _ hj
    rw [hlow j hjn] at h3
    cases h3
    exact (seenL_none h4).2
  · intro j o hj hd
    obtain ⟨i, h3, h4⟩ := k2 j _ hj
    rcases seenL_some h4 with ⟨o1, h5, _, h6⟩ | ⟨h5, _⟩
    · exact ⟨i, o1, h3, h5, h6⟩
    · exact absurd h5 hd
  · intro j hj
    obtain ⟨i, h3, h4⟩ := k2 j _ hj
    rcases seenL_some h4 with ⟨o1, _, h5, _⟩ | ⟨_, h5⟩
    · exact absurd rfl h5
    · by_cases hjn : j < n
      · exact hjn
      · have := hhigh j i (by omega) h3
        omega

theorem sumOk_heapL {P : Program} (hmx : P.follows .mixedOrders = true) {ft : Tr FI} (hft : FTok P ft) {tt : TT} (htt : TTok P tt) {nt : NT} (hnt : NTok P nt) {ot : OT} (hot : OTok P ot) {lf m k : Nat} {S : HS}
    (hrun : ∀ a os cs v L, S a os = some (cs, v, L) → allB cs = true → ∃ tell keep know, funK ft tt nt ot lf m (.fn k) a (heap0 os) (fun u H1 => canonL tell os.length keep know u H1) = some (v, L)) : SumOk P k (heapS2 rhoA S) := by
  refine sumOk_heap2 hmx hft htt hnt hot (lf := lf) (m := m) ?_
  intro a os cs v L h hcs
  obtain ⟨tell, keep, know, this⟩ := hrun a os cs v L h hcs
  rw [funK_eq] at this
  obtain ⟨⟨u, H1⟩, h1, h2⟩ := bindSome this
  exact ⟨u, H1, _, h1, canonL1_ok h2⟩
end
end Go.VM

