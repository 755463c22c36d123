/- An abstract machine for the program form, with the proof that it is sound: part VmP5. No condition. -/
import Derived.Test.YtchfpiimkmphjaaGreatVmP4
import Derived.Laws.Externs
import Derived.MapKept
/- Functions without a text. -/
namespace Go.VM
open Go

def sub64Entry : Array Value → Sem Value := fun args => do
  let (x, y, b) ← Extern.MathBitsCarry.three "Sub64" args
  pure (Extern.MathBitsCarry.pair ((x + Extern.MathBitsCarry.m64 - y - b) % Extern.MathBitsCarry.m64) (if x < y + b then 1 else 0))

def natE : Nat → Array Value → Sem Value
  | 0 => add64Entry
  | 1 => sub64Entry
  | _ => Extern.MapsClone.clone

def NTok (P : Program) (nt : NT) : Prop := ∀ f k, nt.get f = some k → ∃ fn, P.funcs[f]? = some fn ∧ (fn.name == "runtime.NumGoroutine") = false ∧ fn.body.isNone = true ∧ Extern.findNext fn = none ∧ Extern.find fn = some (natE k)

theorem run_sub64 {P : Program} (x y b : Nat) (hb : b ≤ 1) (w : World) :
    (sub64Entry #[.int .u64 x, .int .u64 y, .int .u64 b]).run P w =
      .ok (.tuple #[.int .u64 (.ofNat ((x + 18446744073709551616 - y - b) % 18446744073709551616)), .int .u64 (.ofNat (if x < y + b then 1 else 0))]) w := by
  have : b = 0 ∨ b = 1 := by omega
  rcases this with rfl | rfl <;> rfl

theorem run_add64' {P : Program} (x y c : Nat) (hc : c ≤ 1) (w : World) :
    (add64Entry #[.int .u64 x, .int .u64 y, .int .u64 c]).run P w =
      .ok (.tuple #[.int .u64 (.ofNat ((x + y + c) % 18446744073709551616)), .int .u64 (.ofNat ((x + y + c) / 18446744073709551616))]) w := by
  have : c = 0 ∨ c = 1 := by omega
  rcases this with rfl | rfl <;> rfl

theorem run_clone {P : Program} {r : Nat} {es : Array MapEntry} {clock : Nat} (t : TypeId) {w : World} (hb : w.heap[r]? = some (.map es clock)) :
    (Extern.MapsClone.clone #[.iface t (.map (some r))]).run P w = .ok (.iface t (.map (some w.heap.size))) (pushW w (.map es clock)) := by
  have e : Extern.MapsClone.clone #[.iface t (.map (some r))] = (getObj r >>= fun o => match o with
      | .map entries clock => (newObj (.map entries clock) >>= fun n => pure (.iface t (.map (some n))))
      | _ => stuck "maps.clone: a map expected") := rfl
  rw [e]
  simp [MapKept.run_getObj_map hb, Result.andThen, go_sem]
  rfl

section
variable {P : Program} {σ : Sg} {F : Fz} {w : World}

theorem two_arel {a b c : AV} {cargs : Array Value} (h : ARel σ F [a, b, c] cargs) : ∃ x y z, cargs = #[x, y, z] ∧ VRel σ F a x ∧ VRel σ F b y ∧ VRel σ F c z := by
  obtain ⟨h1, h2⟩ := h
  match cargs, h1 with
  | ⟨[x, y, z]⟩, _ => exact ⟨x, y, z, rfl, h2 0 _ rfl, h2 1 _ rfl, h2 2 _ rfl⟩

theorem one_arel {a : AV} {cargs : Array Value} (h : ARel σ F [a] cargs) : ∃ x, cargs = #[x] ∧ VRel σ F a x := by
  obtain ⟨h1, h2⟩ := h
  match cargs, h1 with
  | ⟨[x]⟩, _ => exact ⟨x, rfl, h2 0 _ rfl⟩

theorem sumA_some {g : SumF} {args : List AV} {H : AH} {r : AV × AH} (h : sumA g args H = some r) : ∃ cs, g args H = some (cs, r.1, r.2) ∧ allB cs = true := by
  unfold sumA at h
  obtain ⟨⟨cs, u, K⟩, h1, h2⟩ := bindSome h
  obtain ⟨h3, h4⟩ := condSome h2
  simp only [Option.some.injEq] at h4
  subst h4
  exact ⟨cs, h1, h3⟩

theorem allB_cons {b : Bool} {bs : List Bool} (h : allB (b :: bs) = true) : b = true ∧ allB bs = true := by
  cases b with
  | true => exact ⟨rfl, h⟩
  | false => cases h

theorem natA_log {k : Nat} {args : List AV} {H H' : AH} {v : AV} (h : natA k args H = some (v, H')) : LogOk H H' := by
  obtain ⟨cs, h, _⟩ := sumA_some h
  unfold natF at h
  split at h
  · simp only [Option.some.injEq, Prod.mk.injEq] at h
    rw [← h.2.2]; exact .refl _
  · simp only [Option.some.injEq, Prod.mk.injEq] at h
    rw [← h.2.2]; exact .refl _
  · split at h
    · obtain ⟨r, h1, h2⟩ := bindSome h
      simp only [Option.some.injEq, Prod.mk.injEq] at h2
      exact new_log h1 h2.2.2
    · cases h
  · cases h

theorem nonneg_ofNat {x : Int} (h : decide (0 ≤ x) = true) : ∃ n : Nat, x = .ofNat n := by
  rw [decide_eq_true_eq] at h
  exact ⟨x.toNat, by show x = ((x.toNat : Nat) : Int); omega⟩

theorem natA_ok {nt : NT} (hnt : NTok P nt) {f k : Nat} (hf : nt.get f = some k) {args : List AV} {cargs : Array Value} {H H' : AH} {v : AV} (h : natA k args H = some (v, H'))
    (ha : ARel σ F args cargs) (hr : HR σ F H.get w) (hfr : ∀ i, H.next ≤ i → i < H'.next → σ i = none) :
    ∃ cv σ' F' w', Runs P (callFunc f cargs) w (.value cv) w' ∧ VRel σ' F' v cv ∧ Post σ F H.get w H.next H'.next σ' F' H'.get w' := by
  obtain ⟨fn, h1, h2, h3, h4, h5⟩ := hnt f k hf
  have run : ∀ {cv : Value} {w' : World}, (natE k cargs).run P w = .ok cv w' → Runs P (callFunc f cargs) w (.value cv) w' := by
    intro cv w' hh
    unfold Runs
    rw [run_callFunc_extern h1 h2 h3 h4 h5, hh]; rfl
  obtain ⟨cs, h, hcs⟩ := sumA_some h
  unfold natF at h
  split at h
  · simp only [Option.some.injEq, Prod.mk.injEq] at h
    obtain ⟨rfl, rfl, rfl⟩ := h
    obtain ⟨c1, hcs⟩ := allB_cons hcs
    obtain ⟨c2, hcs⟩ := allB_cons hcs
    obtain ⟨c3, hcs⟩ := allB_cons hcs
    obtain ⟨c4, hcs⟩ := allB_cons hcs
    obtain ⟨X, rfl⟩ := nonneg_ofNat c1
    obtain ⟨Y, rfl⟩ := nonneg_ofNat c2
    obtain ⟨C, rfl⟩ := nonneg_ofNat c3
    have hle : C ≤ 1 := by rw [decide_eq_true_eq] at c4; exact Int.ofNat_le.1 c4
    obtain ⟨x, y, z, rfl, a1, a2, a3⟩ := two_arel ha
    cases a1; cases a2; cases a3
    refine ⟨_, σ, F, w, run (run_add64' _ _ _ hle w), ?_, .refl hr _⟩
    refine .tup rfl ?_
    intro i c hi
    match i with
    | 0 => cases hi; exact .int _ _
    | 1 => cases hi; exact .int _ _
  · simp only [Option.some.injEq, Prod.mk.injEq] at h
    obtain ⟨rfl, rfl, rfl⟩ := h
    obtain ⟨c1, hcs⟩ := allB_cons hcs
    obtain ⟨c2, hcs⟩ := allB_cons hcs
    obtain ⟨c3, hcs⟩ := allB_cons hcs
    obtain ⟨c4, hcs⟩ := allB_cons hcs
    obtain ⟨c5, hcs⟩ := allB_cons hcs
    obtain ⟨X, rfl⟩ := nonneg_ofNat c1
    obtain ⟨Y, rfl⟩ := nonneg_ofNat c2
    obtain ⟨B, rfl⟩ := nonneg_ofNat c3
    have hle : B ≤ 1 := by rw [decide_eq_true_eq] at c4; exact Int.ofNat_le.1 c4
    have hy : Y ≤ 18446744073709551615 := by rw [decide_eq_true_eq] at c5; exact Int.ofNat_le.1 c5
    obtain ⟨x, y, z, rfl, a1, a2, a3⟩ := two_arel ha
    cases a1; cases a2; cases a3
    refine ⟨_, σ, F, w, run (run_sub64 _ _ _ hle w), ?_, .refl hr _⟩
    refine .tup rfl ?_
    intro i c hi
    match i with
    | 0 =>
      have e : (((X : Nat) : Int) + 18446744073709551616 - (Y : Int) - (B : Int)) % 18446744073709551616 = (((X + 18446744073709551616 - Y - B) % 18446744073709551616 : Nat) : Int) := by omega
      cases hi
      show VRel σ F (.int .u64 ((((X : Nat) : Int) + 18446744073709551616 - (Y : Int) - (B : Int)) % 18446744073709551616)) _
      rw [e]; exact .int _ _
    | 1 =>
      have e : (Int.ofNat (if X < Y + B then 1 else 0)) = cond (decide ((Int.ofNat X) < Int.ofNat Y + Int.ofNat B)) 1 0 := by
        by_cases hb : X < Y + B
        · rw [if_pos hb, decide_eq_true (by show ((X : Nat) : Int) < (Y : Int) + (B : Int); omega)]; rfl
        · rw [if_neg hb, decide_eq_false (by show ¬ ((X : Nat) : Int) < (Y : Int) + (B : Int); omega)]; rfl
      cases hi; rw [← e]; exact .int _ _
  · split at h
    · rename_i t id es hg
      obtain ⟨⟨n, H2⟩, hn, hC⟩ := bindSome h
      simp only [Option.some.injEq, Prod.mk.injEq] at hC
      obtain ⟨_, rfl, rfl⟩ := hC
      obtain ⟨x, rfl, a1⟩ := one_arel ha
      cases a1 with
      | iface a2 =>
      cases a2 with
      | map hσ =>
      rename_i b cs
      obtain ⟨b2, cs2, hs2, ho⟩ := hr.obj _ _ hg
      rw [hσ] at hs2; cases hs2
      obtain ⟨en, clk, e1, e2, e3, e4⟩ := ho
      obtain ⟨rfl, q2, q3, q4, q5⟩ := AH.new_eq hn
      have hfresh : σ H.next = none := hfr _ (Nat.le_refl _) (by omega)
      have hp := Post.new (x := .map en clk) (cs := 0) hr hfresh q3 (o := .map es)
        ⟨en, clk, rfl, e2, fun i p hp => ⟨(e3 i p hp).1.mono (sub_updσ hfresh) (.refl _), (e3 i p hp).2.mono (sub_updσ hfresh) (.refl _)⟩, e4⟩
      have e7 : natE 2 = Extern.MapsClone.clone := rfl
      refine ⟨_, updσ σ H.next (w.heap.size, 0), F, _, run (by rw [e7]; exact run_clone _ e1), ?_, by rw [q2, q4]; exact hp⟩
      exact .iface (.map (cs := 0) (by unfold updσ; rw [if_pos rfl]))
    · cases h
  · cases h

end
end Go.VM

/- Regions whose order is fixed. -/
namespace Go.VM
open Go

section
variable {P : Program} {σ : Sg} {F : Fz} {w : World}

abbrev fence (r : Option Nat) : Fence := { Fence.wide with round := r }

def Done (σ : Sg) (F : Fz) (H : AH) (w : World) (v : AV) (H' : AH) : Ending → World → Prop := fun e w' =>
  ∃ cv σ' F', e = .returned cv ∧ VRel σ' F' v cv ∧ Post σ F H.get w H.next H'.next σ' F' H'.get w'

def CallLog (call : CallF) : Prop := ∀ c args H v H', call c args H = some (v, H') → LogOk H H'

def CallOk (P : Program) (call : CallF) : Prop := ∀ c args H v H', call c args H = some (v, H') → LogOk H H' ∧ ∀ σ F w cargs, ARel σ F args cargs → HR σ F H.get w →
  (∀ i, H.next ≤ i → i < H'.next → σ i = none) →
  match c with
  | .fn f => (∀ w, Runs P (callFunc f cargs) w (.enter f cargs) w) ∧ CallsIn Fence.wide 0 P f cargs w (Done σ F H w v H')
  | .rd l => ∀ b cs, σ l = some (b, cs) → ∃ fn tm assign body, Runs P (Instr.yield b cargs) w (.round b fn tm assign body) w ∧ RoundIn Fence.wide 0 P b fn tm assign body w (Done σ F H w v H')

theorem CallOk.log {call : CallF} (h : CallOk P call) : CallLog call := fun _ _ _ _ _ k => (h _ _ _ _ _ k).1

theorem opA_log {tt : TT} {op : Op} {tmps : Tr AV} {H H' : AH} {n : AN} (h : opA tt op tmps H = some (n, H')) (hd : ∃ c, op = .defer c) : False := by
  obtain ⟨c, rfl⟩ := hd
  cases h

theorem semAt_of {tt : TT} {o : Oper} {tmps : Tr AV} {H H' : AH} {n : AN} (h : opA tt o.op tmps H = some (n, H')) (ro : Option Nat) (ρ : Operand → Value) : Oper.semAt ro ρ o = execOp ρ o :=
  Oper.semAt_eq ro ρ o fun c hc => opA_log h ⟨c, hc⟩

theorem doOp_ok {tt : TT} (htt : TTok P tt) {nt : NT} (hnt : NTok P nt) {call : CallF} (hcall : CallOk P call) {o : Oper} {tmps : Tr AV} {a : Act} {H H' : AH} {v : AV} {r : Option Nat}
    (h : doOp tt nt call o tmps H = some (v, H')) (ht : TRel σ F tmps a) (hr : HR σ F H.get w) (hfr : ∀ i, H.next ≤ i → i < H'.next → σ i = none) {next : Act → World → Prop} {Q : Exit → Act → World → Prop}
    (hn : ∀ cv w' σ' F', VRel σ' F' v cv → Post σ F H.get w H.next H'.next σ' F' H'.get w' → next (a.put o.dst cv) w') : o.wpIn (fence r) 0 P a w next Q := by
  unfold doOp at h
  obtain ⟨⟨n, H2⟩, hop, hA⟩ := bindSome h
  have hsem := semAt_of hop (fence r).round a.eval
  cases n with
  | val u =>
    simp only [Option.some.injEq, Prod.mk.injEq] at hA
    obtain ⟨rfl, rfl⟩ := hA
    obtain ⟨cv, σ', F', w', h1, h2, h3, h4⟩ := opA_ok htt hop ht hr hfr
    refine ⟨fun _ _ => trivial, ?_⟩
    rw [hsem, h1]
    exact hn cv w' σ' F' h2 h3
  | skip =>
    simp only [Option.some.injEq, Prod.mk.injEq] at hA
    obtain ⟨rfl, rfl⟩ := hA
    obtain ⟨σ', F', w', h1, h2, h3⟩ := opA_ok htt hop ht hr hfr
    refine ⟨fun _ _ => trivial, ?_⟩
    rw [hsem, h1]
    exact hn undef w' σ' F' VRel.undef_tup h2
  | fn f args =>
    simp only at hA
    cases hk : nt.get f with
    | some k =>
      rw [hk] at hA
      have hlog := natA_log hA
      obtain ⟨rfl, cargs, h1, h2⟩ := opA_ok htt (a := a) (w := w) hop ht hr (fun i k1 k2 => hfr i k1 (Nat.lt_of_lt_of_le k2 hlog.le))
      obtain ⟨cv, σ', F', w', h3, h4, h5⟩ := natA_ok hnt hk hA h2 hr hfr
      refine ⟨fun _ _ => trivial, ?_⟩
      have h6 : (callFunc f cargs).run P w = .ok (.value cv) w' := h3
      rw [hsem, h1, h6]
      exact hn cv w' σ' F' h4 h5
    | none =>
    rw [hk] at hA
    obtain ⟨hlog, hc⟩ := hcall _ _ _ _ _ hA
    obtain ⟨rfl, cargs, h1, h2⟩ := opA_ok htt (a := a) (w := w) hop ht hr (fun i k1 k2 => hfr i k1 (Nat.lt_of_lt_of_le k2 hlog.le))
    obtain ⟨h3, h4⟩ := hc σ F w cargs h2 hr hfr
    refine ⟨fun _ _ => trivial, ?_⟩
    have h5 : (callFunc f cargs).run P w = .ok (.enter f cargs) w := h3 w
    rw [hsem, h1, h5, Oper.uponIn_enter]
    refine ⟨fun hh => by simp [Fence.wide] at hh, ?_⟩
    refine CallsIn.mono (F := fence r) h4 ?_
    rintro e w' ⟨cv, σ', F', rfl, q1, q2⟩
    exact hn cv w' σ' F' q1 q2
  | round l args =>
    simp only at hA
    obtain ⟨hlog, hc⟩ := hcall _ _ _ _ _ hA
    obtain ⟨rfl, b, cs, cargs, hs, h1, h2⟩ := opA_ok htt (a := a) (w := w) hop ht hr (fun i k1 k2 => hfr i k1 (Nat.lt_of_lt_of_le k2 hlog.le))
    obtain ⟨fn, tm, assign, body, h3, h4⟩ := hc σ F w cargs h2 hr hfr b cs hs
    refine ⟨fun _ _ => trivial, ?_⟩
    rw [hsem, h1, h3, Oper.uponIn_round]
    refine ⟨fun hh => by simp [Fence.wide] at hh, ?_⟩
    refine RoundIn.mono (F := fence r) h4 ?_
    rintro e w' ⟨cv, σ', F', rfl, q1, q2⟩
    exact hn cv w' σ' F' q1 q2

/-- The temporaries of a frame. -/
structure FRT (σ : Sg) (F : Fz) (sz : Nat) (tmps : Tr AV) (a : Act) : Prop where
  size : a.tmps.size = sz
  le : sz ≤ 1000000
  lt : ∀ t v, tmps.get t = some v → t < sz
  val : TRel σ F tmps a

theorem FRT.mono {σ' : Sg} {F' : Fz} {sz : Nat} {tmps : Tr AV} {a : Act} (h : FRT σ F sz tmps a) (hs : Sub σ σ') (hf : Sub F F') : FRT σ' F' sz tmps a :=
  ⟨h.size, h.le, h.lt, fun t v ht => (h.val t v ht).mono hs hf⟩

theorem putT_ok {sz : Nat} {tmps tmps' : Tr AV} {a : Act} {dst : Option Tmp} {v : AV} {cv : Value} (h : putT sz tmps dst v = some tmps') (hf : FRT σ F sz tmps a) (hv : VRel σ F v cv) : FRT σ F sz tmps' (a.put dst cv) := by
  unfold putT at h
  cases dst with
  | none => simp only [Option.some.injEq] at h; subst h; exact hf
  | some d =>
    obtain ⟨hlt, hA⟩ := condSome h
    simp only [Option.some.injEq] at hA; subst hA
    have hd := blt_iff.1 hlt
    have hle := hf.le
    have hg := Tr.get_set tmps d (some v) (by omega)
    refine ⟨by simpa [Act.put] using hf.size, hf.le, ?_, ?_⟩
    · intro t u ht
      rw [hg] at ht
      unfold upd at ht
      split at ht
      · subst_vars; exact hd
      · exact hf.lt t u ht
    · intro t u ht
      rw [hg] at ht
      unfold upd at ht
      have hd2 : d < a.tmps.size := by rw [hf.size]; exact hd
      split at ht
      · rename_i heq
        subst heq
        simp only [Option.some.injEq] at ht; subst ht
        simpa [Act.put, Array.getD, hd2] using hv
      · rename_i hne
        have := hf.val t u ht
        have e1 : (a.put (some d) cv).tmps.getD t undef = a.tmps.getD t undef := by
          simp only [Act.put, Array.getD_eq_getD_getElem?]
          rw [Array.getElem?_setIfInBounds_ne (fun e => hne e.symm)]
        rw [e1]; exact this

theorem put_defers {a : Act} {dst : Option Tmp} {v : Value} : (a.put dst v).defers = a.defers := by cases dst <;> rfl

theorem wantA_ok {ops : Array Oper} {sz : Nat} {tmps : Tr AV} {a : Act} {o : Oper} {b : Bool} (h : wantA ops tmps o = some b) (hf : FRT σ F sz tmps a) : Region.wanted o (yielded ops a.tmps) = b := by
  unfold wantA at h
  unfold Region.wanted
  cases hg : o.guard with
  | none => rw [hg] at h; simp only [Option.some.injEq] at h; subst h; rfl
  | some p =>
    obtain ⟨j, want⟩ := p
    rw [hg] at h
    simp only at h ⊢
    cases hj : ops[j]? with
    | none => rw [hj] at h; cases h
    | some g =>
      rw [hj] at h
      simp only at h
      cases hd : g.dst with
      | none => rw [hd] at h; cases h
      | some t =>
        rw [hd] at h
        simp only at h
        unfold yielded
        rw [hj]
        simp only [Option.bind_some, hd]
        cases ht : tmps.get t with
        | none => rw [ht] at h; cases h
        | some v =>
          rw [ht] at h
          have hlt : t < a.tmps.size := by rw [hf.size]; exact hf.lt t v ht
          have hv := hf.val t v ht
          have hget : a.tmps[t]? = some (a.tmps.getD t undef) := by simp [Array.getD, hlt]
          rw [hget]
          generalize a.tmps.getD t undef = c at hv
          cases v with
          | bool bb =>
            have := hv.bool_inv
            subst this
            simp only [Option.some.injEq] at h; subst h
            show (some bb == some want) = _
            cases want <;> cases bb <;> rfl
          | tup vs =>
            cases vs with
            | cons _ _ => cases h
            | nil =>
              simp only [Option.some.injEq] at h; subst h
              cases hv with
              | tup hs _ => rfl
          | _ => cases h

theorem doOp_log {tt : TT} {nt : NT} {call : CallF} (hcall : CallLog call) {o : Oper} {tmps : Tr AV} {H H' : AH} {v : AV}
    (h : doOp tt nt call o tmps H = some (v, H')) : LogOk H H' := by
  unfold doOp at h
  obtain ⟨⟨n, H2⟩, hop, hA⟩ := bindSome h
  have h1 := opA_LogOk hop
  cases n with
  | val u =>
    simp only [Option.some.injEq, Prod.mk.injEq] at hA
    obtain ⟨rfl, rfl⟩ := hA
    exact h1
  | skip =>
    simp only [Option.some.injEq, Prod.mk.injEq] at hA
    obtain ⟨rfl, rfl⟩ := hA
    exact h1
  | fn f args =>
    simp only at hA
    cases hk : nt.get f with
    | some k => rw [hk] at hA; exact h1.trans (natA_log hA)
    | none => rw [hk] at hA; exact h1.trans (hcall _ _ _ _ _ hA)
  | round l args => exact h1.trans (hcall _ _ _ _ _ hA)

theorem regionA_log {tt : TT} {nt : NT} {call : CallF} (hcall : CallLog call) {ops : Array Oper} {sz : Nat} :
    ∀ (os : List Oper) (tmps tmps' : Tr AV) (H H' : AH), regionA tt nt call ops sz os tmps H = some (tmps', H') → LogOk H H' := by
  intro os
  induction os with
  | nil =>
    intro tmps tmps' H H' h
    simp only [regionA, Option.some.injEq, Prod.mk.injEq] at h
    obtain ⟨_, rfl⟩ := h
    exact LogOk.refl _
  | cons o os ih =>
    intro tmps tmps' H H' h
    simp only [regionA] at h
    obtain ⟨b, _, hA⟩ := bindSome h
    cases b with
    | true =>
      simp only [cond_true] at hA
      obtain ⟨⟨v, H1⟩, hdo, hB⟩ := bindSome hA
      obtain ⟨tm1, _, hC⟩ := bindSome hB
      exact (doOp_log hcall hdo).trans (ih _ _ _ _ hC)
    | false =>
      simp only [cond_false] at hA
      obtain ⟨tm1, _, hC⟩ := bindSome hA
      exact ih _ _ _ _ hC

theorem Post.fresh {σ σ1 : Sg} {F F1 : Fz} {g g1 : Nat → Option AO} {w w1 : World} {a b c : Nat} (h : Post σ F g w a b σ1 F1 g1 w1)
    (hfr : ∀ i, a ≤ i → i < c → σ i = none) : ∀ i, b ≤ i → i < c → σ1 i = none := by
  intro i h1 h2
  cases hs : σ1 i with
  | none => rfl
  | some x =>
    rcases h.rng i x hs with k | k
    · rw [hfr i (Nat.le_trans h.le h1) h2] at k; cases k
    · omega

theorem regionA_ok {tt : TT} (htt : TTok P tt) {nt : NT} (hnt : NTok P nt) {call : CallF} (hcall : CallOk P call) {ops : Array Oper} {sz : Nat} {r : Option Nat} {Q : Exit → Act → World → Prop} {df : List Deferred} :
    ∀ (os : List Oper) (i : Nat) (tmps tmps' : Tr AV) (H H' : AH) (σ : Sg) (F : Fz) (a : Act) (w : World), regionA tt nt call ops sz os tmps H = some (tmps', H') → ops.toList.drop i = os →
      FRT σ F sz tmps a → a.defers = df → HR σ F H.get w → (∀ i, H.next ≤ i → i < H'.next → σ i = none) →
      (∀ a' w' σ' F', FRT σ' F' sz tmps' a' → a'.defers = df → Post σ F H.get w H.next H'.next σ' F' H'.get w' → Q .normal a' w') → wpOpsIn (fence r) 0 P ops Q (List.range' i os.length) a w := by
  intro os
  induction os with
  | nil =>
    intro i tmps tmps' H H' σ F a w h _ hf hd hr _ hq
    simp only [regionA, Option.some.injEq, Prod.mk.injEq] at h
    obtain ⟨rfl, rfl⟩ := h
    exact hq a w σ F hf hd (Post.refl hr _)
  | cons o os ih =>
    intro i tmps tmps' H H' σ F a w h hdrop hf hd hr hfr hq
    have hlt : i < ops.toList.length := by
      rcases Nat.lt_or_ge i ops.toList.length with h1 | h1
      · exact h1
      · rw [List.drop_eq_nil_of_le h1] at hdrop; cases hdrop
    rw [List.drop_eq_getElem_cons hlt] at hdrop
    injection hdrop with ho hos
    have hoi : ops[i]? = some o := by
      rw [← Array.getElem?_toList, List.getElem?_eq_getElem hlt, ho]
    simp only [regionA] at h
    obtain ⟨b, hb, hA⟩ := bindSome h
    have hw := wantA_ok hb hf
    simp only [List.length_cons, List.range'_succ, wpOpsIn, hoi]
    cases b with
    | true =>
      simp only [cond_true] at hA
      obtain ⟨⟨v, H1⟩, hdo, hB⟩ := bindSome hA
      obtain ⟨tm1, hput, hC⟩ := bindSome hB
      simp only at hput hC
      rw [hw]
      simp only [if_true]
      have hl1 := doOp_log hcall.log hdo
      have hl2 := regionA_log hcall.log _ _ _ _ _ hC
      refine doOp_ok (r := r) htt hnt hcall hdo hf.val hr (fun i k1 k2 => hfr i k1 (Nat.lt_of_lt_of_le k2 hl2.le)) ?_
      intro cv w1 σ1 F1 hv hp
      refine ih (i + 1) tm1 tmps' H1 H' σ1 F1 (a.put o.dst cv) w1 hC hos (putT_ok hput (hf.mono hp.sub hp.fsub) hv) (by rw [put_defers]; exact hd) hp.hr (hp.fresh hfr) ?_
      intro a' w' σ' F' h1 h2 h3
      exact hq a' w' σ' F' h1 h2 (hp.trans h3)
    | false =>
      simp only [cond_false] at hA
      obtain ⟨tm1, hput, hC⟩ := bindSome hA
      rw [hw]
      simp only [Bool.false_eq_true, if_false]
      exact ⟨fun _ _ => trivial, ih (i + 1) tm1 tmps' H H' σ F (a.put o.dst undef) w hC hos (putT_ok hput hf VRel.undef_tup) (by rw [put_defers]; exact hd) hr hfr hq⟩

end
end Go.VM

/- Regions that draw their order: what one textual run tells. -/
namespace Go.VM
open Go

theorem Tr.get_set_any {α : Type} (n : Nat) (t : Tr α) (i j : Nat) (x : Option α) : (t.set n i x).get j = t.get j ∨ (j = i ∧ (t.set n i x).get j = x) := by
  by_cases h : i = j
  · subst h
    induction n generalizing t i with
    | zero => exact .inl rfl
    | succ n ih =>
      have hb : ∀ k : Nat, (Nat.beq k 0) = decide (k = 0) := fun k => by cases k <;> simp [Nat.beq]
      have hc : ∀ k : Nat, (Nat.beq (k % 2) 1) = decide (k % 2 = 1) := fun k => by
        rcases Nat.mod_two_eq_zero_or_one k with h | h <;> simp [h, Nat.beq]
      cases t with
      | nil =>
        simp only [Tr.set_nil, Tr.set_node, hb, hc]
        by_cases h0 : i = 0
        · subst h0; right; simp [Tr.get_nil, Tr.get_node, hb]
        · by_cases h1 : i % 2 = 1
          · simp only [h0, h1, decide_true, decide_false, cond_true, cond_false, Tr.get_nil, Tr.get_node, hb, hc]
            rcases ih .nil (i / 2) with k | k
            · left; rw [k]; simp [Tr.get_nil]
            · right; exact ⟨trivial, k.2⟩
          · simp only [h0, h1, decide_false, cond_false, Tr.get_nil, Tr.get_node, hb, hc]
            rcases ih .nil (i / 2 - 1) with k | k
            · left; rw [k]; simp [Tr.get_nil]
            · right; exact ⟨trivial, k.2⟩
      | node l v r =>
        simp only [Tr.set_nil, Tr.set_node, hb, hc]
        by_cases h0 : i = 0
        · subst h0; right; simp [Tr.get_nil, Tr.get_node, hb]
        · by_cases h1 : i % 2 = 1
          · simp only [h0, h1, decide_true, decide_false, cond_true, cond_false, Tr.get_nil, Tr.get_node, hb, hc]
            rcases ih l (i / 2) with k | k
            · left; exact k
            · right; exact ⟨trivial, k.2⟩
          · simp only [h0, h1, decide_false, cond_false, Tr.get_nil, Tr.get_node, hb, hc]
            rcases ih r (i / 2 - 1) with k | k
            · left; exact k
            · right; exact ⟨trivial, k.2⟩
  · exact .inl (Tr.get_set_ne _ _ _ _ _ h)

theorem onlyT_get {tmps : Tr AV} : ∀ {L : List Nat} {t : Nat} {v : AV}, (onlyT tmps L).get t = some v → t ∈ L ∧ tmps.get t = some v := by
  intro L
  induction L with
  | nil => intro t v h; simp [onlyT, Tr.get_nil] at h
  | cons x xs ih =>
    intro t v h
    simp only [onlyT] at h
    rcases Tr.get_set_any 40 (onlyT tmps xs) x t (tmps.get x) with k | ⟨rfl, k⟩
    · rw [k] at h
      exact ⟨List.mem_cons_of_mem _ (ih h).1, (ih h).2⟩
    · rw [k] at h
      exact ⟨List.mem_cons_self, h⟩

theorem onlyA_get {H : AH} : ∀ {L : List Nat} {t : Nat} {v : AO}, (onlyA H L).get t = some v → t ∈ L ∧ H.get t = some v := by
  intro L
  induction L with
  | nil => intro t v h; simp [onlyA, Tr.get_nil] at h
  | cons x xs ih =>
    intro t v h
    simp only [onlyA] at h
    rcases Tr.get_set_any 40 (onlyA H xs) x t (H.get x) with k | ⟨rfl, k⟩
    · rw [k] at h
      exact ⟨List.mem_cons_of_mem _ (ih h).1, (ih h).2⟩
    · rw [k] at h
      exact ⟨List.mem_cons_self, h⟩

theorem hideA_get {r : Tr AO} : ∀ {L : List Nat} {t : Nat} {v : AO}, (∀ x ∈ L, x ≤ 1000000000) → (hideA r L).get t = some v → t ∉ L ∧ r.get t = some v := by
  intro L
  induction L with
  | nil => intro t v _ h; exact ⟨by simp, h⟩
  | cons x xs ih =>
    intro t v hL h
    simp only [hideA] at h
    rw [Tr.get_set _ _ _ (by have := hL x (by simp); omega)] at h
    unfold upd at h
    split at h
    · cases h
    · rename_i hne
      obtain ⟨h1, h2⟩ := ih (fun y hy => hL y (by simp [hy])) h
      exact ⟨by simp [hne, h1], h2⟩

theorem mergeA_get {r : Tr AO} {H' : AH} : ∀ {L : List Nat} (t : Nat), (∀ x ∈ L, x ≤ 1000000000) → (mergeA r H' L).get t = if t ∈ L then H'.get t else r.get t := by
  intro L
  induction L with
  | nil => intro t _; simp [mergeA]
  | cons x xs ih =>
    intro t hL
    simp only [mergeA]
    rw [Tr.get_set _ _ _ (by have := hL x (by simp); omega)]
    unfold upd
    split
    · rename_i h; subst h; simp
    · rename_i hne
      rw [ih t (fun y hy => hL y (by simp [hy]))]
      simp [hne]

theorem memN_iff {x : Nat} : ∀ {l : List Nat}, memN x l = true ↔ x ∈ l := by
  intro l
  induction l with
  | nil => simp [memN]
  | cons y ys ih =>
    unfold memN
    cases h : Nat.beq x y with
    | true => simp [Nat.eq_of_beq_eq_true h]
    | false => simp [ih, Nat.ne_of_beq_eq_false h]

theorem memN_not {x : Nat} {l : List Nat} : (!memN x l) = true ↔ x ∉ l := by
  rw [← memN_iff]; cases memN x l <;> simp

theorem allN_iff {p : Nat → Bool} : ∀ {l : List Nat}, allN p l = true ↔ ∀ x ∈ l, p x = true := by
  intro l
  induction l with
  | nil => simp [allN]
  | cons y ys ih => unfold allN; cases h : p y <;> simp [h, ih]

theorem allR_iff {p : Rec → Bool} : ∀ {l : List Rec}, allR p l = true ↔ ∀ x ∈ l, p x = true := by
  intro l
  induction l with
  | nil => simp [allR]
  | cons y ys ih => unfold allR; cases h : p y <;> simp [h, ih]

theorem mem_hidden {p : Nat} {k : Nat} : ∀ {recs : List Rec}, k ∈ hidden p recs ↔ ∃ r ∈ recs, unord p r = true ∧ k ∈ r.keys := by
  intro recs
  induction recs with
  | nil => simp [hidden]
  | cons r rs ih =>
    unfold hidden
    cases h : unord p r with
    | true => simp [ih, h]
    | false => simp [ih, h]

/-- One operation of a textual run. -/
structure St where
  o : Oper
  p : Nat
  idx : Nat
  ran : Bool
  tm : Tr AV
  touch : Option (List Nat)
  keys : List Nat
  lo : Nat
  hi : Nat
  B : AH
  B' : AH
  v : AV

def St.rcd (s : St) : Rec := { idx := s.idx, touch := s.touch, keys := s.keys }

structure Clash (r : Rec) (s : St) : Prop where
  c1 : ∀ ids, s.touch = some ids → ∀ id ∈ ids, id ∉ r.keys
  c2 : ∀ ids, r.touch = some ids → ∀ id ∈ ids, id ∉ s.keys
  c3 : r.touch = none → ∀ k ∈ s.keys, s.lo ≤ k
  c4 : ∀ k ∈ s.keys, k ∉ r.keys

structure Ran (tt : TT) (nt : NT) (call : CallF) (recs : List Rec) (H : AH) (s : St) : Prop where
  touch : s.touch = touchA s.o.op s.tm
  B : s.B = { next := H.next, log := [], tr := seeA s.touch H s.p recs }
  run : doOp tt nt call s.o s.tm s.B = some (s.v, s.B')
  keys : s.keys = s.B'.log
  hi : s.hi = s.B'.next
  bnd : ∀ k ∈ s.keys, k < s.hi ∧ k ≤ 1000000000
  clash : ∀ r ∈ recs, unord s.p r = true → Clash r s

structure Step (tt : TT) (nt : NT) (call : CallF) (ops : Array Oper) (sz : Nat) (recs : List Rec) (tmps : Tr AV) (H : AH) (s : St) : Prop where
  tm : s.tm = onlyT tmps (looksL ops s.o)
  want : wantA ops s.tm s.o = some s.ran
  dst : ∀ d, s.o.dst = some d → d < sz
  lo : s.lo = H.next
  le : s.lo ≤ s.hi
  run : s.ran = true → Ran tt nt call recs H s
  skip : s.ran = false → s.v = .tup [] ∧ s.keys = []

noncomputable def wT (t : Nat) (s : St) : Option (Option AV) := if s.o.dst = some t then some (some s.v) else none
noncomputable def wK (id : Nat) (s : St) : Option (Option AO) := if id ∈ s.keys then some (s.B'.get id) else none

inductive Trace (tt : TT) (nt : NT) (call : CallF) (ops : Array Oper) (sz : Nat) : List Oper → List Nat → Nat → List Rec → Tr AV → AH → List St → Tr AV → AH → Prop
  | nil {ps : List Nat} {i : Nat} {recs : List Rec} {tmps : Tr AV} {H : AH} : Trace tt nt call ops sz [] ps i recs tmps H [] tmps H
  | cons {o : Oper} {os : List Oper} {p : Nat} {ps : List Nat} {i : Nat} {recs recs1 : List Rec} {tmps tmps1 tmps2 : Tr AV} {H H1 H2 : AH} {s : St} {ss : List St}
      (st : Step tt nt call ops sz recs tmps H s) (ho : s.o = o) (hp : s.p = p) (hi : s.idx = i) (ht : ∀ t, tmps1.get t = (wT t s).getD (tmps.get t))
      (hk : ∀ id, H1.get id = (wK id s).getD (H.get id)) (hn : H1.next = s.hi) (hrec : ∀ r, r ∈ recs1 ↔ (s.ran = true ∧ r = s.rcd) ∨ r ∈ recs) (hl : LogOk H H1)
      (rest : Trace tt nt call ops sz os ps (i + 1) recs1 tmps1 H1 ss tmps2 H2) : Trace tt nt call ops sz (o :: os) (p :: ps) i recs tmps H (s :: ss) tmps2 H2

theorem putT_get {sz : Nat} {tmps tmps' : Tr AV} {dst : Option Tmp} {v : AV} (h : putT sz tmps dst v = some tmps') (hsz : sz ≤ 1000000) :
    (∀ d, dst = some d → d < sz) ∧ ∀ t, tmps'.get t = if dst = some t then some v else tmps.get t := by
  unfold putT at h
  cases dst with
  | none => simp only [Option.some.injEq] at h; subst h; simp
  | some d =>
    obtain ⟨h1, h2⟩ := condSome h
    have := blt_iff.1 h1
    simp only [Option.some.injEq] at h2; subst h2
    refine ⟨fun e he => by cases he; exact this, fun t => ?_⟩
    rw [Tr.get_set _ _ _ (by omega)]
    unfold upd
    by_cases e : t = d
    · subst e; simp
    · have e' : ¬ d = t := fun h => e h.symm
      simp [e, e']

theorem drawA_trace {tt : TT} {nt : NT} {call : CallF} (hcall : CallLog call) {ops : Array Oper} {sz : Nat} (hsz : sz ≤ 1000000) :
    ∀ (os : List Oper) (ps : List Nat) (i : Nat) (recs : List Rec) (tmps tmps' : Tr AV) (H H' : AH), (∀ r ∈ recs, ∀ k ∈ r.keys, k ≤ 1000000000) → drawA tt nt call ops sz os ps i recs tmps H = some (tmps', H') →
      ∃ ss, Trace tt nt call ops sz os ps i recs tmps H ss tmps' H' := by
  intro os
  induction os with
  | nil =>
    intro ps i recs tmps tmps' H H' _ h
    simp only [drawA, Option.some.injEq, Prod.mk.injEq] at h
    obtain ⟨rfl, rfl⟩ := h
    exact ⟨[], .nil⟩
  | cons o os ih =>
    intro ps i recs tmps tmps' H H' hrk h
    cases ps with
    | nil => simp only [drawA] at h; cases h
    | cons p ps =>
    simp only [drawA] at h
    obtain ⟨b, hw, hA⟩ := bindSome h
    cases b with
    | false =>
      simp only [cond_false] at hA
      obtain ⟨tm1, hput, hC⟩ := bindSome hA
      obtain ⟨hd, hg⟩ := putT_get hput hsz
      obtain ⟨ss, hss⟩ := ih ps (i + 1) recs tm1 tmps' H H' hrk hC
      let s : St := { o := o, p := p, idx := i, ran := false, tm := onlyT tmps (looksL ops o), touch := some [], keys := [], lo := H.next, hi := H.next, B := H, B' := H, v := .tup [] }
      refine ⟨s :: ss, .cons (s := s) ⟨rfl, hw, hd, rfl, Nat.le_refl _, fun hh => (by cases hh), fun _ => ⟨rfl, rfl⟩⟩ rfl rfl rfl ?_ ?_ rfl ?_ (.refl _) hss⟩
      · intro t
        rw [hg t]
        show _ = (wT t s).getD _
        unfold wT
        split <;> simp_all [s]
      · intro id; simp [wK, s]
      · intro r; simp [s]
    | true =>
      simp only [cond_true] at hA
      obtain ⟨hb1, hB⟩ := condSome hA
      obtain ⟨⟨v, H1⟩, hdo, hC⟩ := bindSome hB
      obtain ⟨ha1, hD⟩ := condSome hC
      obtain ⟨tm1, hput, hE⟩ := bindSome hD
      simp only at ha1 hput hE
      obtain ⟨hd, hg⟩ := putT_get hput hsz
      unfold okAfter at ha1
      rw [Bool.and_eq_true, allN_iff, allR_iff] at ha1
      obtain ⟨hk1, hk2⟩ := ha1
      have hk : ∀ k ∈ H1.log, k < H1.next ∧ k ≤ 1000000000 := fun k hk => by
        have := hk1 k hk
        rw [Bool.and_eq_true] at this
        exact ⟨blt_iff.1 this.1, Nat.le_of_ble_eq_true this.2⟩
      have hlog := doOp_log hcall hdo
      have hL3 := hlog.le
      simp only at hL3
      obtain ⟨ss, hss⟩ := ih ps (i + 1) _ tm1 tmps' _ H' (by
        intro r hr k hk'
        rcases List.mem_cons.1 hr with rfl | hr
        · exact (hk k hk').2
        · exact hrk r hr k hk') hE
      let s : St := ⟨o, p, i, true, onlyT tmps (looksL ops o), touchA o.op (onlyT tmps (looksL ops o)), H1.log, H.next, H1.next,
        { next := H.next, log := [], tr := seeA (touchA o.op (onlyT tmps (looksL ops o))) H p recs }, H1, v⟩
      have hran : Ran tt nt call recs H s := by
        refine ⟨rfl, rfl, hdo, rfl, rfl, hk, ?_⟩
        intro r hr hu
        have h2 := hk2 r hr
        have hu' : unord p r = true := hu
        rw [hu', cond_true, Bool.and_eq_true, allN_iff] at h2
        refine ⟨?_, ?_, ?_, fun k hk' => memN_not.1 (h2.2 k hk')⟩
        · intro ids hids id hid
          have hids' : touchA o.op (onlyT tmps (looksL ops o)) = some ids := hids
          unfold okBefore at hb1
          rw [hids'] at hb1
          have := (allR_iff.1 hb1) r hr
          rw [hu', cond_true, allN_iff] at this
          exact memN_not.1 (this id hid)
        · intro ids hids id hid
          rw [hids] at h2
          exact memN_not.1 ((allN_iff.1 h2.1) id hid)
        · intro hn k hk'
          rw [hn] at h2
          exact Nat.le_of_ble_eq_true ((allN_iff.1 h2.1) k hk')
      refine ⟨s :: ss, .cons (s := s) ⟨rfl, hw, hd, rfl, hL3, fun _ => hran, fun hh => (by cases hh)⟩ rfl rfl rfl ?_ ?_ ?_ ?_ ?_ hss⟩
      · intro t
        rw [hg t]
        show _ = (wT t s).getD _
        unfold wT
        split <;> simp_all [s]
      · intro id
        show (mergeA H.tr H1 H1.log).get id = (wK id s).getD _
        rw [mergeA_get id (fun x hx => (hk x hx).2)]
        unfold wK
        split <;> simp_all [s, AH.get]
      · rfl
      · intro r
        show r ∈ _ :: _ ↔ _
        rw [List.mem_cons]
        constructor
        · rintro (h | h)
          · exact .inl ⟨rfl, h⟩
          · exact .inr h
        · rintro (⟨_, h⟩ | h)
          · exact .inl h
          · exact .inr h
      · refine ⟨fun j hj => List.mem_append_right _ hj, fun j hj => ?_, hL3⟩
        show (mergeA H.tr H1 H1.log).get j = _
        rw [mergeA_get j (fun x hx => (hk x hx).2), if_neg (fun hm => hj (List.mem_append_left _ hm))]
        rfl

/-- What the last writer has left. -/
def LW {β : Type} (wr : St → Option β) : List St → (Nat → Bool) → β → β
  | [], _, x => x
  | s :: ss, S, x => LW wr ss S (if S s.idx = true then (wr s).getD x else x)

theorem LW_append {β : Type} {wr : St → Option β} {S : Nat → Bool} : ∀ (l1 l2 : List St) (x : β), LW wr (l1 ++ l2) S x = LW wr l2 S (LW wr l1 S x) := by
  intro l1
  induction l1 with
  | nil => intro l2 x; rfl
  | cons s ss ih => intro l2 x; exact ih l2 _

theorem LW_skip {β : Type} {wr : St → Option β} {S : Nat → Bool} : ∀ (l : List St) (x : β), (∀ q ∈ l, S q.idx = true → wr q = none) → LW wr l S x = x := by
  intro l
  induction l with
  | nil => intro x _; rfl
  | cons s ss ih =>
    intro x h
    simp only [LW]
    rw [ih _ (fun q hq => h q (by simp [hq]))]
    split
    · rename_i hs; rw [h s (by simp) hs]; rfl
    · rfl

theorem LW_congr {β : Type} {wr : St → Option β} {S S' : Nat → Bool} : ∀ (l : List St) (x : β), (∀ q ∈ l, wr q ≠ none → S q.idx = S' q.idx) → LW wr l S x = LW wr l S' x := by
  intro l
  induction l with
  | nil => intro x _; rfl
  | cons s ss ih =>
    intro x h
    simp only [LW]
    rw [ih _ (fun q hq => h q (by simp [hq]))]
    congr 1
    cases hs : wr s with
    | none => simp
    | some y => rw [h s (by simp) (by rw [hs]; simp)]

section
variable {tt : TT} {nt : NT} {call : CallF} {ops : Array Oper} {sz : Nat}

theorem Trace.end_ {os : List Oper} {ps : List Nat} {i : Nat} {recs : List Rec} {tmps tmps' : Tr AV} {H H' : AH} {ss : List St} (h : Trace tt nt call ops sz os ps i recs tmps H ss tmps' H') :
    (∀ t, tmps'.get t = LW (wT t) ss (fun _ => true) (tmps.get t)) ∧ (∀ id, H'.get id = LW (wK id) ss (fun _ => true) (H.get id)) ∧ LogOk H H' := by
  induction h with
  | nil => exact ⟨fun _ => rfl, fun _ => rfl, .refl _⟩
  | cons st ho hp hi ht hk hn hrec hl rest ih =>
    refine ⟨fun t => ?_, fun id => ?_, hl.trans ih.2.2⟩
    · rw [ih.1 t, ht t]; simp [LW]
    · rw [ih.2.1 id, hk id]; simp [LW]

theorem Trace.at_ {os : List Oper} {ps : List Nat} {i : Nat} {recs : List Rec} {tmps tmps' : Tr AV} {H H' : AH} {ss : List St} (h : Trace tt nt call ops sz os ps i recs tmps H ss tmps' H') :
    ss.length = os.length ∧ ∀ k s, ss[k]? = some s → s.idx = i + k ∧ os[k]? = some s.o ∧ ps[k]? = some s.p := by
  induction h with
  | nil => exact ⟨rfl, fun k s hs => by simp at hs⟩
  | cons st ho hp hi ht hk hn hrec hl rest ih =>
    refine ⟨by simp [ih.1], fun k s hs => ?_⟩
    cases k with
    | zero => simp only [List.getElem?_cons_zero, Option.some.injEq] at hs; subst hs; exact ⟨by omega, by simp [ho], by simp [hp]⟩
    | succ k =>
      simp only [List.getElem?_cons_succ] at hs ⊢
      obtain ⟨h1, h2, h3⟩ := ih.2 k s hs
      exact ⟨by omega, h2, h3⟩

/-- What stood when an operation of the text was run. -/
structure Before (tt : TT) (nt : NT) (call : CallF) (ops : Array Oper) (sz : Nat) (recs : List Rec) (tmps : Tr AV) (H H' : AH) (l1 : List St) (s : St) (recs1 : List Rec) (tmps1 : Tr AV) (H1 : AH) : Prop where
  st : Step tt nt call ops sz recs1 tmps1 H1 s
  tm : ∀ t, tmps1.get t = LW (wT t) l1 (fun _ => true) (tmps.get t)
  hp : ∀ id, H1.get id = LW (wK id) l1 (fun _ => true) (H.get id)
  lo : H.next ≤ H1.next
  hi : s.hi ≤ H'.next
  recs : ∀ r, r ∈ recs1 ↔ (∃ q ∈ l1, q.ran = true ∧ r = q.rcd) ∨ r ∈ recs
  lows : ∀ q ∈ l1, q.hi ≤ s.lo

theorem Trace.split {os : List Oper} {ps : List Nat} {i : Nat} {recs : List Rec} {tmps tmps' : Tr AV} {H H' : AH} {ss : List St} (h : Trace tt nt call ops sz os ps i recs tmps H ss tmps' H') :
    ∀ l1 s l2, ss = l1 ++ s :: l2 → ∃ recs1 tmps1 H1, Before tt nt call ops sz recs tmps H H' l1 s recs1 tmps1 H1 := by
  induction h with
  | nil => intro l1 s l2 h; simp at h
  | @cons o os p ps i recs recs1 tmps tmps1 tmps2 H H1 H2 s ss st ho hp hi ht hk hn hrec hl rest ih =>
    intro l1 s' l2 h
    cases l1 with
    | nil =>
      simp only [List.nil_append, List.cons.injEq] at h
      obtain ⟨rfl, rfl⟩ := h
      refine ⟨recs, tmps, H, st, fun _ => rfl, fun _ => rfl, Nat.le_refl _, ?_, fun r => by simp, fun q hq => by simp at hq⟩
      rw [← hn]; exact rest.end_.2.2.le
    | cons s0 l1 =>
      simp only [List.cons_append, List.cons.injEq] at h
      obtain ⟨rfl, rfl⟩ := h
      obtain ⟨r1, t1, K1, b⟩ := ih l1 s' l2 rfl
      refine ⟨r1, t1, K1, b.st, ?_, ?_, Nat.le_trans hl.le b.lo, b.hi, ?_, ?_⟩
      · intro t; rw [b.tm t, ht t]; simp [LW]
      · intro id; rw [b.hp id, hk id]; simp [LW]
      · intro r
        rw [b.recs r, hrec r]
        constructor
        · rintro (⟨q, hq, h1, h2⟩ | ⟨h1, h2⟩ | h1)
          · exact .inl ⟨q, by simp [hq], h1, h2⟩
          · exact .inl ⟨s, by simp, h1, h2⟩
          · exact .inr h1
        · rintro (⟨q, hq, h1, h2⟩ | h1)
          · rcases List.mem_cons.1 hq with rfl | hq
            · exact .inr (.inl ⟨h1, h2⟩)
            · exact .inl ⟨q, hq, h1, h2⟩
          · exact .inr (.inr h1)
      · intro q hq
        rcases List.mem_cons.1 hq with rfl | hq
        · rw [← hn, b.st.lo]; exact b.lo
        · exact b.lows q hq

end
end Go.VM

/- Regions that draw their order: any order does what the text's does. -/
namespace Go.VM
open Go

theorem testBit_fold {acc : List Nat} {b : Nat} : ∀ (es : List Edge) (s : Nat),
    Nat.testBit (es.foldl (fun s e => cond (Region.binds .any e) (s ||| 2 ^ e.on ||| (acc.getD e.on 0)) s) s) b = true →
    Nat.testBit s b = true ∨ ∃ e ∈ es, Region.binds .any e = true ∧ (b = e.on ∨ Nat.testBit (acc.getD e.on 0) b = true) := by
  intro es
  induction es with
  | nil => intro s h; exact .inl h
  | cons e es ih =>
    intro s h
    rw [List.foldl_cons] at h
    rcases ih _ h with h1 | ⟨e', h1, h2, h3⟩
    · cases hb : Region.binds .any e with
      | false => rw [hb] at h1; exact .inl h1
      | true =>
        rw [hb, cond_true, Nat.testBit_or, Nat.testBit_or, Bool.or_eq_true, Bool.or_eq_true] at h1
        rcases h1 with (h1 | h1) | h1
        · exact .inl h1
        · rw [Nat.testBit_two_pow] at h1
          exact .inr ⟨e, by simp, hb, .inl (by simpa using (of_decide_eq_true h1).symm)⟩
        · exact .inr ⟨e, by simp, hb, .inr h1⟩
    · exact .inr ⟨e', by simp [h1], h2, h3⟩

theorem predOf_spec {acc : List Nat} {o : Oper} {b : Nat} (h : Nat.testBit (predOf acc o) b = true) :
    ∃ e ∈ o.after.toList, Region.binds .any e = true ∧ (b = e.on ∨ Nat.testBit (acc.getD e.on 0) b = true) := by
  unfold predOf at h
  rcases testBit_fold _ _ h with h1 | h1
  · simp at h1
  · exact h1

theorem predsOf_spec : ∀ (os : List Oper) (acc : List Nat), ∃ more, predsOf os acc = acc ++ more ∧ ∀ (k : Nat) (o : Oper) (p : Nat), os[k]? = some o → more[k]? = some p →
    ∀ b, Nat.testBit p b = true → ∃ e ∈ o.after.toList, Region.binds .any e = true ∧ (b = e.on ∨ ∃ q, (predsOf os acc)[e.on]? = some q ∧ Nat.testBit q b = true) := by
  intro os
  induction os with
  | nil => intro acc; exact ⟨[], by simp [predsOf], by simp⟩
  | cons o os ih =>
    intro acc
    obtain ⟨more, h1, h2⟩ := ih (acc ++ [predOf acc o])
    refine ⟨predOf acc o :: more, by simp only [predsOf]; rw [h1]; simp, ?_⟩
    intro k o' p ho hp b hb
    cases k with
    | zero =>
      simp only [List.getElem?_cons_zero, Option.some.injEq] at ho hp
      subst ho; subst hp
      obtain ⟨e, he, hbd, h3⟩ := predOf_spec hb
      refine ⟨e, he, hbd, ?_⟩
      rcases h3 with h3 | h3
      · exact .inl h3
      · right
        rcases Nat.lt_or_ge e.on acc.length with hlt | hge
        · refine ⟨acc.getD e.on 0, ?_, h3⟩
          simp only [predsOf]
          rw [h1, List.append_assoc, List.getElem?_append_left hlt, List.getElem?_eq_getElem hlt]
          simp [List.getD_eq_getElem?_getD, hlt]
        · rw [List.getD_eq_getElem?_getD, List.getElem?_eq_none hge] at h3
          simp at h3
    | succ k =>
      simp only [List.getElem?_cons_succ] at ho hp
      simp only [predsOf]
      exact h2 k o' p ho hp b hb

structure Ap (ops : Array Oper) (x y : Oper) : Prop where
  d : ∀ d e, x.dst = some d → y.dst = some e → d ≠ e
  xy : ∀ d, x.dst = some d → d ∉ looksL ops y
  yx : ∀ d, y.dst = some d → d ∉ looksL ops x

theorem apartL_spec {ops : Array Oper} {o : Oper} {p : Nat} : ∀ {acc : List (Oper × Nat)}, apartL ops o p acc = true → ∀ q ∈ acc, Nat.testBit p q.2 = false → Ap ops o q.1 := by
  intro acc
  induction acc with
  | nil => simp
  | cons q qs ih =>
    intro h r hr hb
    unfold apartL at h
    obtain ⟨h1, h2⟩ : (Nat.testBit p q.2 || (dstApart o q.1 && dstUnseen ops o q.1 && dstUnseen ops q.1 o)) = true ∧ apartL ops o p qs = true := by
      cases hc : (Nat.testBit p q.2 || (dstApart o q.1 && dstUnseen ops o q.1 && dstUnseen ops q.1 o)) with
      | true => rw [hc] at h; exact ⟨rfl, h⟩
      | false => rw [hc] at h; cases h
    rcases List.mem_cons.1 hr with rfl | hr
    · rw [hb, Bool.false_or, Bool.and_eq_true, Bool.and_eq_true] at h1
      obtain ⟨⟨h3, h4⟩, h5⟩ := h1
      refine ⟨?_, ?_, ?_⟩
      · intro d e hd he
        unfold dstApart at h3
        rw [hd, he] at h3
        intro hc; subst hc
        simp at h3
      · intro d hd
        unfold dstUnseen at h4
        rw [hd] at h4
        exact memN_not.1 h4
      · intro d hd
        unfold dstUnseen at h5
        rw [hd] at h5
        exact memN_not.1 h5
    · exact ih h2 r hr hb

theorem backL_spec {i : Nat} : ∀ {es : List Edge}, backL i es = true → ∀ e ∈ es, Region.binds .any e = true → e.on < i := by
  intro es
  induction es with
  | nil => simp
  | cons e es ih =>
    intro h e' he' hb
    unfold backL at h
    cases hc : (!Region.binds .any e || Nat.blt e.on i) with
    | false => rw [hc] at h; cases h
    | true =>
      rw [hc] at h
      rcases List.mem_cons.1 he' with rfl | he'
      · rw [hb] at hc; exact blt_iff.1 (by simpa using hc)
      · exact ih h e' he' hb

theorem apartAll_spec {ops : Array Oper} : ∀ (os : List Oper) (ps : List Nat) (i : Nat) (acc : List (Oper × Nat)), apartAll ops os ps i acc = true → ∀ (k : Nat) (o : Oper) (p : Nat), os[k]? = some o → ps[k]? = some p →
    (∀ e ∈ o.after.toList, Region.binds .any e = true → e.on < i + k) ∧ (∀ q ∈ acc, Nat.testBit p q.2 = false → Ap ops o q.1) ∧
    ∀ (j : Nat) (o' : Oper), j < k → os[j]? = some o' → Nat.testBit p (i + j) = false → Ap ops o o' := by
  intro os
  induction os with
  | nil => intro ps i acc _ k o p ho; simp at ho
  | cons x os ih =>
    intro ps i acc h k o p ho hp
    cases ps with
    | nil => simp at hp
    | cons y ps =>
    simp only [apartAll] at h
    cases hc : (backL i x.after.toList && apartL ops x y acc) with
    | false => rw [hc] at h; cases h
    | true =>
    rw [hc, cond_true] at h
    rw [Bool.and_eq_true] at hc
    cases k with
    | zero =>
      simp only [List.getElem?_cons_zero, Option.some.injEq] at ho hp
      subst ho; subst hp
      exact ⟨backL_spec hc.1, apartL_spec hc.2, fun j _ hj => by omega⟩
    | succ k =>
      simp only [List.getElem?_cons_succ] at ho hp
      obtain ⟨h1, h2, h3⟩ := ih ps (i + 1) _ h k o p ho hp
      refine ⟨fun e he hb => by have := h1 e he hb; omega, fun q hq hb => h2 q (by simp [hq]) hb, ?_⟩
      intro j o' hj ho' hb
      cases j with
      | zero =>
        simp only [List.getElem?_cons_zero, Option.some.injEq] at ho'
        subst ho'
        exact h2 (x, i) (by simp) hb
      | succ j =>
        simp only [List.getElem?_cons_succ] at ho'
        exact h3 j o' (by omega) ho' (by rw [show i + 1 + j = i + (j + 1) by omega]; exact hb)

theorem LW_add {β : Type} {wr : St → Option β} {S S' : Nat → Bool} {l1 l2 : List St} {s : St} (x : β) (h1 : ∀ q ∈ l1, S' q.idx = S q.idx) (h2 : ∀ q ∈ l2, S' q.idx = S q.idx) (hs : S' s.idx = true)
    (hn : S s.idx = false) (hc : ∀ q ∈ l2, S q.idx = true → wr s ≠ none → wr q = none) : LW wr (l1 ++ s :: l2) S' x = (wr s).getD (LW wr (l1 ++ s :: l2) S x) := by
  rw [LW_append, LW_append, LW_congr (S := S') (S' := S) l1 x (fun q hq _ => h1 q hq)]
  simp only [LW, hs, hn, if_true, Bool.false_eq_true, if_false]
  rw [LW_congr (S := S') (S' := S) l2 _ (fun q hq _ => h2 q hq)]
  cases hw : wr s with
  | none => rfl
  | some z =>
    rw [LW_skip l2 _ (fun q hq hS => hc q hq hS (by rw [hw]; simp))]
    rfl

/-- A change within a stretch of numbers. -/
theorem Post.trans_in {σ σ1 σ2 : Sg} {F F1 F2 : Fz} {g g1 g2 : Nat → Option AO} {w w1 w2 : World} {a b c d : Nat}
    (h : Post σ F g w a b σ1 F1 g1 w1) (h' : Post σ1 F1 g1 w1 c d σ2 F2 g2 w2) (hc : a ≤ c) (hd : d ≤ b) : Post σ F g w a b σ2 F2 g2 w2 := by
  refine ⟨h.sub.trans h'.sub, h.fsub.trans h'.fsub, h'.hr, Nat.le_trans h.size h'.size, ?_, ?_, ?_, ?_, h'.os.trans h.os, h'.out.trans h.out, h'.tape.trans h.tape, h.le⟩
  · intro bl hb hn
    rw [h'.frame bl (Nat.lt_of_lt_of_le hb h.size), h.frame bl hb hn]
    intro i o cc hi hs
    obtain ⟨j, c', o', hj, hsj⟩ := h.old i bl cc o hi hs hb
    exact hn j o' c' hj hsj
  · intro i x hx
    rcases h'.rng i x hx with h1 | h1
    · exact h.rng i x h1
    · exact .inr ⟨by omega, by omega⟩
  · intro i bl cc o hi hs hb
    obtain ⟨j, c', o', hj, hsj⟩ := h'.old i bl cc o hi hs (Nat.lt_of_lt_of_le hb h.size)
    exact h.old j bl c' o' hj hsj hb
  · intro bl cc hF
    rcases h'.fold bl cc hF with h1 | h1 | ⟨j, c', o', hj, hsj⟩
    · exact h.fold bl cc h1
    · exact .inr (.inl (Nat.le_trans h.size h1))
    · rcases Nat.lt_or_ge bl w.heap.size with hlt | hge
      · exact .inr (.inr (h.old j bl c' o' hj hsj hlt))
      · exact .inr (.inl hge)

theorem Post.refl_in {σ : Sg} {F : Fz} {g : Nat → Option AO} {w : World} (h : HR σ F g w) {a b : Nat} (hab : a ≤ b) : Post σ F g w a b σ F g w :=
  ⟨.refl _, .refl _, h, Nat.le_refl _, fun _ _ _ => rfl, fun _ _ h => .inl h, fun i b c o h1 h2 _ => ⟨i, c, o, h1, h2⟩, fun _ _ h => .inl h, rfl, rfl, rfl, hab⟩

/-- What is asked of a textual run. -/
structure Drawn (tt : TT) (nt : NT) (call : CallF) (ops : Array Oper) (sz : Nat) (tmps0 tmps' : Tr AV) (H0 H' : AH) (ss : List St) : Prop where
  tr : ∃ ps, Trace tt nt call ops sz ops.toList ps 0 [] tmps0 H0 ss tmps' H'
  len : ss.length = ops.size
  idx : ∀ (k : Nat) (s : St), ss[k]? = some s → s.idx = k ∧ ops[k]? = some s.o
  ap : ∀ (j k : Nat) (q s : St), ss[j]? = some q → ss[k]? = some s → j < k → Nat.testBit s.p j = false → Ap ops s.o q.o
  back : ∀ (k : Nat) (s : St), ss[k]? = some s → ∀ e ∈ s.o.after.toList, Region.binds .any e = true → e.on < k
  pr : ∀ (k : Nat) (s : St), ss[k]? = some s → ∀ b, Nat.testBit s.p b = true → ∃ e ∈ s.o.after.toList, Region.binds .any e = true ∧ (b = e.on ∨ ∃ q, ss[e.on]? = some q ∧ Nat.testBit q.p b = true)

theorem drawn_of {tt : TT} {nt : NT} {call : CallF} (hcall : CallLog call) {ops : Array Oper} {sz : Nat} (hsz : sz ≤ 1000000) {tmps tmps' : Tr AV} {H H' : AH}
    (h : drawA tt nt call ops sz ops.toList (predsOf ops.toList []) 0 [] tmps H = some (tmps', H')) (ha : apartAll ops ops.toList (predsOf ops.toList []) 0 [] = true) :
    ∃ ss, Drawn tt nt call ops sz tmps tmps' H H' ss := by
  obtain ⟨ss, hss⟩ := drawA_trace hcall hsz _ _ _ _ _ _ _ _ (by simp) h
  obtain ⟨hlen, hat⟩ := hss.at_
  obtain ⟨more, hm1, hm2⟩ := predsOf_spec ops.toList []
  simp only [List.nil_append] at hm1
  rw [hm1] at hm2 hat ha hss
  refine ⟨ss, ⟨_, hss⟩, by simpa using hlen, ?_, ?_, ?_, ?_⟩
  · intro k s hs
    obtain ⟨h1, h2, _⟩ := hat k s hs
    exact ⟨by omega, by simpa using h2⟩
  · intro j k q s hq hs hjk hb
    obtain ⟨h1, h2, h3⟩ := hat k s hs
    obtain ⟨_, h5, _⟩ := hat j q hq
    obtain ⟨_, _, h6⟩ := apartAll_spec _ _ _ _ ha k _ _ h2 h3
    exact h6 j _ hjk h5 (by simpa using hb)
  · intro k s hs e he hb
    obtain ⟨h1, h2, h3⟩ := hat k s hs
    have := (apartAll_spec _ _ _ _ ha k _ _ h2 h3).1 e he hb
    omega
  · intro k s hs b hb
    obtain ⟨h1, h2, h3⟩ := hat k s hs
    obtain ⟨e, he, hbd, h4⟩ := hm2 k _ _ h2 h3 b hb
    refine ⟨e, he, hbd, ?_⟩
    rcases h4 with h4 | ⟨p, hp, h4⟩
    · exact .inl h4
    · right
      have hlt := (apartAll_spec _ _ _ _ ha k _ _ h2 h3).1 e he hbd
      have hk : k < ss.length := (List.getElem?_eq_some_iff.1 hs).1
      have hlt' : e.on < ss.length := by omega
      refine ⟨ss[e.on], List.getElem?_eq_getElem hlt', ?_⟩
      have := (hat e.on _ (List.getElem?_eq_getElem hlt')).2.2
      rw [hp] at this
      cases this
      exact h4

structure FRf (σ : Sg) (F : Fz) (sz : Nat) (g : Nat → Option AV) (a : Act) : Prop where
  size : a.tmps.size = sz
  le : sz ≤ 1000000
  lt : ∀ t v, g t = some v → t < sz
  val : ∀ t v, g t = some v → VRel σ F v (a.tmps.getD t undef)

theorem FRf.put {σ : Sg} {F : Fz} {sz : Nat} {g g' : Nat → Option AV} {a : Act} (hf : FRf σ F sz g a) {dst : Option Tmp} {v : AV} {cv : Value} (hd : ∀ d, dst = some d → d < sz) (hv : VRel σ F v cv)
    (hg : ∀ t, g' t = if dst = some t then some v else g t) : FRf σ F sz g' (a.put dst cv) := by
  cases dst with
  | none =>
    refine ⟨hf.size, hf.le, ?_, ?_⟩
    · intro t u ht; rw [hg t] at ht; exact hf.lt t u (by simpa using ht)
    · intro t u ht; rw [hg t] at ht; exact hf.val t u (by simpa using ht)
  | some d =>
    have hd := hd d rfl
    have hd2 : d < a.tmps.size := by rw [hf.size]; exact hd
    refine ⟨by simpa [Act.put] using hf.size, hf.le, ?_, ?_⟩
    · intro t u ht
      rw [hg t] at ht
      split at ht
      · rename_i e; cases e; exact hd
      · exact hf.lt t u ht
    · intro t u ht
      rw [hg t] at ht
      split at ht
      · rename_i e
        cases e
        simp only [Option.some.injEq] at ht; subst ht
        simpa [Act.put, Array.getD, hd2] using hv
      · rename_i hne
        have e1 : (a.put (some d) cv).tmps.getD t undef = a.tmps.getD t undef := by
          simp only [Act.put, Array.getD_eq_getD_getElem?]
          rw [Array.getElem?_setIfInBounds_ne (fun e => hne (by rw [e]))]
        rw [e1]; exact hf.val t u ht

theorem FRf.mono {σ σ' : Sg} {F F' : Fz} {sz : Nat} {g : Nat → Option AV} {a : Act} (h : FRf σ F sz g a) (hs : Sub σ σ') (hf : Sub F F') : FRf σ' F' sz g a :=
  ⟨h.size, h.le, h.lt, fun t v ht => (h.val t v ht).mono hs hf⟩

section
variable {P : Program} {tt : TT} {nt : NT} {call : CallF} {ops : Array Oper} {sz : Nat} {tmps0 tmps' : Tr AV} {H0 H' : AH} {ss : List St} {σ0 : Sg} {F0 : Fz} {w0 : World}

/-- Where the run stands when the operations of 'S' are done. -/
structure Mid (tmps0 : Tr AV) (H0 H' : AH) (ss : List St) (σ0 : Sg) (F0 : Fz) (w0 : World) (sz : Nat) (df : List Deferred) (S : Nat → Bool) (a : Act) (w : World) (σ : Sg) (F : Fz) : Prop where
  clo : ∀ s ∈ ss, S s.idx = true → ∀ b, Nat.testBit s.p b = true → S b = true
  fr : FRf σ F sz (fun t => LW (wT t) ss S (tmps0.get t)) a
  df : a.defers = df
  post : Post σ0 F0 H0.get w0 H0.next H'.next σ F (fun id => LW (wK id) ss S (H0.get id)) w
  dom : ∀ k x, σ k = some x → σ0 k = some x ∨ ∃ s ∈ ss, S s.idx = true ∧ s.lo ≤ k ∧ k < s.hi

theorem Drawn.split (hd : Drawn tt nt call ops sz tmps0 tmps' H0 H' ss) {i : Nat} (hi : i < ops.size) : ∃ l1 s l2, ss = l1 ++ s :: l2 ∧ l1.length = i ∧ s.idx = i ∧ ops[i]? = some s.o ∧
    (∀ q ∈ l1, q.idx < i) ∧ (∀ q ∈ l2, i < q.idx) := by
  have hlt : i < ss.length := by rw [hd.len]; exact hi
  have hs : ss = ss.take i ++ ss[i] :: ss.drop (i + 1) := by
    rw [← List.drop_eq_getElem_cons hlt, List.take_append_drop]
  have h1 := hd.idx i _ (List.getElem?_eq_getElem hlt)
  refine ⟨ss.take i, ss[i], ss.drop (i + 1), hs, by simp; omega, h1.1, h1.2, ?_, ?_⟩
  · intro q hq
    obtain ⟨k, hk⟩ := List.getElem?_of_mem hq
    have hk2 : k < i := by
      have := (List.getElem?_eq_some_iff.1 hk).1
      simp at this; omega
    rw [List.getElem?_take, if_pos hk2] at hk
    have := (hd.idx k q hk).1
    omega
  · intro q hq
    obtain ⟨k, hk⟩ := List.getElem?_of_mem hq
    rw [List.getElem?_drop] at hk
    have := (hd.idx _ q hk).1
    omega

/-- The facts about one operation, when its turn has come. -/
theorem Drawn.pairs (hd : Drawn tt nt call ops sz tmps0 tmps' H0 H' ss) {q s : St} (hq : q ∈ ss) (hs : s ∈ ss) (hlt : q.idx < s.idx) (hb : Nat.testBit s.p q.idx = false) : Ap ops s.o q.o := by
  obtain ⟨j, hj⟩ := List.getElem?_of_mem hq
  obtain ⟨k, hk⟩ := List.getElem?_of_mem hs
  have h1 := (hd.idx j q hj).1
  have h2 := (hd.idx k s hk).1
  rw [h1, h2] at hlt
  exact hd.ap j k q s hj hk hlt (by rw [← h1]; exact hb)

theorem Drawn.before (hd : Drawn tt nt call ops sz tmps0 tmps' H0 H' ss) {s : St} (hs : s ∈ ss) : ∃ l1 l2 recs1 tmps1 H1, ss = l1 ++ s :: l2 ∧ Before tt nt call ops sz [] tmps0 H0 H' l1 s recs1 tmps1 H1 := by
  obtain ⟨l1, l2, rfl⟩ := List.append_of_mem hs
  obtain ⟨ps, tr⟩ := hd.tr
  obtain ⟨r1, t1, K1, b⟩ := tr.split l1 s l2 rfl
  exact ⟨l1, l2, r1, t1, K1, rfl, b⟩

theorem Drawn.clash (hd : Drawn tt nt call ops sz tmps0 tmps' H0 H' ss) {q s : St} (hq : q ∈ ss) (hs : s ∈ ss) (hlt : q.idx < s.idx) (hb : Nat.testBit s.p q.idx = false) (h1 : q.ran = true) (h2 : s.ran = true) :
    Clash q.rcd s ∧ q.hi ≤ s.lo := by
  obtain ⟨l1, l2, r1, t1, K1, he, b⟩ := hd.before hs
  have hq1 : q ∈ l1 := by
    have hsi : s.idx < ops.size := by
      obtain ⟨k, hk⟩ := List.getElem?_of_mem hs
      have := (hd.idx k s hk).1
      have := (List.getElem?_eq_some_iff.1 hk).1
      rw [hd.len] at this; omega
    have e : ss[l1.length]? = some s := by rw [he]; simp
    have e1 := (hd.idx _ _ e).1
    obtain ⟨j, hj⟩ := List.getElem?_of_mem hq
    have e2 := (hd.idx _ _ hj).1
    have : j < l1.length := by omega
    rw [he, List.getElem?_append_left this] at hj
    exact List.mem_of_getElem? hj
  refine ⟨(b.st.run h2).clash q.rcd ((b.recs _).2 (.inl ⟨q, hq1, h1, rfl⟩)) ?_, b.lows q hq1⟩
  show (!Nat.testBit s.p q.rcd.idx) = true
  rw [show q.rcd.idx = q.idx from rfl, hb]; rfl

theorem Drawn.lows (hd : Drawn tt nt call ops sz tmps0 tmps' H0 H' ss) {q s : St} (hq : q ∈ ss) (hs : s ∈ ss) (hlt : q.idx < s.idx) : q.hi ≤ s.lo := by
  obtain ⟨l1, l2, r1, t1, K1, he, b⟩ := hd.before hs
  have hq1 : q ∈ l1 := by
    have e : ss[l1.length]? = some s := by rw [he]; simp
    have e1 := (hd.idx _ _ e).1
    obtain ⟨j, hj⟩ := List.getElem?_of_mem hq
    have e2 := (hd.idx _ _ hj).1
    have : j < l1.length := by omega
    rw [he, List.getElem?_append_left this] at hj
    exact List.mem_of_getElem? hj
  exact b.lows q hq1

end
end Go.VM

/- Regions that draw their order: the step, and the whole. -/
namespace Go.VM
open Go

section
variable {P : Program} {tt : TT} {nt : NT} {call : CallF} {ops : Array Oper} {sz : Nat} {tmps0 tmps' : Tr AV} {H0 H' : AH} {ss : List St} {σ0 : Sg} {F0 : Fz} {w0 : World}

theorem setOn_ne {listed : Array Bool} {i j : Nat} (h : i ≠ j) : (listed.setIfInBounds i true).getD j true = listed.getD j true := getD_set_ne true h

theorem setOn_same {listed : Array Bool} {i : Nat} : (listed.setIfInBounds i true).getD i true = true := by
  simp only [Array.getD_eq_getD_getElem?]
  rcases Nat.lt_or_ge i listed.size with h | h
  · simp [h]
  · rw [Array.getElem?_eq_none (by simpa using h)]; rfl

theorem step_ok (htt : TTok P tt) (hnt : NTok P nt) (hcall : CallOk P call) (hd : Drawn tt nt call ops sz tmps0 tmps' H0 H' ss) (hr0 : HR σ0 F0 H0.get w0) (hfr0 : ∀ i, H0.next ≤ i → i < H'.next → σ0 i = none)
    {df : List Deferred} {listed : Array Bool} {a : Act} {w : World} {σ : Sg} {F : Fz} (hm : Mid tmps0 H0 H' ss σ0 F0 w0 sz df (fun j => listed.getD j true) a w σ F) {i : Nat} (hi : i ∈ Region.ready .any ops listed)
    {r : Option Nat} {Q : Exit → Act → World → Prop} {K : Act → World → Prop}
    (hk : ∀ a' w' σ' F', Mid tmps0 H0 H' ss σ0 F0 w0 sz df (fun j => (listed.setIfInBounds i true).getD j true) a' w' σ' F' → K a' w') : wpOpIn (fence r) 0 P ops Q i K a w := by
  obtain ⟨hun, o, ho, hpre⟩ := mem_ready.1 hi
  have hlt : i < ops.size := (Array.getElem?_eq_some_iff.1 ho).1
  obtain ⟨l1, s, l2, hss, hl1, hidx, hos, hL1, hL2⟩ := hd.split hlt
  have hsm : s ∈ ss := by rw [hss]; simp
  rw [ho] at hos
  simp only [Option.some.injEq] at hos
  subst hos
  have hon : ∀ (j : Nat), listed.getD j false = true → listed.getD j true = true := fun j hj => by
    simp only [Array.getD_eq_getD_getElem?] at hj ⊢
    cases h : listed[j]? with
    | none => rfl
    | some b => rw [h] at hj; simpa using hj
  -- what stands before it is done
  have hpred : ∀ b, Nat.testBit s.p b = true → listed.getD b true = true := by
    intro b hb
    have hsk : ss[i]? = some s := by rw [hss, ← hl1]; simp
    obtain ⟨e, he, hbd, h1⟩ := hd.pr i s hsk b hb
    have hev := hpre e (by simpa using he) hbd
    rcases h1 with rfl | ⟨q, hq, h1⟩
    · exact hon _ hev
    · have hqi := (hd.idx _ _ hq).1
      exact hm.clo q (List.mem_of_getElem? hq) (by show listed.getD q.idx true = true; rw [hqi]; exact hon _ hev) b h1
  have hnS : listed.getD s.idx true = false := by rw [hidx]; exact hun
  -- the later ones that are done are not ordered behind it
  have hlater : ∀ q ∈ l2, listed.getD q.idx true = true → Nat.testBit q.p s.idx = false := by
    intro q hq hS
    cases hb : Nat.testBit q.p s.idx with
    | false => rfl
    | true =>
      have := hm.clo q (by rw [hss]; simp [hq]) hS _ hb
      rw [hnS] at this; cases this
  have hl2m : ∀ q ∈ l2, q ∈ ss := fun q hq => by rw [hss]; simp [hq]
  have hl1m : ∀ q ∈ l1, q ∈ ss := fun q hq => by rw [hss]; simp [hq]
  have hlt2 : ∀ q ∈ l2, s.idx < q.idx := fun q hq => by rw [hidx]; exact hL2 q hq
  have hlt1 : ∀ q ∈ l1, q.idx < s.idx := fun q hq => by rw [hidx]; exact hL1 q hq
  obtain ⟨ps, tr⟩ := hd.tr
  obtain ⟨recs1, tmps1, H1, hb⟩ := tr.split l1 s l2 hss
  have hst := hb.st
  -- the temporaries that it looks at
  have htm : ∀ t v, s.tm.get t = some v → LW (wT t) ss (fun j => listed.getD j true) (tmps0.get t) = some v := by
    intro t v ht
    rw [hst.tm] at ht
    obtain ⟨hlook, ht1⟩ := onlyT_get ht
    rw [← ht1, hb.tm t, hss, LW_append]
    rw [LW_skip (wr := wT t) (S := fun j => listed.getD j true) (s :: l2)]
    · refine LW_congr l1 _ ?_
      intro q hq hw
      show listed.getD q.idx true = true
      cases hbt : Nat.testBit s.p q.idx with
      | true => exact hpred _ hbt
      | false =>
        exfalso
        have hap := hd.pairs (hl1m q hq) hsm (hlt1 q hq) hbt
        unfold wT at hw
        split at hw
        · rename_i hdst
          exact hap.yx t hdst hlook
        · exact hw rfl
    · intro q hq hS
      rcases List.mem_cons.1 hq with rfl | hq
      · rw [hnS] at hS; cases hS
      · have hap := hd.pairs hsm (hl2m q hq) (hlt2 q hq) (hlater q hq hS)
        unfold wT
        rw [if_neg]
        intro hdst
        exact hap.xy t hdst hlook
  have hfr := hm.fr
  have hfrT : FRT σ F sz s.tm a := ⟨hfr.size, hfr.le, fun t v ht => hfr.lt t v (htm t v ht), fun t v ht => hfr.val t v (htm t v ht)⟩
  have hwant := wantA_ok hst.want hfrT
  -- closure, after it
  have hS' : ∀ (j : Nat), j ≠ i → (listed.setIfInBounds i true).getD j true = listed.getD j true := fun j hj => setOn_ne (fun e => hj e.symm)
  have hclo : ∀ q ∈ ss, (listed.setIfInBounds i true).getD q.idx true = true → ∀ b, Nat.testBit q.p b = true → (listed.setIfInBounds i true).getD b true = true := by
    intro q hq hS b hbb
    have key : listed.getD b true = true := by
      by_cases he : q.idx = i
      · have hqs : q = s := by
          obtain ⟨j, hj⟩ := List.getElem?_of_mem hq
          have h1 := (hd.idx j q hj).1
          have hsk : ss[i]? = some s := by rw [hss, ← hl1]; simp
          rw [show j = i by omega, hsk] at hj
          cases hj; rfl
        subst hqs
        exact hpred b hbb
      · rw [hS' _ he] at hS
        exact hm.clo q hq hS b hbb
    by_cases he : b = i
    · subst he; exact setOn_same
    · rw [hS' _ he]; exact key
  have addT : ∀ t, LW (wT t) ss (fun j => (listed.setIfInBounds i true).getD j true) (tmps0.get t) = (wT t s).getD (LW (wT t) ss (fun j => listed.getD j true) (tmps0.get t)) := by
    intro t
    rw [hss]
    refine LW_add _ (fun q hq => hS' _ (by have := hL1 q hq; omega)) (fun q hq => hS' _ (by have := hL2 q hq; omega)) (by rw [hidx]; exact setOn_same) hnS ?_
    intro q hq hS hw
    have hap := hd.pairs hsm (hl2m q hq) (hlt2 q hq) (hlater q hq hS)
    unfold wT at hw ⊢
    split at hw
    · rename_i h1
      rw [if_neg]
      intro h2
      exact hap.d t t h2 h1 rfl
    · exact absurd rfl hw
  have addK : ∀ id, LW (wK id) ss (fun j => (listed.setIfInBounds i true).getD j true) (H0.get id) = (wK id s).getD (LW (wK id) ss (fun j => listed.getD j true) (H0.get id)) := by
    intro id
    rw [hss]
    refine LW_add _ (fun q hq => hS' _ (by have := hL1 q hq; omega)) (fun q hq => hS' _ (by have := hL2 q hq; omega)) (by rw [hidx]; exact setOn_same) hnS ?_
    intro q hq hS hw
    unfold wK at hw ⊢
    split at hw
    · rename_i h1
      rw [if_neg]
      intro h2
      obtain ⟨l1', l2', r', t', K', he', hb'⟩ := hd.before (hl2m q hq)
      have hqr : q.ran = true := by
        cases hr : q.ran with
        | true => rfl
        | false => rw [(hb'.st.skip hr).2] at h2; cases h2
      have hsr : s.ran = true := by
        cases hr : s.ran with
        | true => rfl
        | false => rw [(hst.skip hr).2] at h1; cases h1
      have hcl := (hd.clash hsm (hl2m q hq) (hlt2 q hq) (hlater q hq hS) hsr hqr).1
      exact hcl.c4 id h2 h1
    · exact absurd rfl hw
  unfold wpOpIn
  simp only [ho]
  rw [hwant]
  cases hran : s.ran with
  | false =>
    simp only [Bool.false_eq_true, if_false]
    obtain ⟨hv, hkeys⟩ := hst.skip hran
    refine ⟨fun _ _ => trivial, hk _ w σ F ⟨hclo, ?_, by rw [put_defers]; exact hm.df, ?_, ?_⟩⟩
    · refine hfr.put hst.dst (v := .tup []) VRel.undef_tup ?_
      intro t
      rw [addT t]
      unfold wT
      rw [hv]
      split <;> rfl
    · have e : (fun id => LW (wK id) ss (fun j => (listed.setIfInBounds i true).getD j true) (H0.get id)) = fun id => LW (wK id) ss (fun j => listed.getD j true) (H0.get id) := by
        funext id
        rw [addK id]
        unfold wK
        rw [hkeys]; simp
      rw [e]; exact hm.post
    · intro k x hx
      rcases hm.dom k x hx with h1 | ⟨q, hq, hS, h1, h2⟩
      · exact .inl h1
      · refine .inr ⟨q, hq, ?_, h1, h2⟩
        show (listed.setIfInBounds i true).getD q.idx true = true
        by_cases he : q.idx = i
        · rw [he]; exact setOn_same
        · rw [hS' _ he]; exact hS
  | true =>
    simp only [if_true]
    have hR := hst.run hran
    -- the part of the heap that it sees
    have hsee : ∀ id ob, s.B.get id = some ob → LW (wK id) ss (fun j => listed.getD j true) (H0.get id) = some ob := by
      intro id ob hob
      have hge : (∀ q ∈ l1, q.ran = true → Nat.testBit s.p q.idx = false → id ∉ q.keys) ∧ (∀ q ∈ l2, listed.getD q.idx true = true → q.ran = true → id ∉ q.keys) ∧ H1.get id = some ob := by
        rw [hR.B] at hob
        have hob : (seeA s.touch H1 s.p recs1).get id = some ob := hob
        unfold seeA at hob
        cases htc : s.touch with
        | some ids =>
          rw [htc] at hob
          obtain ⟨h1, h2⟩ := onlyA_get hob
          refine ⟨?_, ?_, h2⟩
          · intro q hq hqr hbt
            exact (hd.clash (hl1m q hq) hsm (hlt1 q hq) hbt hqr hran).1.c1 ids htc id h1
          · intro q hq hS hqr
            exact (hd.clash hsm (hl2m q hq) (hlt2 q hq) (hlater q hq hS) hran hqr).1.c2 ids htc id h1
        | none =>
          rw [htc] at hob
          obtain ⟨h1, h2⟩ := hideA_get (by
            intro x hx
            obtain ⟨r, hr, _, hxr⟩ := mem_hidden.1 hx
            rcases (hb.recs r).1 hr with ⟨q, hq, hqr, rfl⟩ | hr
            · obtain ⟨l1', l2', r', t', K', he', hb'⟩ := hd.before (hl1m q hq)
              exact ((hb'.st.run hqr).bnd x hxr).2
            · cases hr) hob
          have h2 : H1.get id = some ob := h2
          refine ⟨?_, ?_, h2⟩
          · intro q hq hqr hbt hmem
            refine h1 (mem_hidden.2 ⟨q.rcd, (hb.recs _).2 (.inl ⟨q, hq, hqr, rfl⟩), ?_, hmem⟩)
            show (!Nat.testBit s.p q.idx) = true
            rw [hbt]; rfl
          · intro q hq hS hqr hmem
            have hcl := (hd.clash hsm (hl2m q hq) (hlt2 q hq) (hlater q hq hS) hran hqr).1
            have hqlo : q.lo ≤ id := hcl.c3 htc id hmem
            obtain ⟨l1', l2', r', t', K', he', hb'⟩ := hd.before (hl2m q hq)
            have hqhi : id < q.hi := ((hb'.st.run hqr).bnd id hmem).1
            have hsq : s.hi ≤ q.lo := hd.lows hsm (hl2m q hq) (hlt2 q hq)
            rw [hb.hp id] at h2
            by_cases hex : ∃ q' ∈ l1, id ∈ q'.keys
            · obtain ⟨q', hq', hm'⟩ := hex
              obtain ⟨l1'', l2'', r'', t'', K'', he'', hb''⟩ := hd.before (hl1m q' hq')
              have hq'r : q'.ran = true := by
                cases hr : q'.ran with
                | true => rfl
                | false => rw [(hb''.st.skip hr).2] at hm'; cases hm'
              have h5 := ((hb''.st.run hq'r).bnd id hm').1
              have h6 := hb.lows q' hq'
              have h7 := hst.le
              omega
            · rw [LW_skip l1] at h2
              · obtain ⟨b, c, h3, _⟩ := hr0.obj id ob h2
                have h4 := hb'.hi
                have h5 := hb.lo
                have h6 := hst.lo
                have h7 := hst.le
                rw [hfr0 id (by omega) (by omega)] at h3
                cases h3
              · intro q' hq' _
                unfold wK
                rw [if_neg (fun h => hex ⟨q', hq', h⟩)]
      obtain ⟨g1, g2, g3⟩ := hge
      rw [← g3, hb.hp id, hss, LW_append]
      rw [LW_skip (wr := wK id) (S := fun j => listed.getD j true) (s :: l2)]
      · refine LW_congr l1 _ ?_
        intro q hq hw
        show listed.getD q.idx true = true
        unfold wK at hw
        split at hw
        · rename_i hmem
          obtain ⟨l1', l2', r', t', K', he', hb'⟩ := hd.before (hl1m q hq)
          have hqr : q.ran = true := by
            cases hr : q.ran with
            | true => rfl
            | false => rw [(hb'.st.skip hr).2] at hmem; cases hmem
          cases hbt : Nat.testBit s.p q.idx with
          | true => exact hpred _ hbt
          | false => exact absurd hmem (g1 q hq hqr hbt)
        · exact absurd rfl hw
      · intro q hq hS
        rcases List.mem_cons.1 hq with rfl | hq
        · rw [hnS] at hS; cases hS
        · unfold wK
          rw [if_neg]
          intro hmem
          obtain ⟨l1', l2', r', t', K', he', hb'⟩ := hd.before (hl2m q hq)
          have hqr : q.ran = true := by
            cases hr : q.ran with
            | true => rfl
            | false => rw [(hb'.st.skip hr).2] at hmem; cases hmem
          exact g2 q hq hS hqr hmem
    have hBnext : s.B.next = s.lo := by rw [hR.B, hst.lo]
    have hlos : H0.next ≤ s.lo := by rw [hst.lo]; exact hb.lo
    have hfresh : ∀ j, s.B.next ≤ j → j < s.B'.next → σ j = none := by
      intro j hj1 hj2
      rw [hBnext] at hj1
      rw [← hR.hi] at hj2
      cases hx : σ j with
      | none => rfl
      | some x =>
        exfalso
        rcases hm.dom j x hx with h1 | ⟨q, hq, hS, h1, h2⟩
        · rw [hfr0 j (by omega) (by have := hb.hi; omega)] at h1
          cases h1
        · rw [hss] at hq
          rcases List.mem_append.1 hq with hq | hq
          · have := hb.lows q hq; omega
          · rcases List.mem_cons.1 hq with rfl | hq
            · rw [hnS] at hS; cases hS
            · have := hd.lows hsm (hl2m q hq) (hlt2 q hq); omega
    have hK := hm.post.hr
    refine doOp_ok (r := r) htt hnt hcall hR.run hfrT.val (hK.less hsee) hfresh ?_
    intro cv w' σ' F' hv hp
    have hlog := doOp_log hcall.log hR.run
    have hmerge := Post.merge (S := fun k => k ∈ s.keys) hK hsee hp (by
      intro j hj
      exact hlog.log j (by rw [← hR.keys]; exact hj))
    have e : (fun id => LW (wK id) ss (fun j => (listed.setIfInBounds i true).getD j true) (H0.get id)) = fun id => if id ∈ s.keys then s.B'.get id else LW (wK id) ss (fun j => listed.getD j true) (H0.get id) := by
      funext id
      rw [addK id]
      unfold wK
      split <;> rfl
    refine hk _ w' σ' F' ⟨hclo, ?_, by rw [put_defers]; exact hm.df, ?_, ?_⟩
    · refine (hfr.mono hp.sub hp.fsub).put hst.dst (v := s.v) hv ?_
      intro t
      rw [addT t]
      unfold wT
      split <;> rfl
    · rw [e]
      exact hm.post.trans_in hmerge (by rw [hBnext]; exact hlos) (by rw [← hR.hi]; exact hb.hi)
    · intro k x hx
      rcases hp.rng k x hx with h1 | ⟨h1, h2⟩
      · rcases hm.dom k x h1 with h1 | ⟨q, hq, hS, h1, h2⟩
        · exact .inl h1
        · refine .inr ⟨q, hq, ?_, h1, h2⟩
          show (listed.setIfInBounds i true).getD q.idx true = true
          by_cases he : q.idx = i
          · rw [he]; exact setOn_same
          · rw [hS' _ he]; exact hS
      · refine .inr ⟨s, hsm, ?_, by rw [← hBnext]; exact h1, by rw [hR.hi]; exact h2⟩
        show (listed.setIfInBounds i true).getD s.idx true = true
        rw [hidx]; exact setOn_same

theorem ready_all (hd : Drawn tt nt call ops sz tmps0 tmps' H0 H' ss) {listed : Array Bool} (hsz : listed.size = ops.size) (h : Region.ready .any ops listed = []) : ∀ i, i < ops.size → listed.getD i true = true := by
  intro i
  induction i using Nat.strongRecOn with
  | ind i ih =>
    intro hi
    cases hc : listed.getD i true with
    | true => rfl
    | false =>
      exfalso
      have hlt : i < ss.length := by rw [hd.len]; exact hi
      have hs := List.getElem?_eq_getElem hlt
      have ho := (hd.idx i _ hs).2
      have : i ∈ Region.ready .any ops listed := by
        refine mem_ready.2 ⟨hc, _, ho, ?_⟩
        intro e he hb
        have hlt2 := hd.back i _ hs e (by simpa using he) hb
        have h3 := ih e.on hlt2 (by omega)
        simp only [Array.getD_eq_getD_getElem?] at h3 ⊢
        have h4 : e.on < listed.size := by omega
        simpa [h4] using h3
      rw [h] at this; cases this

theorem draw_any (htt : TTok P tt) (hnt : NTok P nt) (hcall : CallOk P call) (hd : Drawn tt nt call ops sz tmps0 tmps' H0 H' ss) (hr0 : HR σ0 F0 H0.get w0) (hfr0 : ∀ i, H0.next ≤ i → i < H'.next → σ0 i = none)
    {df : List Deferred} {r : Option Nat} {Q : Exit → Act → World → Prop}
    (hq : ∀ a' w' σ' F', FRT σ' F' sz tmps' a' → a'.defers = df → Post σ0 F0 H0.get w0 H0.next H'.next σ' F' H'.get w' → Q .normal a' w') :
    ∀ (fuel : Nat) (listed : Array Bool) (a : Act) (w : World) (σ : Sg) (F : Fz), listed.size = ops.size → (∃ L : List Nat, L.length ≤ fuel ∧ ∀ i, i < ops.size → listed.getD i true = false → i ∈ L) →
      Mid tmps0 H0 H' ss σ0 F0 w0 sz df (fun j => listed.getD j true) a w σ F → wpAnyIn (fence r) 0 P .any ops Q fuel listed a w := by
  have fin : ∀ (listed : Array Bool) (a : Act) (w : World) (σ : Sg) (F : Fz), (∀ i, i < ops.size → listed.getD i true = true) →
      Mid tmps0 H0 H' ss σ0 F0 w0 sz df (fun j => listed.getD j true) a w σ F → Q .normal a w := by
    intro listed a w σ F hall hm
    obtain ⟨ps, tr⟩ := hd.tr
    obtain ⟨e1, e2, _⟩ := tr.end_
    have hin : ∀ q ∈ ss, listed.getD q.idx true = true := by
      intro q hq
      obtain ⟨j, hj⟩ := List.getElem?_of_mem hq
      have h1 := (hd.idx j q hj).1
      have h2 := (List.getElem?_eq_some_iff.1 hj).1
      rw [hd.len] at h2
      exact hall _ (by omega)
    have hf : (fun t => LW (wT t) ss (fun j => listed.getD j true) (tmps0.get t)) = tmps'.get := by
      funext t
      rw [e1 t]
      exact LW_congr ss _ (fun q hq _ => hin q hq)
    have hg : (fun id => LW (wK id) ss (fun j => listed.getD j true) (H0.get id)) = H'.get := by
      funext id
      rw [e2 id]
      exact LW_congr ss _ (fun q hq _ => hin q hq)
    have h1 := hm.fr
    have h2 := hm.post
    rw [hf] at h1
    rw [hg] at h2
    exact hq a w σ F ⟨h1.size, h1.le, h1.lt, h1.val⟩ hm.df h2
  intro fuel
  induction fuel with
  | zero =>
    rintro listed a w σ F hsz ⟨L, hL, hL2⟩ hm
    have hall : ∀ i, i < ops.size → listed.getD i true = true := by
      intro i hi
      cases hc : listed.getD i true with
      | true => rfl
      | false =>
        have := hL2 i hi hc
        have : L = [] := List.length_eq_zero_iff.1 (by omega)
        subst this; simp at *
    refine ⟨?_, fin listed a w σ F hall hm⟩
    cases hrd : Region.ready .any ops listed with
    | nil => rfl
    | cons i is =>
      have hi : i ∈ Region.ready .any ops listed := by rw [hrd]; simp
      obtain ⟨h1, o, h2, _⟩ := mem_ready.1 hi
      rw [hall i (Array.getElem?_eq_some_iff.1 h2).1] at h1
      cases h1
  | succ fuel ih =>
    rintro listed a w σ F hsz ⟨L, hL, hL2⟩ hm
    refine ⟨fun h => fin listed a w σ F (ready_all hd hsz h) hm, ?_⟩
    intro i hi
    refine step_ok htt hnt hcall hd hr0 hfr0 hm hi ?_
    intro a' w' σ' F' hm'
    refine ih _ a' w' σ' F' (by simpa using hsz) ⟨L.erase i, ?_, ?_⟩ hm'
    · obtain ⟨h1, o, h2, _⟩ := mem_ready.1 hi
      have := hL2 i (Array.getElem?_eq_some_iff.1 h2).1 h1
      rw [List.length_erase_of_mem this]
      omega
    · intro j hj hc
      by_cases he : j = i
      · subst he; rw [setOn_same] at hc; cases hc
      · rw [setOn_ne (fun e => he e.symm)] at hc
        exact (List.mem_erase_of_ne he).2 (hL2 j hj hc)

/-- A region that draws its order. -/
theorem drawA_ok (hmx : P.follows .mixedOrders = true) (htt : TTok P tt) (hnt : NTok P nt) (hcall : CallOk P call) {tmps : Tr AV} {H : AH} {σ : Sg} {F : Fz} {a : Act} {w : World} {id : Nat}
    (h : drawA tt nt call ops sz ops.toList (predsOf ops.toList []) 0 [] tmps H = some (tmps', H')) (ha : apartAll ops ops.toList (predsOf ops.toList []) 0 [] = true)
    (hf : FRT σ F sz tmps a) (hr : HR σ F H.get w) (hfr : ∀ i, H.next ≤ i → i < H'.next → σ i = none) {df : List Deferred} (hdf : a.defers = df) {r : Option Nat} {Q : Exit → Act → World → Prop}
    (hq : ∀ a' w' σ' F', FRT σ' F' sz tmps' a' → a'.defers = df → Post σ F H.get w H.next H'.next σ' F' H'.get w' → Q .normal a' w') :
    (Code.region id ops true).wpIn (fence r) 0 P Q a w := by
  obtain ⟨ss, hd⟩ := drawn_of hcall.log hf.le h ha
  obtain ⟨ps, tr⟩ := hd.tr
  have hle := tr.end_.2.2.le
  let w1 : World := { w with drawn := w.drawn + 1 }
  have hr1 : HR σ F H.get w1 := ⟨hr.obj, hr.inj, hr.sep, hr.frz, hr.bnd⟩
  refine wpIn_region_any hmx ?_
  have hrep : ∀ (j : Nat), j < ops.size → (Array.replicate ops.size false).getD j true = false := by
    intro j hj
    simp [Array.getD, hj]
  have hno : ∀ q ∈ ss, (Array.replicate ops.size false).getD q.idx true = false := by
    intro q hq
    obtain ⟨j, hj⟩ := List.getElem?_of_mem hq
    have h1 := (hd.idx j q hj).1
    have h2 := (List.getElem?_eq_some_iff.1 hj).1
    rw [hd.len] at h2
    exact hrep _ (by omega)
  have e1 : ∀ {β : Type} (wr : St → Option β) (x : β), LW wr ss (fun j => (Array.replicate ops.size false).getD j true) x = x := by
    intro β wr x
    refine LW_skip ss x ?_
    intro q hq hS
    rw [hno q hq] at hS; cases hS
  refine draw_any (w0 := w1) htt hnt hcall hd hr1 hfr (df := df) (r := r) ?_ ops.size _ a w1 σ F (by simp) ⟨List.range ops.size, by simp, fun i hi _ => List.mem_range.2 hi⟩ ⟨?_, ?_, hdf, ?_, ?_⟩
  · intro a' w' σ' F' h1 h2 h3
    exact hq a' w' σ' F' h1 h2 ⟨h3.sub, h3.fsub, h3.hr, h3.size, h3.frame, h3.rng, h3.old, h3.fold, h3.os, h3.out, h3.tape, h3.le⟩
  · intro s hs hS
    rw [hno s hs] at hS; cases hS
  · have : (fun t => LW (wT t) ss (fun j => (Array.replicate ops.size false).getD j true) (tmps.get t)) = tmps.get := by funext t; exact e1 _ _
    rw [this]
    exact ⟨hf.size, hf.le, hf.lt, hf.val⟩
  · have : (fun id => LW (wK id) ss (fun j => (Array.replicate ops.size false).getD j true) (H.get id)) = H.get := by funext t; exact e1 _ _
    rw [this]
    exact Post.refl_in hr1 hle
  · intro k x hx; exact .inl hx

end
end Go.VM

