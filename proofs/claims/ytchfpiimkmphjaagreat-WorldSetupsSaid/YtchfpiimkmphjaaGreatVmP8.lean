/- An abstract machine for the program form, with the proof that it is sound: part VmP8. No condition. -/
import Derived.Test.YtchfpiimkmphjaaGreatVmP6
import Derived.Test.YtchfpiimkmphjaaGreatVmP7
/- The machine with its rest handed on: a branch on what is not known stands in front. -/
namespace Go.VM
open Go
noncomputable section

variable {R : Type}

abbrev CallK (R : Type) := Callee → List AV → AH → (AV → AH → Option R) → Option R

def condAll : List Bool → Option R → Option R
  | [], x => x
  | b :: bs, x => cond b (condAll bs x) none

def binOpK (tt : TT) (op : BinOp) (t : TypeId) (x y : AV) (k : AV → Option R) : Option R :=
  match op, x, y with
  | .shl, .int kd a, .int _ b => cond (decide (b < 0)) none (k (.int kd (kd.wrap (a * 2 ^ (min b.toNat kd.bits)))))
  | .shr, .int kd a, .int _ b => cond (decide (b < 0)) none (k (.int kd (a.fdiv (2 ^ (min b.toNat kd.bits)))))
  | .quo, .int kd a, .int kd' b => match decide (kd = kd') with | true => cond (b == 0) none (k (.int kd (kd.wrap (a.tdiv b)))) | false => none
  | .rem, .int kd a, .int kd' b => match decide (kd = kd') with | true => cond (b == 0) none (k (.int kd (a.tmod b))) | false => none
  | op, x, y => (binOpA tt op t x y).bind k

/-- An append whose tests stand in front. -/
def appendK (te tx : TI) (s x : AV) (H : AH) (k : AV → AH → Option R) : Option R :=
  match s with
  | .slice id sz st len cap ex =>
    cond (match tx.ud with | .slice _ | .str => true | _ => false)
    (cond (sizeOk te.size x && Nat.beq te.zero.length te.size)
    ((elemsA x H).bind fun new =>
        cond (Nat.beq sz te.size)
        (match H.get id with
        | some (.arr sz' es) =>
          cond (Nat.beq sz' sz && Nat.ble (st + len) es.length)
          (cond (!(te.grow && !ex) && Nat.ble (len + new.length) cap)
            (cond (Nat.ble (st + cap) es.length)
              (k (.slice id sz st (len + new.length) cap ex) (H.put id (some (.arr sz (overE es (st + len) new))))) none)
            (cond (okLen (len + new.length) te.bytes)
              (cond ex
                ((H.new (.arr sz ((es.drop st).take len ++ new))).bind fun r => k (.slice r.1 sz 0 (len + new.length) (len + new.length) false) r.2)
                (cond (Nat.beq st 0)
                  (((H.put id none).new (.arr sz (es.take len ++ new))).bind fun r => k (.slice r.1 sz 0 (len + new.length) (len + new.length) false) r.2) none))
              none)) none
        | _ => none) none) none) none
  | s => (appendA te tx s x H).bind fun r => k r.1 r.2

def opK (tt : TT) (op : Op) (tmps : Tr AV) (H : AH) (k : AN → AH → Option R) : Option R :=
  match op with
  | .pick c a b => (evx tmps c).bind fun c => match c with
    | .bool c => cond c ((evx tmps a).bind fun v => k (.val v) H) ((evx tmps b).bind fun v => k (.val v) H)
    | _ => none
  | .binOp op t x y _ => (evx tmps x).bind fun a => (evx tmps y).bind fun b => cond (nilsOk x y a b) (binOpK tt op t a b fun v => k (.val v) H) none
  | .call c => match c.callee with
    | .builtin .append => (evs tmps c.args.toList).bind fun as => match c.argTypes.toList, as with
      | [t, u], [s, x] => (tt.get t).bind fun ti => (tt.get u).bind fun tx => match ti.ud with
        | .slice e => (tt.get e).bind fun te => appendK te tx s x H fun v H => k (.val v) H
        | _ => none
      | _, _ => none
    | _ => (opA tt (.call c) tmps H).bind fun r => k r.1 r.2
  | op => (opA tt op tmps H).bind fun r => k r.1 r.2

def doOpK (tt : TT) (nt : NT) (call : CallK R) (o : Oper) (tmps : Tr AV) (H : AH) (k : AV → AH → Option R) : Option R :=
  opK tt o.op tmps H fun n H => match n with
    | .val v => k v H
    | .skip => k (.tup []) H
    | .fn f args => match nt.get f with
      | some c => (natF c args H).bind fun r => condAll r.1 (k r.2.1 r.2.2)
      | none => call (.fn f) args H k
    | .round l args => call (.rd l) args H k

/-- A test that is not known is known behind it. -/
def knowK (tmps : Tr AV) (t : Tmp) (b : Bool) (k : Bool → Tr AV → Option R) : Option R :=
  cond b (k true (tmps.set 40 t (some (.bool true)))) (k false (tmps.set 40 t (some (.bool false))))

def wantK (ops : Array Oper) (look tmps : Tr AV) (o : Oper) (k : Bool → Tr AV → Option R) : Option R :=
  match o.guard with
  | none => k true tmps
  | some (j, want) =>
    match ops[j]? with
    | none => none
    | some g => match g.dst with
      | none => none
      | some t => match look.get t with
        | some (.bool b) => cond (Nat.ble t 1000000) (knowK tmps t b fun b tmps => k (b == want) tmps) (k (b == want) tmps)
        | some (.tup []) => k false tmps
        | _ => none

def regionK (tt : TT) (nt : NT) (call : CallK R) (ops : Array Oper) (sz : Nat) : List Oper → Tr AV → AH → (Tr AV → AH → Option R) → Option R
  | [], tmps, H, k => k tmps H
  | o :: os, tmps, H, k =>
    wantK ops tmps tmps o fun w tmps =>
      cond w
        (doOpK tt nt call o tmps H fun v H' => (putT sz tmps o.dst v).bind fun tmps' => regionK tt nt call ops sz os tmps' H' k)
        ((putT sz tmps o.dst (.tup [])).bind fun tmps' => regionK tt nt call ops sz os tmps' H k)

def drawK (tt : TT) (nt : NT) (call : CallK R) (ops : Array Oper) (sz : Nat) : List Oper → List Nat → Nat → List Rec → Tr AV → AH → (Tr AV → AH → Option R) → Option R
  | o :: os, p :: ps, i, recs, tmps, H, k =>
    wantK ops (onlyT tmps (looksL ops o)) tmps o fun w tmps =>
      cond w
        (cond (okBefore p (touchA o.op (onlyT tmps (looksL ops o))) recs)
          (doOpK tt nt call o (onlyT tmps (looksL ops o)) { next := H.next, log := [], tr := seeA (touchA o.op (onlyT tmps (looksL ops o))) H p recs } fun v H' =>
            cond (okAfter p H.next H' recs)
              ((putT sz tmps o.dst v).bind fun tmps' =>
                drawK tt nt call ops sz os ps (i + 1) ({ idx := i, touch := touchA o.op (onlyT tmps (looksL ops o)), keys := H'.log } :: recs) tmps'
                  { next := H'.next, log := H'.log ++ H.log, tr := mergeA H.tr H' H'.log } k)
              none)
          none)
        ((putT sz tmps o.dst (.tup [])).bind fun tmps' => drawK tt nt call ops sz os ps (i + 1) recs tmps' H k)
  | [], _, _, _, tmps, H, k => k tmps H
  | _ :: _, [], _, _, _, _, _ => none

def loopK (t : Option (List Nat)) (body : AF → AH → (Ex → AF → AH → Option R) → Option R) : Nat → AF → AH → (Ex → AF → AH → Option R) → Option R
  | 0, _, _, _ => none
  | n + 1, fr, H, k =>
    body (trimFr t fr) (trimH t H) fun e fr' H' => match e with
      | .norm => loopK t body n fr' H' k
      | e => k e (trimFr t fr') (trimH t H')

def codeK (tt : TT) (nt : NT) (call : CallK R) (lf : Nat) (tm : TrimF) : Code → AF → AH → (Ex → AF → AH → Option R) → Option R
  | .skip, fr, H, k => k .norm fr H
  | .label _, fr, H, k => k .norm fr H
  | .region _ ops draw, fr, H, k =>
    cond draw
      (drawK tt nt call ops fr.sz ops.toList (predsOf ops.toList []) 0 [] fr.tmps H fun t H' => k .norm { fr with tmps := t } H')
      (regionK tt nt call ops fr.sz ops.toList fr.tmps H fun t H' => k .norm { fr with tmps := t } H')
  | .seq a b, fr, H, k =>
    codeK tt nt call lf tm a fr H fun e fr' H' => match e with
      | .norm => codeK tt nt call lf tm b fr' H' k
      | e => k e fr' H'
  | .cond c a b, fr, H, k =>
    match evx fr.tmps c with
    | some (.bool t) => match c with
      | .tmp i => cond (Nat.ble i 1000000) (knowK fr.tmps i t fun t tmps => cond t (codeK tt nt call lf tm a { fr with tmps := tmps } H k) (codeK tt nt call lf tm b { fr with tmps := tmps } H k)) (cond t (codeK tt nt call lf tm a fr H k) (codeK tt nt call lf tm b fr H k))
      | _ => cond t (codeK tt nt call lf tm a fr H k) (codeK tt nt call lf tm b fr H k)
    | _ => none
  | .block id b, fr, H, k =>
    codeK tt nt call lf tm b fr H fun e fr' H' => match e with
      | .exit id' => cond (Nat.beq id' id) (k .norm fr' H') (k (.exit id') fr' H')
      | e => k e fr' H'
  | .loop b, fr, H, k => loopK (tm (keyC b)) (codeK tt nt call lf tm b) lf fr H k
  | .exit id, fr, H, k => k (.exit id) fr H
  | .ret, fr, H, k => k .ret fr H
  | .rangeFunc g ps assign body, fr, H, k =>
    match evx fr.tmps g with
    | some (.func gf caps) =>
      ((match fr.rnd with
        | none => (H.new .defd).bind fun r => some (r.1, r.1 :: fr.marks, r.2)
        | some l0 => match H.get l0 with
          | some (.loop _ _ _ _ _ _ _ d) => some (d, fr.marks, H)
          | _ => none) : Option (Nat × List Nat × AH)).bind fun q =>
        (q.2.2.new (.loop .ready none fr.tmps fr.sz ps.toList assign body q.1)).bind fun r =>
        call (.fn gf) (.yld r.1 :: caps) r.2 fun _ H' =>
        match H'.get r.1 with
        | some (.loop st pend t' z' p' a' b' d) =>
          (match st with
            | .busy => none
            | _ => match pend with
              | none => k .norm { fr with marks := q.2.1 } (H'.put r.1 (some (.loop .exhausted pend t' z' p' a' b' d)))
              | some .ret => k .ret { fr with marks := q.2.1 } (H'.put r.1 (some (.loop .exhausted pend t' z' p' a' b' d)))
              | some (.exit id) => k (.exit id) { fr with marks := q.2.1 } (H'.put r.1 (some (.loop .exhausted pend t' z' p' a' b' d)))
              | some _ => none)
        | _ => none
    | _ => none
  | .scope b, fr, H, k => codeK tt nt call lf tm b fr H k
  | .goto _, _, _, _ => none
  | .refuse _, _, _, _ => none

def endK (tt : TT) (fi : FI) (k : AV → AH → Option R) (fr : AF) (H' : AH) : Option R :=
  (closeA fr.marks H').bind fun H2 => (resA tt fr H2 fi.results).bind fun vs => k (tupA vs) H2

def runK (tt : TT) (nt : NT) (call : CallK R) (lf : Nat) (fi : FI) (args : List AV) (H : AH) (k : AV → AH → Option R) : Option R :=
  cond (Nat.ble args.length fi.ntmps && Nat.ble fi.ntmps 1000000)
  (codeK tt nt call lf fi.trim fi.body { tmps := argT fi.init args 0, sz := fi.ntmps, marks := [], rnd := none } H fun e fr H' => match e with
    | .norm => endK tt fi k fr H'
    | .ret => endK tt fi k fr H'
    | .exit _ => none) none

def roundK (tt : TT) (nt : NT) (call : CallK R) (lf : Nat) (l : Nat) (args : List AV) (H : AH) (k : AV → AH → Option R) : Option R :=
  match H.get l with
  | some (.loop .ready none tmps sz ps assign body _) =>
    cond (Nat.ble sz 1000000)
    ((putsT sz tmps ps args).bind fun tmps' =>
    codeK tt nt call lf (fun _ => none) assign { tmps := tmps', sz := sz, marks := [], rnd := some l } H fun e1 fr1 H1 => match e1 with
    | .norm =>
      (match H1.get l with
      | some (.loop .ready none t1 z1 p1 a1 b1 d1) =>
        codeK tt nt call lf (fun _ => none) body { fr1 with marks := [] } (H1.put l (some (.loop .busy none t1 z1 p1 a1 b1 d1))) fun e _ H3 =>
          (match H3.get l with
          | some (.loop .busy none t3 z3 p3 a3 b3 d3) =>
            match e with
            | .norm => k (.bool true) (H3.put l (some (.loop .ready none t3 z3 p3 a3 b3 d3)))
            | e => k (.bool false) (H3.put l (some (.loop .done e.jump t3 z3 p3 a3 b3 d3)))
          | _ => none)
      | _ => none)
    | _ => none) none
  | _ => none

def funK (ft : Tr FI) (tt : TT) (nt : NT) (ot : OT) (lf : Nat) : Nat → CallK R
  | 0 => fun _ _ _ _ => none
  | n + 1 => fun c args H k => match c with
    | .fn f => match ot.get f with
      | some g => (g args H).bind fun r => condAll r.1 (k r.2.1 r.2.2)
      | none => (ft.get f).bind fun fi => runK tt nt (funK ft tt nt ot lf n) lf fi args H k
    | .rd l => roundK tt nt (funK ft tt nt ot lf n) lf l args H k

/-! The two machines agree. -/

theorem condAll_eq (bs : List Bool) (x : Option R) : condAll bs x = cond (allB bs) x none := by
  induction bs with
  | nil => rfl
  | cons b bs ih => cases b <;> simp [condAll, allB, ih]

theorem bind_cond {α β : Type} (c : Bool) (x y : Option α) (f : α → Option β) : (cond c x y).bind f = cond c (x.bind f) (y.bind f) := by cases c <;> rfl

theorem bind_some' {α : Type} (x : Option α) : x.bind some = x := by cases x <;> rfl

theorem binOpK_eq (tt : TT) (op : BinOp) (t : TypeId) (x y : AV) (k : AV → Option R) : binOpK tt op t x y k = (binOpA tt op t x y).bind k := by
  unfold binOpK
  split
  · simp only [binOpA, bind_cond]; rfl
  · simp only [binOpA, bind_cond]; rfl
  · simp only [binOpA]
    split <;> simp only [*, intOpA, bind_cond] <;> rfl
  · simp only [binOpA]
    split <;> simp only [*, intOpA, bind_cond] <;> rfl
  · rfl

theorem appendK_eq (te tx : TI) (s x : AV) (H : AH) (k : AV → AH → Option R) : appendK te tx s x H k = (appendA te tx s x H).bind fun r => k r.1 r.2 := by
  unfold appendK
  split
  · rename_i id sz st len cap ex
    unfold appendA
    simp only [bind_cond, Option.bind_assoc, Option.bind_none]
    congr 1
    congr 1
    congr 1; funext new
    congr 1
    cases H.get id with
    | none => rfl
    | some o => cases o with
      | arr sz' es => simp only [bind_cond, Option.bind_assoc, Option.bind_some, Option.bind_none]
      | _ => rfl
  · rfl

theorem opK_eq (tt : TT) (op : Op) (tmps : Tr AV) (H : AH) (k : AN → AH → Option R) : opK tt op tmps H k = (opA tt op tmps H).bind fun r => k r.1 r.2 := by
  unfold opK
  split
  · simp only [opA, Option.bind_assoc]
    congr 1; funext c
    cases c <;> try rfl
    rename_i c
    cases c <;> simp [val1, Option.bind_assoc]
  · simp only [opA, Option.bind_assoc]
    congr 1; funext a
    congr 1; funext b
    simp only [bind_cond, binOpK_eq, val1, Option.bind_assoc]
    rfl
  · rename_i c
    split
    · rename_i hc
      simp only [opA, hc, Option.bind_assoc]
      congr 1; funext as
      generalize c.argTypes.toList = ats
      rcases ats with _ | ⟨t, _ | ⟨u, _ | ⟨_, _⟩⟩⟩
      · rfl
      · rfl
      · rcases as with _ | ⟨s, _ | ⟨x, _ | ⟨_, _⟩⟩⟩
        · rfl
        · rfl
        · simp only [builtinA, Option.bind_assoc]
          congr 1; funext ti
          congr 1; funext tx
          cases ti.ud with
          | slice e => simp only [appendK_eq, valH, Option.bind_assoc, Option.bind_some]
          | _ => rfl
        · rfl
      · rfl
    · rfl
  · rfl

theorem cond_t {α : Type} (x y : α) : cond true x y = x := rfl

theorem set_same {α : Type} : ∀ (n : Nat) (t : Tr α) (i : Nat) (x : α), t.get i = some x → i < 2 ^ n - 1 → t.set n i (some x) = t := by
  intro n
  induction n with
  | zero => intro t i x _ h; omega
  | succ n ih =>
    intro t i x hg hi
    have hb : ∀ k : Nat, (Nat.beq k 0) = decide (k = 0) := fun k => by cases k <;> simp [Nat.beq]
    have hc : ∀ k : Nat, (Nat.beq (k % 2) 1) = decide (k % 2 = 1) := fun k => by
      rcases Nat.mod_two_eq_zero_or_one k with h | h <;> simp [h, Nat.beq]
    cases t with
    | nil => simp [Tr.get_nil] at hg
    | node l v r =>
      simp only [Tr.get_node, Tr.set_node, hb, hc] at hg ⊢
      by_cases h0 : i = 0
      · simp only [h0, decide_true, cond_true] at hg ⊢; rw [hg]
      · by_cases h1 : i % 2 = 1
        · simp only [h0, h1, decide_true, decide_false, cond_true, cond_false] at hg ⊢
          rw [ih l _ x hg (by omega)]
        · simp only [h0, h1, decide_false, cond_false] at hg ⊢
          rw [ih r _ x hg (by omega)]

theorem knowK_eq {tmps : Tr AV} {t : Tmp} {b : Bool} {k : Bool → Tr AV → Option R} (hg : tmps.get t = some (.bool b)) (ht : Nat.ble t 1000000 = true) : knowK tmps t b k = k b tmps := by
  have := Nat.le_of_ble_eq_true ht
  cases b <;> simp only [knowK, cond_true, cond_false] <;> rw [set_same 40 tmps t _ hg (by omega)]

theorem wantK_eq (ops : Array Oper) (look tmps : Tr AV) (hl : ∀ t v, look.get t = some v → tmps.get t = some v) (o : Oper) (k : Bool → Tr AV → Option R) : wantK ops look tmps o k = (wantA ops look o).bind fun w => k w tmps := by
  unfold wantK wantA
  cases o.guard with
  | none => rfl
  | some p =>
    obtain ⟨j, want⟩ := p
    simp only
    cases ops[j]? with
    | none => rfl
    | some g =>
      simp only
      cases g.dst with
      | none => rfl
      | some t =>
        simp only
        cases hg : look.get t with
        | none => rfl
        | some v =>
          have hg2 := hl _ _ hg
          clear hg
          cases v <;> try rfl
          · rename_i b
            simp only [Option.bind_some]
            cases hb : Nat.ble t 1000000 with
            | true => rw [cond_true, knowK_eq hg2 hb]
            | false => rfl
          · rename_i vs
            clear hg2
            cases vs <;> rfl

theorem loopK_eq {bodyK : AF → AH → (Ex → AF → AH → Option R) → Option R} {body : AF → AH → Option (Ex × AF × AH)} (hb : ∀ fr H k, bodyK fr H k = (body fr H).bind fun r => k r.1 r.2.1 r.2.2) :
    ∀ (t : Option (List Nat)) (n : Nat) (fr : AF) (H : AH) (k : Ex → AF → AH → Option R), loopK t bodyK n fr H k = (loopA t body n fr H).bind fun r => k r.1 r.2.1 r.2.2 := by
  intro t n
  induction n with
  | zero => intro fr H k; rfl
  | succ n ih =>
    intro fr H k
    simp only [loopK, loopA, hb]
    cases body (trimFr t fr) (trimH t H) with
    | none => rfl
    | some r =>
      obtain ⟨e, fr', H'⟩ := r
      cases e with
      | norm => exact ih _ _ _
      | exit id => rfl
      | ret => rfl

def KEq (callK : CallK R) (call : CallF) : Prop := ∀ c args H k, callK c args H k = (call c args H).bind fun r => k r.1 r.2

section
variable {tt : TT} {nt : NT} {callK : CallK R} {call : CallF}

theorem doOpK_eq (hc : KEq callK call) (o : Oper) (tmps : Tr AV) (H : AH) (k : AV → AH → Option R) : doOpK tt nt callK o tmps H k = (doOp tt nt call o tmps H).bind fun r => k r.1 r.2 := by
  unfold doOpK doOp
  rw [opK_eq, Option.bind_assoc]
  congr 1; funext r
  obtain ⟨n, H1⟩ := r
  cases n with
  | val v => rfl
  | skip => rfl
  | fn f args =>
    simp only
    cases nt.get f with
    | none => exact hc _ _ _ _
    | some c =>
      simp only [natA, sumA, Option.bind_assoc]
      congr 1; funext r
      rw [condAll_eq, bind_cond]; rfl
  | round l args => exact hc _ _ _ _

theorem regionK_eq (hc : KEq callK call) (ops : Array Oper) (sz : Nat) : ∀ (os : List Oper) (tmps : Tr AV) (H : AH) (k : Tr AV → AH → Option R),
    regionK tt nt callK ops sz os tmps H k = (regionA tt nt call ops sz os tmps H).bind fun r => k r.1 r.2 := by
  intro os
  induction os with
  | nil => intro tmps H k; rfl
  | cons o os ih =>
    intro tmps H k
    simp only [regionK, regionA]
    rw [wantK_eq ops tmps tmps (fun _ _ h => h), Option.bind_assoc]
    congr 1; funext w
    rw [bind_cond, doOpK_eq hc]
    simp only [Option.bind_assoc, ih]

theorem drawK_eq (hc : KEq callK call) (ops : Array Oper) (sz : Nat) : ∀ (os : List Oper) (ps : List Nat) (i : Nat) (recs : List Rec) (tmps : Tr AV) (H : AH) (k : Tr AV → AH → Option R),
    drawK tt nt callK ops sz os ps i recs tmps H k = (drawA tt nt call ops sz os ps i recs tmps H).bind fun r => k r.1 r.2 := by
  intro os
  induction os with
  | nil => intro ps i recs tmps H k; cases ps <;> rfl
  | cons o os ih =>
    intro ps i recs tmps H k
    cases ps with
    | nil => rfl
    | cons p ps =>
      simp only [drawK, drawA]
      rw [wantK_eq ops _ tmps (fun _ _ h => (onlyT_get h).2), Option.bind_assoc]
      congr 1; funext w
      rw [bind_cond, bind_cond, doOpK_eq hc]
      simp only [Option.bind_assoc, ih, bind_cond]
      rfl

theorem codeK_eq (hc : KEq callK call) (lf : Nat) (tm : TrimF) : ∀ (c : Code) (fr : AF) (H : AH) (k : Ex → AF → AH → Option R), codeK tt nt callK lf tm c fr H k = (codeA tt nt call lf tm c fr H).bind fun r => k r.1 r.2.1 r.2.2 := by
  intro c
  induction c with
  | skip => intro fr H k; rfl
  | label _ => intro fr H k; rfl
  | region id ops draw =>
    intro fr H k
    simp only [codeK, codeA, bind_cond, drawK_eq hc, regionK_eq hc, Option.bind_assoc]
    rfl
  | seq a b iha ihb =>
    intro fr H k
    simp only [codeK, codeA, iha]
    cases codeA tt nt call lf tm a fr H with
    | none => rfl
    | some r =>
      obtain ⟨e, fr', H'⟩ := r
      cases e with
      | norm => exact ihb _ _ _
      | exit id => rfl
      | ret => rfl
  | cond c a b iha ihb =>
    intro fr H k
    simp only [codeK, codeA]
    cases hv : evx fr.tmps c with
    | none => rfl
    | some v =>
      cases v <;> try rfl
      rename_i t
      cases c with
      | tmp i =>
        simp only
        cases hb : Nat.ble i 1000000 with
        | true => rw [cond_true, knowK_eq hv hb, bind_cond]; simp only [iha, ihb]
        | false => simp only [cond_false, bind_cond, iha, ihb]
      | _ => simp only [bind_cond, iha, ihb]
  | block id b ih =>
    intro fr H k
    simp only [codeK, codeA, ih]
    cases codeA tt nt call lf tm b fr H with
    | none => rfl
    | some r =>
      obtain ⟨e, fr', H'⟩ := r
      cases e with
      | norm => rfl
      | exit id' => simp only [Option.bind_some, bind_cond]
      | ret => rfl
  | loop b ih => intro fr H k; exact loopK_eq ih _ _ _ _ _
  | exit id => intro fr H k; rfl
  | ret => intro fr H k; rfl
  | rangeFunc g ps assign body iha ihb =>
    intro fr H k
    simp only [codeK, codeA]
    cases evx fr.tmps g with
    | none => rfl
    | some v =>
    cases v <;> try rfl
    simp only [Option.bind_assoc]
    congr 1; funext q
    congr 1; funext r
    rw [hc]
    congr 1; funext c
    cases c.2.get r.1 with
    | none => rfl
    | some o =>
      cases o with
      | loop st pend t' z' p' a' b' d =>
        cases st <;> try rfl
        all_goals
          cases pend with
          | none => rfl
          | some j => cases j <;> rfl
      | _ => rfl
  | scope b ih => intro fr H k; exact ih _ _ _
  | goto _ => intro fr H k; rfl
  | refuse _ => intro fr H k; rfl

theorem runK_eq (hc : KEq callK call) (lf : Nat) (fi : FI) (args : List AV) (H : AH) (k : AV → AH → Option R) : runK tt nt callK lf fi args H k = (runA tt nt call lf fi args H).bind fun r => k r.1 r.2 := by
  simp only [runK, runA, bind_cond, codeK_eq hc]
  congr 1
  cases codeA tt nt call lf fi.trim fi.body _ H with
  | none => rfl
  | some r =>
    obtain ⟨e, fr', H'⟩ := r
    cases e with
    | norm => simp only [Option.bind_some, endK, Option.bind_assoc]
    | exit id' => rfl
    | ret => simp only [Option.bind_some, endK, Option.bind_assoc]

theorem roundK_eq (hc : KEq callK call) (lf : Nat) (l : Nat) (args : List AV) (H : AH) (k : AV → AH → Option R) : roundK tt nt callK lf l args H k = (roundA tt nt call lf l args H).bind fun r => k r.1 r.2 := by
  unfold roundK roundA
  cases H.get l with
  | none => rfl
  | some o =>
  cases o with
  | arr _ _ => rfl
  | map _ => rfl
  | defd => rfl
  | loop st pend tmps sz ps assign body d =>
  cases pend with
  | some _ => cases st <;> rfl
  | none =>
  cases st <;> try rfl
  simp only [bind_cond, Option.bind_assoc]
  congr 1
  congr 1; funext tmps'
  rw [codeK_eq hc]
  cases codeA tt nt call lf (fun _ => none) _ _ H with
  | none => rfl
  | some r =>
    obtain ⟨e, fr1, H1⟩ := r
    cases e with
    | norm =>
      simp only [Option.bind_some]
      cases H1.get l with
      | none => rfl
      | some o =>
      cases o with
      | arr _ _ => rfl
      | map _ => rfl
      | defd => rfl
      | loop st pend t1 z1 p1 a1 b1 d1 =>
      cases pend with
      | some _ => cases st <;> rfl
      | none =>
      cases st <;> try rfl
      simp only [codeK_eq hc]
      cases codeA tt nt call lf (fun _ => none) _ _ _ with
      | none => rfl
      | some r =>
        obtain ⟨e, fr3, H3⟩ := r
        simp only [Option.bind_some]
        cases H3.get l with
        | none => rfl
        | some o =>
        cases o with
        | arr _ _ => rfl
        | map _ => rfl
        | defd => rfl
        | loop st pend t1 z1 p1 a1 b1 d1 =>
        cases pend with
        | some _ => cases st <;> rfl
        | none =>
        cases st <;> try rfl
        cases e <;> rfl
    | exit id => rfl
    | ret => rfl

end

theorem funK_eq (ft : Tr FI) (tt : TT) (nt : NT) (ot : OT) (lf : Nat) : ∀ (n : Nat) (c : Callee) (args : List AV) (H : AH) (k : AV → AH → Option R),
    funK ft tt nt ot lf n c args H k = (funA ft tt nt ot lf n c args H).bind fun r => k r.1 r.2 := by
  intro n
  induction n with
  | zero => intro c args H k; rfl
  | succ n ih =>
    intro c args H k
    cases c with
    | fn f =>
      simp only [funK, funA]
      cases ot.get f with
      | some g =>
        simp only [sumA, Option.bind_assoc]
        congr 1; funext r
        rw [condAll_eq, bind_cond]; rfl
      | none =>
        simp only [Option.bind_assoc]
        congr 1; funext fi
        exact runK_eq ih _ _ _ _ _
    | rd l => exact roundK_eq ih _ _ _ _ _

end
end Go.VM

/- Contracts of functions that only compute: from one run over the empty heap. -/
namespace Go.VM
open Go
noncomputable section

def mapO {α β : Type} (f : α → Option β) : List α → Option (List β)
  | [] => some []
  | x :: xs => (f x).bind fun y => (mapO f xs).bind fun ys => some (y :: ys)

/-- A value with all that it leads to, as it is now. `arg`: what never changes may stand in it. -/
def frzA (H : AH) (arg : Bool) : Nat → AV → Option AV
  | 0, _ => none
  | n + 1, v => match v with
    | .bool b => some (.bool b)
    | .int k i => some (.int k i)
    | .str s => some (.str s)
    | .nilp => some .nilp
    | .nils => some .nils
    | .emp => some .emp
    | .emp0 => some .emp0
    | .nilm => some .nilm
    | .nilf => some .nilf
    | .nili => some .nili
    | .dead => some .dead
    | .agg cs => (mapO (frzA H arg n) cs).bind fun cs => some (.agg cs)
    | .tup cs => (mapO (frzA H arg n) cs).bind fun cs => some (.tup cs)
    | .func f cs => (mapO (frzA H arg n) cs).bind fun cs => some (.func f cs)
    | .iface t v => (frzA H arg n v).bind fun v => some (.iface t v)
    | .list sz es => match es with
      | [] => some (.list sz [])
      | e :: es => cond arg ((mapO (mapO (frzA H arg n)) (e :: es)).bind fun es => some (.list sz es)) none
    | .slice id sz st len _ _ => match H.get id with
      | some (.arr sz' es) => cond (Nat.beq sz sz' && Nat.ble (st + len) es.length) ((mapO (mapO (frzA H arg n)) ((es.drop st).take len)).bind fun es => some (.list sz es)) none
      | _ => none
    | _ => none

theorem mapO_some {α β : Type} {f : α → Option β} : ∀ {l : List α} {l' : List β}, mapO f l = some l' → l'.length = l.length ∧ ∀ (i : Nat) (y : β), l'[i]? = some y → ∃ x, l[i]? = some x ∧ f x = some y := by
  intro l
  induction l with
  | nil => intro l' h; simp only [mapO, Option.some.injEq] at h; subst h; simp
  | cons x xs ih =>
    intro l' h
    simp only [mapO] at h
    obtain ⟨y, h1, h2⟩ := bindSome h
    obtain ⟨ys, h3, h4⟩ := bindSome h2
    simp only [Option.some.injEq] at h4; subst h4
    obtain ⟨k1, k2⟩ := ih h3
    refine ⟨by simp [k1], ?_⟩
    intro i z hz
    cases i with
    | zero => cases hz; exact ⟨x, rfl, h1⟩
    | succ i => exact k2 i z hz

theorem frzA_cell {H : AH} {arg : Bool} {n : Nat} {v v' : AV} (h : frzA H arg n v = some v') (hc : v.isCell = true) : v'.isCell = true := by
  cases n with
  | zero => cases h
  | succ n =>
    cases v with
    | agg _ => cases hc
    | tup _ => cases hc
    | dead => cases hc
    | func f cs => simp only [frzA] at h; obtain ⟨_, _, h2⟩ := bindSome h; cases h2; rfl
    | iface t v => simp only [frzA] at h; obtain ⟨_, _, h2⟩ := bindSome h; cases h2; rfl
    | list sz es =>
      cases es with
      | nil => cases h; rfl
      | cons e es =>
        simp only [frzA] at h
        obtain ⟨_, h⟩ := condSome h
        obtain ⟨_, _, h2⟩ := bindSome h; cases h2; rfl
    | slice id sz st len cap ex =>
      simp only [frzA] at h
      split at h
      · obtain ⟨_, h⟩ := condSome h
        obtain ⟨_, _, h2⟩ := bindSome h; cases h2; rfl
      · cases h
    | _ => first | (cases h; rfl) | cases h

theorem frzA_ok {H : AH} {arg : Bool} {σ τ : Sg} {F G : Fz} {w : World} (hr : HR σ F H.get w) (hF : arg = true → ∀ b c, F b = some c → G b = some c)
    (hG : ∀ id o b cs c e fr, H.get id = some o → σ id = some (b, cs) → w.heap[b]? = some (.cells c e fr) → G b = some c) :
    ∀ (n : Nat) (v v' : AV) (cv : Value), frzA H arg n v = some v' → VRel σ F v cv → VRel τ G v' cv := by
  intro n
  induction n with
  | zero => intro v v' cv h; cases h
  | succ n ih =>
    have all : ∀ {cs cs' : List AV} {c : Nat → Value}, mapO (frzA H arg n) cs = some cs' → (∀ (i : Nat) (v : AV), cs[i]? = some v → VRel σ F v (c i)) → ∀ (i : Nat) (v : AV), cs'[i]? = some v → VRel τ G v (c i) := by
      intro cs cs' c hm hv i v hi
      obtain ⟨x, h1, h2⟩ := (mapO_some hm).2 i v hi
      exact ih x v _ h2 (hv i x h1)
    have cell : ∀ {cs cs' : List AV}, mapO (frzA H arg n) cs = some cs' → (∀ (i : Nat) (v : AV), cs[i]? = some v → v.isCell = true) → ∀ (i : Nat) (v : AV), cs'[i]? = some v → v.isCell = true := by
      intro cs cs' hm hv i v hi
      obtain ⟨x, h1, h2⟩ := (mapO_some hm).2 i v hi
      exact frzA_cell h2 (hv i x h1)
    intro v v' cv h hv
    cases hv with
    | bool b => cases h; exact .bool b
    | int k i => cases h; exact .int k i
    | str s => cases h; exact .str s
    | nilp => cases h; exact .nilp
    | ptr _ => cases h
    | lp _ _ _ _ => cases h
    | nils => cases h; exact .nils
    | emp => cases h; exact .emp
    | emp0 => cases h; exact .emp0
    | listnil => cases h; exact .listnil
    | nilm => cases h; exact .nilm
    | map _ => cases h
    | yld _ => cases h
    | nilf => cases h; exact .nilf
    | nili => cases h; exact .nili
    | dead _ => cases h; exact .dead _
    | agg hs hc hv =>
      simp only [frzA] at h
      obtain ⟨_, h1, h2⟩ := bindSome h
      cases h2
      exact .agg (by rw [hs, (mapO_some h1).1]) (cell h1 hc) (all h1 hv)
    | tup hs hv =>
      simp only [frzA] at h
      obtain ⟨_, h1, h2⟩ := bindSome h
      cases h2
      exact .tup (by rw [hs, (mapO_some h1).1]) (all h1 hv)
    | func hs hv =>
      simp only [frzA] at h
      obtain ⟨_, h1, h2⟩ := bindSome h
      cases h2
      exact .func (by rw [hs, (mapO_some h1).1]) (all h1 hv)
    | iface hv =>
      simp only [frzA] at h
      obtain ⟨_, h1, h2⟩ := bindSome h
      cases h2
      exact .iface (ih _ _ _ h1 hv)
    | list hf hb hl hc hv hcap =>
      rename_i sz es b off cells cap'
      cases es with
      | nil => cases h; exact .listnil
      | cons e0 es0 =>
        simp only [frzA] at h
        obtain ⟨ha, h⟩ := condSome h
        obtain ⟨es', h1, h2⟩ := bindSome h
        cases h2
        obtain ⟨k1, k2⟩ := mapO_some h1
        rw [← k1]
        refine .list (hF ha _ _ hf) (by rw [k1]; exact hb) ?_ ?_ ?_ (by rw [k1]; exact hcap)
        · intro i e hi
          obtain ⟨x, h3, h4⟩ := k2 i e hi
          rw [(mapO_some h4).1, hl i x h3]
        · intro i e j c hi hj
          obtain ⟨x, h3, h4⟩ := k2 i e hi
          exact cell h4 (fun j v hj => hc i x j v h3 hj) j c hj
        · intro i e j c hi hj
          obtain ⟨x, h3, h4⟩ := k2 i e hi
          exact all (c := fun j => cells.getD (off + (i * sz + j)) undef) h4 (fun j v hj => hv i x j v h3 hj) j c hj
    | slice hs h1 h2 h3 h4 =>
      rename_i id sz st len cap ex b cs cap'
      simp only [frzA] at h
      split at h
      · rename_i sz' es hg
        obtain ⟨hcd, hQ⟩ := condSome h
        rw [Bool.and_eq_true] at hcd
        have e1 := Nat.eq_of_beq_eq_true hcd.1
        have e2 := Nat.le_of_ble_eq_true hcd.2
        subst e1
        obtain ⟨es', h5, h6⟩ := bindSome hQ
        cases h6
        obtain ⟨b2, c2, hs2, ho⟩ := hr.obj _ _ hg
        rw [hs] at hs2; cases hs2
        obtain ⟨c, e, fr, q1, q2, q3, q4⟩ := ho
        obtain ⟨k1, k2⟩ := mapO_some h5
        have hlen : es'.length = len := by rw [k1]; simp; omega
        have hat : ∀ (i : Nat) (x : List AV), ((es.drop st).take len)[i]? = some x → es[st + i]? = some x := by
          intro i x hi
          rw [List.getElem?_take] at hi
          split at hi
          · rw [List.getElem?_drop] at hi; exact hi
          · cases hi
        have hbb := q4.bnd
        rw [← hlen]
        refine .list (hG _ _ _ _ _ _ _ hg hs q1) ?_ ?_ ?_ ?_ (by omega)
        · rw [hlen, ← Nat.add_mul]
          exact Nat.le_trans (Nat.mul_le_mul_right _ e2) hbb
        · intro i e hi
          obtain ⟨x, h7, h8⟩ := k2 i e hi
          rw [(mapO_some h8).1, q4.len _ x (hat i x h7)]
        · intro i e j v hi hj
          obtain ⟨x, h7, h8⟩ := k2 i e hi
          exact cell h8 (fun j v hj => q4.cell _ x j v (hat i x h7) hj) j v hj
        · intro i e j v hi hj
          obtain ⟨x, h7, h8⟩ := k2 i e hi
          refine all (c := fun j => c.getD (st * sz + (i * sz + j)) undef) h8 (fun j v hj => ?_) j v hj
          have := q4.val _ x j v (hat i x h7) hj
          rw [Nat.add_mul, Nat.add_assoc] at this
          exact this
      · cases h

/-- All of memory, as it is now. -/
def snap (w : World) : Fz := fun b => match w.heap[b]? with
  | some (.cells c _ _) => some c
  | _ => none

theorem snap_some {w : World} {b : Nat} {c : Array Value} {e : TypeId} {fr : Nat × Nat} (h : w.heap[b]? = some (.cells c e fr)) : snap w b = some c := by simp [snap, h]

theorem snap_cells {w : World} {b : Nat} {c : Array Value} (h : snap w b = some c) : ∃ e fr, w.heap[b]? = some (.cells c e fr) := by
  unfold snap at h
  split at h
  · rename_i c e fr hb
    simp only [Option.some.injEq] at h; subst h
    exact ⟨e, fr, hb⟩
  · cases h

def H0 : AH := { next := 0, tr := .nil, log := [] }

def pureS (S : List AV → Option (List Bool × AV)) : SumF := fun args H => (mapO (frzA H true 30) args).bind fun a => (S a).bind fun r => some (r.1, r.2, H)

theorem sumOk_pure {P : Program} (hmx : P.follows .mixedOrders = true) {ft : Tr FI} (hft : FTok P ft) {tt : TT} (htt : TTok P tt) {nt : NT} (hnt : NTok P nt) {ot : OT} (hot : OTok P ot) {lf n k : Nat} {S : List AV → Option (List Bool × AV)}
    (hrun : ∀ args cs v, S args = some (cs, v) → allB cs = true → ∃ u H', funA ft tt nt ot lf n (.fn k) args H0 = some (u, H') ∧ frzA H' false 30 u = some v) : SumOk P k (pureS S) := by
  intro args H cs v H' h hcs
  unfold pureS at h
  obtain ⟨a, h1, h⟩ := bindSome h
  obtain ⟨⟨cs', v'⟩, h2, h⟩ := bindSome h
  simp only [Option.some.injEq, Prod.mk.injEq] at h
  obtain ⟨rfl, rfl, rfl⟩ := h
  obtain ⟨u, H1, h3, h4⟩ := hrun a cs' v' h2 hcs
  refine ⟨.refl _, ?_⟩
  intro σ F w cargs ha hr _
  obtain ⟨k1, k2⟩ := mapO_some h1
  have ha' : ARel (fun _ => none) (snap w) a cargs := by
    refine ⟨by rw [ha.1, k1], ?_⟩
    intro i v hi
    obtain ⟨x, h5, h6⟩ := k2 i v hi
    refine frzA_ok hr ?_ ?_ 30 x v _ h6 (ha.2 i x h5)
    · intro _ b c hb
      obtain ⟨e, fr, hh⟩ := hr.frz b c hb
      exact snap_some hh
    · intro id o b cs c e fr _ _ hh
      exact snap_some hh
  have hr0 : HR (fun _ => none) (snap w) H0.get w :=
    ⟨fun i o hi => by simp [H0, AH.get, Tr.get_nil] at hi, fun i j b c c' o o' hi => by simp [H0, AH.get, Tr.get_nil] at hi, fun i b c o hi => by simp [H0, AH.get, Tr.get_nil] at hi, fun b c hb => snap_cells hb, fun i x hx => by cases hx⟩
  have := ((funA_ok hmx hft htt hnt hot n) _ _ _ _ _ h3).2 (fun _ => none) (snap w) w cargs ha' hr0 (fun _ _ _ => rfl)
  refine CallsIn.mono this.2 ?_
  rintro e w' ⟨cv, σ', F', rfl, hv, hp⟩
  have hblock : ∀ b, b < w.heap.size → w'.heap[b]? = w.heap[b]? := by
    intro b hb
    refine hp.frame b hb fun i o c hi _ => ?_
    simp [H0, AH.get, Tr.get_nil] at hi
  have hold : Old w w' := ⟨hp.os, hp.tape, hp.out, hp.size, hblock⟩
  have hr' := hold.hr hr
  have hlt : ∀ b c, F b = some c → b < w.heap.size := by
    intro b c hb
    obtain ⟨e, fr, hh⟩ := hr.frz b c hb
    exact (Array.getElem?_eq_some_iff.1 hh).1
  let G : Fz := fun b => if b < w.heap.size then F b else snap w' b
  have hFG : Sub F G := by
    intro b c hb
    show (if b < w.heap.size then F b else snap w' b) = some c
    rw [if_pos (hlt b c hb)]; exact hb
  refine ⟨cv, σ, G, rfl, ?_, ?_⟩
  · refine frzA_ok hp.hr (fun hc => by cases hc) ?_ 30 u v' cv h4 hv
    intro id o b cs c e fr hi hs hh
    show (if b < w.heap.size then F b else snap w' b) = some c
    have hge : ¬ b < w.heap.size := by
      intro hb
      obtain ⟨j, c', o', hj, _⟩ := hp.old id b cs o hi hs hb
      simp [H0, AH.get, Tr.get_nil] at hj
    rw [if_neg hge]; exact snap_some hh
  · have hp0 := Post.grow hold hr H.next
    refine ⟨.refl _, hFG, ⟨?_, hr'.inj, ?_, ?_, hr'.bnd⟩, hp0.size, hp0.frame, hp0.rng, hp0.old, ?_, hp0.os, hp0.out, hp0.tape, Nat.le_refl _⟩
    · intro i o hi
      obtain ⟨b, c, q1, q2⟩ := hr'.obj i o hi
      exact ⟨b, c, q1, q2.mono (.refl _) hFG⟩
    · intro i b c o hi hs
      show (if b < w.heap.size then F b else snap w' b) = none
      rw [if_pos (hr.lt hi hs)]; exact hr.sep i b c o hi hs
    · intro b c hb
      have hb : (if b < w.heap.size then F b else snap w' b) = some c := hb
      split at hb
      · obtain ⟨e, fr, q⟩ := hr'.frz b c hb; exact ⟨e, fr, q⟩
      · exact snap_cells hb
    · intro b c hb
      have hb : (if b < w.heap.size then F b else snap w' b) = some c := hb
      split at hb
      · exact .inl hb
      · exact .inr (.inl (by omega))

/-- The same, by the machine whose rest is handed on. -/
theorem sumOk_pureK {P : Program} (hmx : P.follows .mixedOrders = true) {ft : Tr FI} (hft : FTok P ft) {tt : TT} (htt : TTok P tt) {nt : NT} (hnt : NTok P nt) {ot : OT} (hot : OTok P ot) {lf n k : Nat} {S : List AV → Option (List Bool × AV)}
    (hrun : ∀ args cs v, S args = some (cs, v) → allB cs = true → funK ft tt nt ot lf n (.fn k) args H0 (fun u H' => frzA H' false 30 u) = some v) : SumOk P k (pureS S) := by
  refine sumOk_pure hmx hft htt hnt hot (lf := lf) (n := n) (S := S) ?_
  intro args cs v h hcs
  have := hrun args cs v h hcs
  rw [funK_eq] at this
  obtain ⟨⟨u, H'⟩, h1, h2⟩ := bindSome this
  exact ⟨u, H', h1, h2⟩

end
end Go.VM

/- Tables out of lists. -/
namespace Go.VM
open Go
noncomputable section

def tabOf {α : Type} : List (Nat × α) → Tr α
  | [] => .nil
  | (i, x) :: l => (tabOf l).set 40 i (some x)

theorem tabOf_get {α : Type} : ∀ {l : List (Nat × α)} {i : Nat} {x : α}, (tabOf l).get i = some x → (i, x) ∈ l := by
  intro l
  induction l with
  | nil => intro i x h; simp [tabOf, Tr.get_nil] at h
  | cons p l ih =>
    obtain ⟨j, y⟩ := p
    intro i x h
    simp only [tabOf] at h
    rcases Tr.get_set_any 40 (tabOf l) j i (some y) with k | ⟨rfl, k⟩
    · rw [k] at h; exact List.mem_cons_of_mem _ (ih h)
    · rw [k] at h; cases h; exact List.mem_cons_self

def NatRow (P : Program) (f k : Nat) : Prop := ∃ fn, P.funcs[f]? = some fn ∧ (fn.name == "runtime.NumGoroutine") = false ∧ fn.body.isNone = true ∧ Extern.findNext fn = none ∧ Extern.find fn = some (natE k)

theorem ntok_of {P : Program} {nt : NT} {l : List (Nat × Nat)} (h : tabOf l = nt) (hl : ∀ p ∈ l, NatRow P p.1 p.2) : NTok P nt := by
  subst h
  intro f k hf
  exact hl _ (tabOf_get hf)

theorem hasText {P : Program} {ft : Tr FI} (hft : FTok P ft) {f : Nat} {fi : FI} (h : ft.get f = some fi) : HasText P f := by
  obtain ⟨fn, k1, k2, _, _, k5, _⟩ := hft f fi h
  exact ⟨fn, _, k1, k5, k2⟩

/-- A contract of a function, with its number. -/
structure Sum (P : Program) where
  f : Nat
  g : SumF
  ok : SumOk P f g

def rows {P : Program} : List (Sum P) → List (Nat × SumF)
  | [] => []
  | s :: l => (s.f, s.g) :: rows l

theorem rows_mem {P : Program} : ∀ {l : List (Sum P)} {f : Nat} {g : SumF}, (f, g) ∈ rows l → ∃ s ∈ l, s.f = f ∧ s.g = g := by
  intro l
  induction l with
  | nil => intro f g h; cases h
  | cons s l ih =>
    intro f g h
    rcases List.mem_cons.1 h with e | h
    · cases e; exact ⟨s, List.mem_cons_self, rfl, rfl⟩
    · obtain ⟨t, h1, h2⟩ := ih h; exact ⟨t, List.mem_cons_of_mem _ h1, h2⟩

def textB (ft : Tr FI) : List (Nat × SumF) → Bool
  | [] => true
  | p :: l => cond (ft.get p.1).isSome (textB ft l) false

theorem textB_ok {ft : Tr FI} : ∀ {l : List (Nat × SumF)}, textB ft l = true → ∀ p ∈ l, ∃ fi, ft.get p.1 = some fi := by
  intro l
  induction l with
  | nil => intro _ p hp; cases hp
  | cons q l ih =>
    intro h p hp
    simp only [textB] at h
    cases hq : (ft.get q.1).isSome with
    | false => rw [hq] at h; cases h
    | true =>
      rw [hq] at h
      rcases List.mem_cons.1 hp with rfl | hp
      · exact Option.isSome_iff_exists.1 hq
      · exact ih h p hp

theorem otok_of {P : Program} {ft : Tr FI} (hft : FTok P ft) {ot : OT} {l : List (Nat × SumF)} (h : tabOf l = ot) (ht : textB ft l = true) (hl : ∀ p ∈ l, SumOk P p.1 p.2) : OTok P ot := by
  subst h
  intro f g hf
  have hm := tabOf_get hf
  obtain ⟨fi, hfi⟩ := textB_ok ht _ hm
  exact ⟨hasText hft hfi, hl _ hm⟩

theorem otok_nil (P : Program) : OTok P .nil := fun f g h => by simp [Tr.get_nil] at h

/-- A function without arguments that answers a bool. -/
def constS (v : AV) : List AV → Option (List Bool × AV)
  | [] => some ([], v)
  | _ => none

theorem sumOk_const {P : Program} (hmx : P.follows .mixedOrders = true) {ft : Tr FI} (hft : FTok P ft) {tt : TT} (htt : TTok P tt) {nt : NT} (hnt : NTok P nt) {ot : OT} (hot : OTok P ot) {lf n k : Nat} {b : Bool}
    (h : ∃ H', funA ft tt nt ot lf n (.fn k) [] H0 = some (.bool b, H')) : SumOk P k (pureS (constS (.bool b))) := by
  refine sumOk_pure hmx hft htt hnt hot (lf := lf) (n := n) ?_
  intro args cs v hs _
  cases args with
  | cons _ _ => cases hs
  | nil =>
    cases hs
    obtain ⟨H', h⟩ := h
    exact ⟨_, H', h, rfl⟩

def isT : Option (AV × AH) → Bool
  | some (.bool true, _) => true
  | _ => false

theorem isT_iff {r : Option (AV × AH)} (h : isT r = true) : ∃ H', r = some (.bool true, H') := by
  unfold isT at h
  split at h
  · exact ⟨_, rfl⟩
  · cases h

end
end Go.VM

/- Loops: a function's own table, the loops of a code. -/
namespace Go.VM
open Go
noncomputable section

theorem ftok_set {P : Program} {ft : Tr FI} (hft : FTok P ft) {k : Nat} {fi0 fi : FI} (h0 : ft.get k = some fi0) (h1 : fi.ntmps = fi0.ntmps) (h2 : fi.results = fi0.results) (h3 : fi.body = fi0.body) (h4 : ∀ i, fi.init.get i = none) : FTok P (ft.set 40 k (some fi)) := by
  intro f fi' h
  rcases Tr.get_set_any 40 ft k f (some fi) with e | ⟨rfl, e⟩
  · rw [e] at h; exact hft f fi' h
  · rw [e] at h; cases h
    obtain ⟨fn, k1, k2, k3, k4, k5, k6, _⟩ := hft f fi0 h0
    exact ⟨fn, k1, by rw [h3]; exact k2, by rw [h1]; exact k3, by rw [h2]; exact k4, k5, by rw [h3]; exact k6, h4⟩

/-- The loops of a code, in the order of the text. -/
def loopsC : Code → List Code
  | .seq a b => loopsC a ++ loopsC b
  | .cond _ a b => loopsC a ++ loopsC b
  | .block _ b => loopsC b
  | .scope b => loopsC b
  | .loop b => b :: loopsC b
  | .rangeFunc _ _ a b => loopsC a ++ loopsC b
  | _ => []

def loopAt (fi : FI) (i : Nat) : Code := (loopsC fi.body).getD i .skip

def trimAt (key : Nat) (l : List Nat) : TrimF := fun i => cond (Nat.beq i key) (some l) none

/-- Code whose loops are handed over. -/
def codeH {R : Type} (tt : TT) (nt : NT) (call : CallK R) (lf : Nat) (tm : TrimF) (LP : Code → AF → AH → (Ex → AF → AH → Option R) → Option R) : Code → AF → AH → (Ex → AF → AH → Option R) → Option R
  | .seq a b, fr, H, k =>
    codeH tt nt call lf tm LP a fr H fun e fr' H' => match e with
      | .norm => codeH tt nt call lf tm LP b fr' H' k
      | e => k e fr' H'
  | .cond c a b, fr, H, k =>
    match evx fr.tmps c with
    | some (.bool t) => match c with
      | .tmp i => cond (Nat.ble i 1000000) (knowK fr.tmps i t fun t tmps => cond t (codeH tt nt call lf tm LP a { fr with tmps := tmps } H k) (codeH tt nt call lf tm LP b { fr with tmps := tmps } H k)) (cond t (codeH tt nt call lf tm LP a fr H k) (codeH tt nt call lf tm LP b fr H k))
      | _ => cond t (codeH tt nt call lf tm LP a fr H k) (codeH tt nt call lf tm LP b fr H k)
    | _ => none
  | .block id b, fr, H, k =>
    codeH tt nt call lf tm LP b fr H fun e fr' H' => match e with
      | .exit id' => cond (Nat.beq id' id) (k .norm fr' H') (k (.exit id') fr' H')
      | e => k e fr' H'
  | .scope b, fr, H, k => codeH tt nt call lf tm LP b fr H k
  | .loop b, fr, H, k => LP b (trimFr (tm (keyC b)) fr) (trimH (tm (keyC b)) H) k
  | c, fr, H, k => codeK tt nt call lf tm c fr H k

/-- What comes behind the i-th loop of a code. -/
def contH {R : Type} (tt : TT) (nt : NT) (call : CallK R) (lf : Nat) (tm : TrimF) (LP : Code → AF → AH → (Ex → AF → AH → Option R) → Option R) : Code → Nat → (Ex → AF → AH → Option R) → (Ex → AF → AH → Option R)
  | .seq a b, i, k => cond (Nat.blt i (loopsC a).length) (contH tt nt call lf tm LP a i fun e fr H => match e with
      | .norm => codeH tt nt call lf tm LP b fr H k
      | e => k e fr H) (contH tt nt call lf tm LP b (i - (loopsC a).length) k)
  | .cond _ a b, i, k => cond (Nat.blt i (loopsC a).length) (contH tt nt call lf tm LP a i k) (contH tt nt call lf tm LP b (i - (loopsC a).length) k)
  | .block id b, i, k => contH tt nt call lf tm LP b i fun e fr H => match e with
      | .exit id' => cond (Nat.beq id' id) (k .norm fr H) (k (.exit id') fr H)
      | e => k e fr H
  | .scope b, i, k => contH tt nt call lf tm LP b i k
  | _, _, k => k

def kendK {R : Type} (tt : TT) (fi : FI) (k : AV → AH → Option R) : Ex → AF → AH → Option R := fun e fr H' => match e with
  | .norm => endK tt fi k fr H'
  | .ret => endK tt fi k fr H'
  | .exit _ => none

/-- A run of a function whose loops are handed over. -/
def runH {R : Type} (tt : TT) (nt : NT) (call : CallK R) (lf : Nat) (LP : Code → AF → AH → (Ex → AF → AH → Option R) → Option R) (fi : FI) (args : List AV) (H : AH) (k : AV → AH → Option R) : Option R :=
  cond (Nat.ble args.length fi.ntmps && Nat.ble fi.ntmps 1000000)
  (codeH tt nt call lf fi.trim LP fi.body { tmps := argT fi.init args 0, sz := fi.ntmps, marks := [], rnd := none } H (kendK tt fi k)) none

def loopLP {R : Type} (tt : TT) (nt : NT) (call : CallK R) (lf : Nat) (tm : TrimF) : Code → AF → AH → (Ex → AF → AH → Option R) → Option R :=
  fun b fr H k => loopK (tm (keyC b)) (codeK tt nt call lf tm b) lf fr H k

theorem onlyT_same {t t' : Tr AV} : ∀ {l : List Nat}, (∀ x ∈ l, t.get x = t'.get x) → onlyT t l = onlyT t' l := by
  intro l
  induction l with
  | nil => intro _; rfl
  | cons x xs ih =>
    intro h
    simp only [onlyT]
    rw [ih (fun y hy => h y (List.mem_cons_of_mem _ hy)), h x List.mem_cons_self]

theorem onlyT_in {t : Tr AV} : ∀ {l : List Nat}, (∀ x ∈ l, x < 1099511627775) → ∀ x ∈ l, (onlyT t l).get x = t.get x := by
  intro l
  induction l with
  | nil => intro _ x hx; cases hx
  | cons y ys ih =>
    intro h x hx
    simp only [onlyT]
    rw [Tr.get_set _ y _ (h y List.mem_cons_self)]
    unfold upd
    split
    · rename_i e; rw [e]
    · rename_i hne
      rcases List.mem_cons.1 hx with e | hx
      · exact absurd e hne
      · exact ih (fun z hz => h z (List.mem_cons_of_mem _ hz)) x hx

theorem memN_ded {x : Nat} {l : List Nat} (h : x ∈ dedN l) : x ∈ l := by
  induction l with
  | nil => exact h
  | cons y ys ih =>
    simp only [dedN] at h
    cases hm : memN y ys with
    | true => rw [hm, cond_true] at h; exact List.mem_cons_of_mem _ (ih h)
    | false =>
      rw [hm, cond_false] at h
      rcases List.mem_cons.1 h with rfl | h
      · exact List.mem_cons_self
      · exact List.mem_cons_of_mem _ (ih h)

theorem dedN_idem : ∀ (l : List Nat), dedN (dedN l) = dedN l := by
  intro l
  induction l with
  | nil => rfl
  | cons y ys ih =>
    simp only [dedN]
    cases hm : memN y ys with
    | true => rw [cond_true]; exact ih
    | false =>
      rw [cond_false]
      simp only [dedN, ih]
      have : memN y (dedN ys) = false := by
        cases h2 : memN y (dedN ys) with
        | false => rfl
        | true => have := memN_iff.2 (memN_ded (memN_iff.1 h2)); rw [hm] at this; cases this
      rw [this, cond_false]

def TrimB (tm : TrimF) : Prop := ∀ key l, tm key = some l → ∀ x ∈ l, x < 1099511627775

theorem trimFr_idem {tm : TrimF} (hb : TrimB tm) (key : Nat) (fr : AF) : trimFr (tm key) (trimFr (tm key) fr) = trimFr (tm key) fr := by
  cases h : tm key with
  | none => rfl
  | some l =>
    show ({ fr with tmps := onlyT (onlyT fr.tmps l) l } : AF) = { fr with tmps := onlyT fr.tmps l }
    rw [onlyT_same (onlyT_in (hb key l h))]

theorem trimH_idem (t : Option (List Nat)) (H : AH) : trimH t (trimH t H) = trimH t H := by
  cases t with
  | none => rfl
  | some l =>
    show ({ H with log := dedN (dedN H.log) } : AH) = { H with log := dedN H.log }
    rw [dedN_idem]

theorem loopK_trim {R : Type} {tm : TrimF} (hb : TrimB tm) (key : Nat) (body : AF → AH → (Ex → AF → AH → Option R) → Option R) (m : Nat) (fr : AF) (H : AH) (k : Ex → AF → AH → Option R) :
    loopK (tm key) body m (trimFr (tm key) fr) (trimH (tm key) H) k = loopK (tm key) body m fr H k := by
  cases m with
  | zero => rfl
  | succ m => simp only [loopK, trimFr_idem hb, trimH_idem]

theorem codeH_eq {R : Type} {tt : TT} {nt : NT} {call : CallK R} {lf : Nat} {tm : TrimF} (hb : TrimB tm) : ∀ (c : Code) (fr : AF) (H : AH) (k : Ex → AF → AH → Option R),
    codeH tt nt call lf tm (loopLP tt nt call lf tm) c fr H k = codeK tt nt call lf tm c fr H k := by
  intro c
  induction c with
  | seq a b iha ihb =>
    intro fr H k
    simp only [codeH, codeK, iha]
    congr 1; funext e fr' H'
    cases e with
    | norm => exact ihb _ _ _
    | exit id => rfl
    | ret => rfl
  | cond c a b iha ihb =>
    intro fr H k
    simp only [codeH, codeK, iha, ihb]
    try rfl
  | block id b ih =>
    intro fr H k
    simp only [codeH, codeK, ih]
    try rfl
  | scope b ih => intro fr H k; exact ih _ _ _
  | loop b ih => intro fr H k; exact loopK_trim hb _ _ _ _ _ _
  | _ => intros; rfl

theorem funK_H {R : Type} {ft : Tr FI} {tt : TT} {nt : NT} {ot : OT} {lf n f : Nat} {fi : FI} (ho : ot.get f = none) (hf : ft.get f = some fi) (hb : TrimB fi.trim) (args : List AV) (H : AH) (k : AV → AH → Option R) :
    funK ft tt nt ot lf (n + 1) (.fn f) args H k = runH tt nt (funK ft tt nt ot lf n) lf (loopLP tt nt (funK ft tt nt ot lf n) lf fi.trim) fi args H k := by
  simp only [funK, ho, hf, Option.bind_some, runK, runH, codeH_eq hb]
  rfl

/-- One round, from a head to the next. -/
def roundT (tt : TT) (nt : NT) (call : CallK (Ex × AF × AH)) (lf : Nat) (tm : TrimF) (b : Code) (fr : AF) (H : AH) : Option (Ex × AF × AH) :=
  codeK tt nt call lf tm b fr H fun e fr' H' => some (e, trimFr (tm (keyC b)) fr', trimH (tm (keyC b)) H')

theorem loopA_ind {t : Option (List Nat)} {body : AF → AH → Option (Ex × AF × AH)} {st : Nat → AF × AH} {n : Nat} {e : Ex} {fin : AF × AH}
    (hidF : ∀ i, i ≤ n → trimFr t (st i).1 = (st i).1) (hidH : ∀ i, i ≤ n → trimH t (st i).2 = (st i).2)
    (step : ∀ i, i < n → (body (st i).1 (st i).2).bind (fun r => some (r.1, trimFr t r.2.1, trimH t r.2.2)) = some (.norm, (st (i + 1)).1, (st (i + 1)).2))
    (last : (body (st n).1 (st n).2).bind (fun r => some (r.1, trimFr t r.2.1, trimH t r.2.2)) = some (e, fin.1, fin.2)) (he : e ≠ .norm) :
    ∀ (j i m : Nat) (fr : AF) (H : AH), i + j = n → j < m → trimFr t fr = (st i).1 → trimH t H = (st i).2 → loopA t body m fr H = some (e, fin.1, fin.2) := by
  intro j
  induction j with
  | zero =>
    intro i m fr H hi hm hF hH
    obtain rfl : i = n := by omega
    obtain ⟨m, rfl⟩ : ∃ q, m = q + 1 := ⟨m - 1, by omega⟩
    simp only [loopA, hF, hH]
    cases hb : body (st i).1 (st i).2 with
    | none => rw [hb] at last; cases last
    | some r =>
      obtain ⟨e1, fr1, H1⟩ := r
      rw [hb] at last
      simp only [Option.bind_some, Option.some.injEq, Prod.mk.injEq] at last
      obtain ⟨rfl, h2, h3⟩ := last
      cases e1 with
      | norm => exact absurd rfl he
      | exit id => simp only [h2, h3]
      | ret => simp only [h2, h3]
  | succ j ih =>
    intro i m fr H hi hm hF hH
    obtain ⟨m, rfl⟩ : ∃ q, m = q + 1 := ⟨m - 1, by omega⟩
    simp only [loopA, hF, hH]
    have hs := step i (by omega)
    cases hb : body (st i).1 (st i).2 with
    | none => rw [hb] at hs; cases hs
    | some r =>
      obtain ⟨e1, fr1, H1⟩ := r
      rw [hb] at hs
      simp only [Option.bind_some, Option.some.injEq, Prod.mk.injEq] at hs
      obtain ⟨rfl, h2, h3⟩ := hs
      exact ih (i + 1) m fr1 H1 (by omega) (by omega) h2 h3

/-- A loop, by its rounds. -/
theorem loopK_ind {R : Type} {ft : Tr FI} {tt : TT} {nt : NT} {ot : OT} {lf q : Nat} {tm : TrimF} {b : Code} {st : Nat → AF × AH} {n : Nat} {e : Ex} {fin : AF × AH}
    (hidF : ∀ i, i ≤ n → trimFr (tm (keyC b)) (st i).1 = (st i).1) (hidH : ∀ i, i ≤ n → trimH (tm (keyC b)) (st i).2 = (st i).2)
    (step : ∀ i, i < n → roundT tt nt (funK ft tt nt ot lf q) lf tm b (st i).1 (st i).2 = some (.norm, (st (i + 1)).1, (st (i + 1)).2))
    (last : roundT tt nt (funK ft tt nt ot lf q) lf tm b (st n).1 (st n).2 = some (e, fin.1, fin.2)) (he : e ≠ .norm) {m : Nat} (hm : n < m) {fr : AF} {H : AH}
    (hF : trimFr (tm (keyC b)) fr = (st 0).1) (hH : trimH (tm (keyC b)) H = (st 0).2) (k : Ex → AF → AH → Option R) :
    loopK (tm (keyC b)) (codeK tt nt (funK ft tt nt ot lf q) lf tm b) m fr H k = k e fin.1 fin.2 := by
  have hk : ∀ {R' : Type}, KEq (R := R') (funK ft tt nt ot lf q) (funA ft tt nt ot lf q) := fun c args H k => funK_eq ft tt nt ot lf q c args H k
  rw [loopK_eq (body := codeA tt nt (funA ft tt nt ot lf q) lf tm b) (fun fr H k => codeK_eq hk lf tm b fr H k)]
  have conv : ∀ (fr : AF) (H : AH), roundT tt nt (funK ft tt nt ot lf q) lf tm b fr H = (codeA tt nt (funA ft tt nt ot lf q) lf tm b fr H).bind (fun r => some (r.1, trimFr (tm (keyC b)) r.2.1, trimH (tm (keyC b)) r.2.2)) :=
    fun fr H => codeK_eq hk lf tm b fr H _
  rw [loopA_ind hidF hidH (fun i hi => by rw [← conv]; exact step i hi) (by rw [← conv]; exact last) he n 0 m fr H (by omega) hm hF hH]
  rfl

end
end Go.VM

