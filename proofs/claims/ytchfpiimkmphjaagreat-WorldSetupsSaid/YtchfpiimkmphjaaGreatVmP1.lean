/- An abstract machine for the program form, with the proof that it is sound: part VmP1. No condition. -/
import GoSem.Dispatch
import GoSem.Machine.Frame
/- The abstract machine: values, objects, heaps, and what each operation does to them. -/
namespace Go.VM
open Go
noncomputable section

/-- Abstract values. `list`: a slice whose elements are known and never change. `lp`: the address of such cells. -/
inductive AV where
  | bool (b : Bool)
  | int (k : IntKind) (n : Int)
  | str (s : ByteArray)
  | nilp
  | ptr (id sz idx off : Nat)
  | lp (cs : List AV)
  | nils
  | slice (id sz st len cap : Nat) (ex : Bool)
  | emp
  | emp0
  | list (sz : Nat) (es : List (List AV))
  | nilm
  | map (id : Nat)
  | func (f : FuncId) (caps : List AV)
  | yld (id : Nat)
  | nilf
  | iface (t : TypeId) (v : AV)
  | nili
  | agg (cs : List AV)
  | tup (vs : List AV)
  | dead
  deriving Inhabited

def AV.isCell : AV → Bool
  | .agg _ | .tup _ | .dead => false
  | _ => true

def AV.cells : AV → Option (List AV)
  | .agg cs => some cs
  | .tup _ => none
  | .dead => none
  | v => some [v]

/-- Binary trees over numbers. -/
inductive Tr (α : Type) where
  | nil
  | node (l : Tr α) (v : Option α) (r : Tr α)
  deriving Inhabited

def cond {α : Type} (c : Bool) (x y : α) : α := @Bool.rec (fun _ => α) y x c

@[simp] theorem cond_true {α : Type} (x y : α) : cond true x y = x := rfl
@[simp] theorem cond_false {α : Type} (x y : α) : cond false x y = y := rfl

@[simp] theorem cond_same {α : Type} (c : Bool) (x : α) : cond c x x = x := by cases c <;> rfl

def Tr.get {α : Type} (t : Tr α) : Nat → Option α :=
  @Tr.rec α (fun _ => Nat → Option α) (fun _ => none)
    (fun _ v _ gl gr i => @Bool.rec (fun _ => Option α) (@Bool.rec (fun _ => Option α) (gr (Nat.sub (Nat.div i 2) 1)) (gl (Nat.div i 2)) (Nat.beq (Nat.mod i 2) 1)) v (Nat.beq i 0)) t

def Tr.set {α : Type} (n : Nat) : Tr α → Nat → Option α → Tr α :=
  @Nat.rec (fun _ => Tr α → Nat → Option α → Tr α) (fun t _ _ => t)
    (fun _ st t i x => @Tr.rec α (fun _ => Tr α)
      (@Bool.rec (fun _ => Tr α) (@Bool.rec (fun _ => Tr α) (.node .nil none (st .nil (Nat.sub (Nat.div i 2) 1) x)) (.node (st .nil (Nat.div i 2) x) none .nil) (Nat.beq (Nat.mod i 2) 1)) (.node .nil x .nil) (Nat.beq i 0))
      (fun l v r _ _ => @Bool.rec (fun _ => Tr α) (@Bool.rec (fun _ => Tr α) (.node l v (st r (Nat.sub (Nat.div i 2) 1) x)) (.node (st l (Nat.div i 2) x) v r) (Nat.beq (Nat.mod i 2) 1)) (.node l x r) (Nat.beq i 0)) t) n

theorem Tr.get_nil {α : Type} (i : Nat) : (Tr.nil : Tr α).get i = none := rfl
theorem Tr.get_node {α : Type} (l r : Tr α) (v : Option α) (i : Nat) : (Tr.node l v r).get i = cond (Nat.beq i 0) v (cond (Nat.beq (i % 2) 1) (l.get (i / 2)) (r.get (i / 2 - 1))) := rfl
theorem Tr.set_zero {α : Type} (t : Tr α) (i : Nat) (x : Option α) : t.set 0 i x = t := rfl
theorem Tr.set_nil {α : Type} (n : Nat) (i : Nat) (x : Option α) : (Tr.nil : Tr α).set (n + 1) i x = cond (Nat.beq i 0) (.node .nil x .nil)
      (cond (Nat.beq (i % 2) 1) (.node (Tr.set n .nil (i / 2) x) none .nil) (.node .nil none (Tr.set n .nil (i / 2 - 1) x))) := rfl
theorem Tr.set_node {α : Type} (n : Nat) (l r : Tr α) (v : Option α) (i : Nat) (x : Option α) : (Tr.node l v r).set (n + 1) i x = cond (Nat.beq i 0) (.node l x r)
      (cond (Nat.beq (i % 2) 1) (.node (Tr.set n l (i / 2) x) v r) (.node l v (Tr.set n r (i / 2 - 1) x))) := rfl

inductive UD where
  | bool | int (k : IntKind) | str | ptr (e : TypeId) | slice (e : TypeId) | arr (n : Nat) (e : TypeId)
  | struct (fs : List (Nat × Nat × TypeId)) | map (k e : TypeId) | iface | func | oth

structure TI where
  size : Nat
  bytes : Nat
  ud : UD
  zero : List AV
  eqok : Bool
  meths : List (String × FuncId)
  /-- A hint: appends to such elements are always told as growth. -/
  grow : Bool := false

def UD.isAgg : UD → Bool
  | .struct _ | .arr _ _ => true
  | _ => false

/-- Abstract objects. -/
inductive AO where
  | arr (sz : Nat) (es : List (List AV))
  | map (es : List (AV × AV))
  | loop (st : LoopState) (pend : Option Code) (tmps : Tr AV) (sz : Nat) (ps : List Tmp) (assign body : Code) (d : Nat)
  | defd
  deriving Inhabited

structure AH where
  next : Nat
  tr : Tr AO
  log : List Nat

def AH.get (H : AH) (i : Nat) : Option AO := H.tr.get i
def AH.put (H : AH) (i : Nat) (o : Option AO) : AH := { next := H.next, tr := H.tr.set 40 i o, log := i :: H.log }
def AH.new (H : AH) (o : AO) : Option (Nat × AH) :=
  cond (Nat.ble H.next 1000000000) (some (H.next, { next := H.next + 1, tr := H.tr.set 40 H.next (some o), log := H.next :: H.log })) none

abbrev TT := Tr TI

/-- The constants of a text. -/
def ofCell : Value → Option AV
  | .bool b => some (.bool b)
  | .int k n => some (.int k n)
  | .string s => some (.str s)
  | .pointer none => some .nilp
  | .slice none 0 0 => some .nils
  | .map none => some .nilm
  | .nilFunc => some .nilf
  | .nilIface => some .nili
  | .func (.func f) ⟨[]⟩ ⟨[]⟩ => some (.func f [])
  | _ => none

def ofCells : List Value → Option (List AV)
  | [] => some []
  | v :: vs => (ofCell v).bind fun a => (ofCells vs).bind fun as => some (a :: as)

def ofVal : Value → Option AV
  | .agg ⟨cs⟩ => (ofCells cs).bind fun as => some (.agg as)
  | v => ofCell v

def evx (tmps : Tr AV) : Operand → Option AV
  | .tmp t => tmps.get t
  | .const v => ofVal v
  | .func f => some (.func f [])
  | .global _ => none

def evs (tmps : Tr AV) : List Operand → Option (List AV)
  | [] => some []
  | x :: xs => (evx tmps x).bind fun a => (evs tmps xs).bind fun as => some (a :: as)

/-- Cells overwritten from a place on. -/
def over : List AV → Nat → List AV → List AV
  | cs, _, [] => cs
  | [], _, _ => []
  | _ :: cs, 0, v :: vs => v :: over cs 0 vs
  | c :: cs, n + 1, vs => c :: over cs n vs

def fillA (place : Nat → Option (Nat × Nat)) (cells : List AV) : List (Nat × AV) → Option (List AV)
  | [] => some cells
  | (i, v) :: rest =>
    (place i).bind fun p => v.cells.bind fun cs =>
      cond (Nat.beq cs.length p.2 && Nat.ble (p.1 + cs.length) cells.length) (fillA place (over cells p.1 cs) rest) none

def evParts (tmps : Tr AV) : List (Nat × Operand) → Option (List (Nat × AV))
  | [] => some []
  | (i, x) :: xs => (evx tmps x).bind fun a => (evParts tmps xs).bind fun as => some ((i, a) :: as)

/-- A part of a row of cells, as a value of a type. -/
def partA (ti : TI) (cs : List AV) (off : Nat) : Option AV :=
  cond ti.ud.isAgg (cond (Nat.ble (off + ti.size) cs.length) (some (.agg ((cs.drop off).take ti.size))) none) (cs[off]?)

def orV (x y : Option AV) : Option AV := match x with
  | some v => some v
  | none => y

def loadA (ti : TI) (a : AV) (H : AH) : Option AV :=
  match a with
  | .ptr id sz idx off =>
    match H.get id with
    | some (.arr sz' es) => cond (Nat.beq sz sz') ((es[idx]?).bind fun cs => orV (partA ti cs off) (partA ti (es.drop idx).flatten off)) none
    | _ => none
  | .lp cs => partA ti cs 0
  | _ => none

def storeA (ti : TI) (a v : AV) (H : AH) : Option AH :=
  match a with
  | .ptr id sz idx off =>
    match H.get id with
    | some (.arr sz' es) =>
      cond (Nat.beq sz sz') ((es[idx]?).bind fun cs => v.cells.bind fun vs =>
        cond (Nat.beq vs.length ti.size && Nat.ble (off + vs.length) cs.length) (some (H.put id (some (.arr sz (es.set idx (over cs off vs)))))) none) none
    | _ => none
  | _ => none

def fieldOf (fs : List (Nat × Nat × TypeId)) (f : Nat) : Option (Nat × Nat × TypeId) := fs[f]?

def fieldAddrA (ti : TI) (x : AV) (f : Nat) : Option AV :=
  match ti.ud with
  | .struct fs =>
    (fs[f]?).bind fun q => cond (Nat.beq q.2.1 0) none
      (match x with
      | .ptr id sz idx off => some (.ptr id sz idx (off + q.1))
      | .lp cs => cond (Nat.ble q.1 cs.length) (some (.lp (cs.drop q.1))) none
      | _ => none)
  | _ => none

def natOf : AV → Option Nat
  | .int _ (.ofNat n) => some n
  | _ => none

def intOf : AV → Option Int
  | .int _ n => some n
  | _ => none

def indexAddrA (tt : TT) (ti : TI) (x i : AV) : Option AV :=
  (natOf i).bind fun n =>
  match ti.ud, x with
  | .arr m e, .ptr id sz idx off => (tt.get e).bind fun te => cond (Nat.blt n m) (some (.ptr id sz idx (off + n * te.size))) none
  | .arr m e, .lp cs => (tt.get e).bind fun te => cond (Nat.blt n m && Nat.ble (n * te.size) cs.length) (some (.lp (cs.drop (n * te.size)))) none
  | .slice e, .slice id sz st len _ _ => (tt.get e).bind fun te => cond (Nat.beq te.size sz) (cond (Nat.blt n len) (some (.ptr id sz (st + n) 0)) none) none
  | .slice e, .list sz es => (tt.get e).bind fun te => cond (Nat.beq te.size sz) ((es[n]?).bind fun cs => some (.lp cs)) none
  | _, _ => none

def indexA (tt : TT) (ti : TI) (x i : AV) : Option AV :=
  (natOf i).bind fun n =>
  match ti.ud, x with
  | .arr m e, .agg cs => (tt.get e).bind fun te => cond (Nat.blt n m) (partA te cs (n * te.size)) none
  | .str, .str s => (s[n]?).bind fun b => some (.int .u8 b.toNat)
  | _, _ => none

/-- The elements of a slice or a string. -/
def elemsA (x : AV) (H : AH) : Option (List (List AV)) :=
  match x with
  | .nils => some []
  | .emp => some []
  | .emp0 => some []
  | .list _ es => some es
  | .slice id sz st len _ _ =>
    match H.get id with
    | some (.arr sz' es) => cond (Nat.beq sz sz' && Nat.ble (st + len) es.length) (some ((es.drop st).take len)) none
    | _ => none
  | .str s => some (s.data.toList.map fun b => [.int .u8 b.toNat])
  | _ => none

/-- Elements overwritten from a place on. -/
def overE : List (List AV) → Nat → List (List AV) → List (List AV)
  | cs, _, [] => cs
  | [], _, _ => []
  | _ :: cs, 0, v :: vs => v :: overE cs 0 vs
  | c :: cs, n + 1, vs => c :: overE cs n vs

def sizeOk (sz : Nat) : AV → Bool
  | .list s _ => Nat.beq s sz
  | .slice _ s _ _ _ _ => Nat.beq s sz
  | .str _ => Nat.beq sz 1
  | _ => true

def okLen (n b : Nat) : Bool := Nat.ble b 67108864 && Nat.ble n 1000000
theorem okLen_ok {n b : Nat} (h : okLen n b = true) : (2 * n + 1024) * b ≤ 281474976710656 ∧ n ≤ 1099511627776 := by
  unfold okLen at h
  rw [Bool.and_eq_true] at h
  have h1 := Nat.le_of_ble_eq_true h.1
  have h2 := Nat.le_of_ble_eq_true h.2
  have h3 : (2 * n + 1024) * b ≤ 2001024 * 67108864 := Nat.mul_le_mul (by omega) h1
  exact ⟨by omega, by omega⟩

def appendA (te tx : TI) (s x : AV) (H : AH) : Option (AV × AH) :=
  cond (match tx.ud with | .slice _ | .str => true | _ => false)
    (cond (sizeOk te.size x && Nat.beq te.zero.length te.size)
    ((elemsA x H).bind fun new =>
      match s with
      | .nils =>
        match new with
        | [] => some (.nils, H)
        | _ :: _ =>
          cond (okLen new.length te.bytes)
            ((H.new (.arr te.size new)).bind fun r => some (.slice r.1 te.size 0 new.length new.length false, r.2)) none
      | .emp0 =>
        match new with
        | [] => some (.emp0, H)
        | _ :: _ =>
          cond (okLen new.length te.bytes)
            ((H.new (.arr te.size new)).bind fun r => some (.slice r.1 te.size 0 new.length new.length false, r.2)) none
      | .slice id sz st len cap ex =>
        cond (Nat.beq sz te.size)
        (match H.get id with
        | some (.arr sz' es) =>
          cond (Nat.beq sz' sz && Nat.ble (st + len) es.length)
          (cond (!(te.grow && !ex) && Nat.ble (len + new.length) cap)
            (cond (Nat.ble (st + cap) es.length)
              (some (.slice id sz st (len + new.length) cap ex, H.put id (some (.arr sz (overE es (st + len) new))))) none)
            (cond (okLen (len + new.length) te.bytes)
              (cond ex
                ((H.new (.arr sz ((es.drop st).take len ++ new))).bind fun r => some (.slice r.1 sz 0 (len + new.length) (len + new.length) false, r.2))
                (cond (Nat.beq st 0)
                  (((H.put id none).new (.arr sz (es.take len ++ new))).bind fun r => some (.slice r.1 sz 0 (len + new.length) (len + new.length) false, r.2)) none))
              none)) none
        | _ => none) none
      | _ => none) none) none

def arrayAtA (ti : TI) (x : AV) : Option AV :=
  match ti.ud, x with
  | .arr n _, .slice id sz st len _ _ => cond (Nat.ble n len) (some (.ptr id sz st 0)) none
  | _, _ => none

def sliceA (tt : TT) (ti : TI) (x : AV) (lo hi mx : Option AV) : Option AV :=
  match ti.ud, x with
  | .str, .str s =>
    match mx with
    | some _ => none
    | none =>
      ((match hi with | some h => natOf h | none => some s.size) : Option Nat).bind fun h =>
      ((match lo with | some l => natOf l | none => some 0) : Option Nat).bind fun l =>
      cond (Nat.ble h s.size && Nat.ble l h) (some (.str (s.extract l h))) none
  | .slice e, .nils =>
      (tt.get e).bind fun _ =>
      ((match hi with | some h => natOf h | none => some 0) : Option Nat).bind fun h =>
      ((match lo with | some l => natOf l | none => some 0) : Option Nat).bind fun l =>
      ((match mx with | some m => natOf m | none => some 0) : Option Nat).bind fun m =>
      cond (Nat.beq h 0 && Nat.beq l 0 && Nat.beq m 0 && (match mx, hi with | some _, none => false | _, _ => true)) (some .nils) none
  | .slice e, .slice id sz st len cap ex =>
      (tt.get e).bind fun te => cond (Nat.beq te.size sz)
      (((match hi with | some h => natOf h | none => some len) : Option Nat).bind fun h =>
      ((match lo with | some l => natOf l | none => some 0) : Option Nat).bind fun l =>
      match mx, hi with
      | some _, none => none
      | some m, some _ =>
        (natOf m).bind fun m =>
        cond (Nat.ble m cap && Nat.ble h m && Nat.ble l h) (cond (Nat.blt l m) (some (.slice id sz (st + l) (h - l) (m - l) true)) (some .emp0)) none
      | none, _ =>
        cond (Nat.ble h cap && Nat.ble l h)
          (cond (Nat.blt l cap) (some (.slice id sz (st + l) (h - l) (cap - l) ex)) (cond ex (some (.slice id sz st 0 0 ex)) (some .emp))) none) none
  | .slice e, .list sz es =>
      (tt.get e).bind fun te => cond (Nat.beq te.size sz)
      (((match hi with | some h => natOf h | none => some es.length) : Option Nat).bind fun h =>
      ((match lo with | some l => natOf l | none => some 0) : Option Nat).bind fun l =>
      match mx, hi with
      | some _, none => none
      | some m, some _ => (natOf m).bind fun m => cond (Nat.beq m 0 && Nat.beq h 0 && Nat.beq l 0) (some .emp0) none
      | none, _ =>
        cond (Nat.ble h es.length && Nat.ble l h) (cond (Nat.blt l h) (some (.list sz ((es.take h).drop l))) (some .emp)) none) none
  | _, _ => none

/-- Equality, by the type. -/
def eqA (tt : TT) : Nat → TypeId → AV → AV → Option Bool
  | 0, _, _, _ => none
  | d + 1, t, x, y =>
    (tt.get t).bind fun ti =>
    match ti.ud, x, y with
    | .bool, .bool a, .bool b => some (a == b)
    | .int _, .int k a, .int k' b => match decide (k = k') with | true => some (a == b) | false => none
    | .str, .str a, .str b => some (a == b)
    | .ptr _, .nilp, .nilp => some true
    | .ptr _, .nilp, .ptr _ _ _ _ => some false
    | .ptr _, .ptr _ _ _ _, .nilp => some false
    | .slice _, .nils, .nils => some true
    | .slice _, .nils, .slice _ _ _ _ _ _ => some false
    | .slice _, .slice _ _ _ _ _ _, .nils => some false
    | .slice _, .nils, .list _ (_ :: _) => some false
    | .slice _, .list _ (_ :: _), .nils => some false
    | .map _ _, .nilm, .nilm => some true
    | .map _ _, .nilm, .map _ => some false
    | .map _ _, .map _, .nilm => some false
    | .func, .nilf, .nilf => some true
    | .func, .nilf, .func _ _ => some false
    | .func, .func _ _, .nilf => some false
    | .iface, .nili, .nili => some true
    | .iface, .nili, .iface _ _ => some false
    | .iface, .iface _ _, .nili => some false
    | .struct fs, .agg xs, .agg ys =>
      cond ti.eqok
        (fs.foldr (fun q r => (tt.get q.2.2).bind fun tq => (partA tq xs q.1).bind fun a => (partA tq ys q.1).bind fun b =>
          (eqA tt d q.2.2 a b).bind fun e => r.bind fun r => some (e && r)) (some true)) none
    | .arr n e, .agg xs, .agg ys =>
      cond ti.eqok ((tt.get e).bind fun te =>
        (List.range n).foldr (fun i r => (partA te xs (i * te.size)).bind fun a => (partA te ys (i * te.size)).bind fun b =>
          (eqA tt d e a b).bind fun e => r.bind fun r => some (e && r)) (some true)) none
    | _, _, _ => none

def bitsA (k : IntKind) (r : BitVec k.bits) : AV := .int k (k.wrap r.toNat)

def intOpA (op : BinOp) (k : IntKind) (a b : Int) : Option AV :=
  match op with
  | .add => some (.int k (k.wrap (a + b)))
  | .sub => some (.int k (k.wrap (a - b)))
  | .mul => some (.int k (k.wrap (a * b)))
  | .quo => cond (b == 0) none (some (.int k (k.wrap (a.tdiv b))))
  | .rem => cond (b == 0) none (some (.int k (a.tmod b)))
  | .and => some (bitsA k (BitVec.ofInt k.bits a &&& BitVec.ofInt k.bits b))
  | .or => some (bitsA k (BitVec.ofInt k.bits a ||| BitVec.ofInt k.bits b))
  | .xor => some (bitsA k (BitVec.ofInt k.bits a ^^^ BitVec.ofInt k.bits b))
  | .andNot => some (bitsA k (BitVec.ofInt k.bits a &&& ~~~ BitVec.ofInt k.bits b))
  | .eql => some (.bool (a == b))
  | .neq => some (.bool (a != b))
  | .lss => some (.bool (decide (a < b)))
  | .leq => some (.bool (decide (a ≤ b)))
  | .gtr => some (.bool (decide (a > b)))
  | .geq => some (.bool (decide (a ≥ b)))
  | _ => none

def strOpA (op : BinOp) (x y : ByteArray) : Option AV :=
  match op with
  | .add => cond (Nat.ble (x.size + y.size) 9223372036854775807) (some (.str (x ++ y))) none
  | .eql => some (.bool (x.toList == y.toList))
  | .neq => some (.bool (!(x.toList == y.toList)))
  | _ => none

def binOpA (tt : TT) (op : BinOp) (t : TypeId) (x y : AV) : Option AV :=
  match op, x, y with
  | .shl, .int k a, .int _ b => cond (decide (b < 0)) none (some (.int k (k.wrap (a * 2 ^ (min b.toNat k.bits)))))
  | .shr, .int k a, .int _ b => cond (decide (b < 0)) none (some (.int k (a.fdiv (2 ^ (min b.toNat k.bits)))))
  | op, .int k a, .int k' b => match decide (k = k') with | true => intOpA op k a b | false => none
  | op, .str a, .str b => strOpA op a b
  | .eql, x, y => (eqA tt 60 t x y).bind fun b => some (.bool b)
  | .neq, x, y => (eqA tt 60 t x y).bind fun b => some (.bool (!b))
  | _, _, _ => none

def unOpA (op : UnOp) (x : AV) : Option AV :=
  match op, x with
  | .neg, .int k n => some (.int k (k.wrap (0 - n)))
  | .xor, .int k n => some (bitsA k (BitVec.ofInt k.bits (if k.signed then -1 else k.max) ^^^ BitVec.ofInt k.bits n))
  | .not, .bool b => some (.bool (!b))
  | _, _ => none

def bytesOf : List (List AV) → Option (List UInt8)
  | [] => some []
  | [.int .u8 n] :: es => (bytesOf es).bind fun r => some (UInt8.ofNat n.toNat :: r)
  | _ => none

def convertA (tt : TT) (src dst : TypeId) (x : AV) (H : AH) : Option (AV × AH) :=
  (tt.get src).bind fun ts => (tt.get dst).bind fun td =>
  match ts.ud, td.ud, x with
  | _, .int k, .int _ n => some (.int k (k.wrap n), H)
  | .str, .str, .str s => some (.str s, H)
  | .slice e, .str, x =>
    (tt.get e).bind fun te => match te.ud with
      | .int .u8 => match x with
        | .str _ => none
        | x => cond (sizeOk 1 x) ((elemsA x H).bind fun es => (bytesOf es).bind fun bs => some (.str ⟨⟨bs⟩⟩, H)) none
      | _ => none
  | .str, .slice e, .str s =>
    (tt.get e).bind fun te => match te.ud with
      | .int .u8 =>
        (H.new (.arr 1 (s.data.toList.map fun b => [.int .u8 b.toNat]))).bind fun r => some (.slice r.1 1 0 s.size s.size false, r.2)
      | _ => none
  | .slice _, .slice e, .slice id sz st len cap ex =>
    cond (Nat.beq src dst) ((tt.get e).bind fun te => match te.ud with
      | .int .u8 => (match H.get id with
        | some (.arr sz' es) => some (.slice id sz st len cap ex, H.put id (some (.arr sz' es)))
        | _ => none)
      | _ => none) none
  | _, _, _ => none

def keyEq : AV → AV → Option Bool
  | .int k a, .int k' b => match decide (k = k') with | true => some (a == b) | false => none
  | _, _ => none

def mapFind (k : AV) : List (AV × AV) → Nat → Option (Option (Nat × AV))
  | [], _ => some none
  | e :: es, i => (keyEq k e.1).bind fun b => cond b (some (some (i, e.2))) (mapFind k es (i + 1))

def isIntT (tt : TT) (t : TypeId) : Bool := match tt.get t with | some ti => (match ti.ud with | .int _ => true | _ => false) | none => false

def zeroA (ti : TI) : Option AV := cond ti.ud.isAgg (some (.agg ti.zero)) (match ti.zero with | [v] => some v | _ => none)

def lookupA (tt : TT) (ti : TI) (m k : AV) (ok : Bool) (H : AH) : Option AV :=
  match ti.ud with
  | .map kt e =>
    cond (isIntT tt kt)
    ((match m with | .nilm => some [] | .map id => (match H.get id with | some (.map es) => some es | _ => none) | _ => none : Option (List (AV × AV))).bind fun es =>
      (tt.get e).bind fun te =>
      (match k with | .int _ _ => some () | _ => none : Option Unit).bind fun _ =>
      (mapFind k es 0).bind fun r => match r with
        | some (_, v) => some (cond ok (.tup [v, .bool true]) v)
        | none => (zeroA te).bind fun z => some (cond ok (.tup [z, .bool false]) z)) none
  | _ => none

def updateA (tt : TT) (ti : TI) (m k v : AV) (H : AH) : Option AH :=
  match ti.ud, m, k with
  | .map kt _, .map id, .int _ _ =>
    cond (isIntT tt kt && (match v with | .dead => false | _ => true))
    (match H.get id with
    | some (.map es) => (mapFind k es 0).bind fun r => match r with
        | some (i, _) => some (H.put id (some (.map (es.modify i fun _ => (k, v)))))
        | none => some (H.put id (some (.map (es ++ [(k, v)]))))
    | _ => none) none
  | _, _, _ => none

def deleteA (tt : TT) (ti : TI) (m k : AV) (H : AH) : Option AH :=
  match ti.ud, m, k with
  | .map kt _, .map id, .int _ _ =>
    cond (isIntT tt kt)
    (match H.get id with
    | some (.map es) => (mapFind k es 0).bind fun r => match r with
        | some (i, _) => some (H.put id (some (.map (es.eraseIdx i))))
        | none => some H
    | _ => none) none
  | _, _, _ => none

def lenA (ti : TI) (x : AV) (H : AH) : Option Nat :=
  match ti.ud, x with
  | .str, .str s => some s.size
  | .arr n _, _ => some n
  | .slice _, .nils => some 0
  | .slice _, .emp => some 0
  | .slice _, .emp0 => some 0
  | .slice _, .slice _ _ _ len _ _ => some len
  | .slice _, .list _ es => some es.length
  | .map _ _, .nilm => some 0
  | .map _ _, .map id => match H.get id with | some (.map es) => some es.length | _ => none
  | _, _ => none

def assertA (tt : TT) (x : AV) (t : TypeId) (ok : Bool) : Option AV :=
  (tt.get t).bind fun ti =>
  match ti.ud, x with
  | .iface, _ => none
  | _, .nili => cond ok ((zeroA ti).bind fun z => some (.tup [z, .bool false])) none
  | _, .iface t' v => cond (Nat.beq t' t) (some (cond ok (.tup [v, .bool true]) v)) (cond ok ((zeroA ti).bind fun z => some (.tup [z, .bool false])) none)
  | _, _ => none

def minmaxA (gt : Bool) : AV → AV → Option AV
  | .int k x, .int k' y => match decide (k = k') with
    | true => some (.int k (if (if gt then decide (y > x) else decide (y < x)) then y else x))
    | false => none
  | _, _ => none

def foldMM (gt : Bool) : AV → List AV → Option AV
  | x, [] => some x
  | x, y :: ys => (minmaxA gt x y).bind fun z => foldMM gt z ys

def rep {α : Type} (n : Nat) (x : α) : List α := List.replicate n x

/-- What an operation leads to. -/
inductive AN where
  | val (v : AV)
  | skip
  | fn (f : FuncId) (args : List AV)
  | round (l : Nat) (args : List AV)

def callA (f : AV) (args : List AV) : Option AN :=
  match f with
  | .func f caps => some (.fn f (args ++ caps))
  | .yld l => some (.round l args)
  | _ => none

def findM (n : String) : List (String × FuncId) → Option FuncId
  | [] => none
  | (m, f) :: r => cond (m == n) (some f) (findM n r)

def val1 (v : Option AV) (H : AH) : Option (AN × AH) := v.bind fun v => some (.val v, H)
def valH (v : Option (AV × AH)) : Option (AN × AH) := v.bind fun v => some (.val v.1, v.2)
def skipH (v : Option AH) : Option (AN × AH) := v.bind fun H => some (.skip, H)

def builtinA (tt : TT) (b : Builtin) (at_ : List TypeId) (args : List AV) (H : AH) : Option (AN × AH) :=
  match b, at_, args with
  | .len, t :: _, x :: _ => (tt.get t).bind fun ti => (lenA ti x H).bind fun n => some (.val (.int .i64 (n : Int)), H)
  | .append, [t, u], [s, x] =>
    (tt.get t).bind fun ti => (tt.get u).bind fun tx => match ti.ud with
      | .slice e => (tt.get e).bind fun te => valH (appendA te tx s x H)
      | _ => none
  | .max, _, x :: xs => val1 (foldMM true x xs) H
  | .min, _, x :: xs => val1 (foldMM false x xs) H
  | .delete, t :: _, [m, k] => (tt.get t).bind fun ti => (deleteA tt ti m k H).bind fun H' => some (.val (.tup []), H')
  | .clear, t :: _, [x] =>
    (tt.get t).bind fun ti => match ti.ud, x with
      | .slice _, .nils => some (.val (.tup []), H)
      | .slice _, .emp => some (.val (.tup []), H)
      | .slice _, .emp0 => some (.val (.tup []), H)
      | .slice e, .slice id sz st len _ _ =>
        (tt.get e).bind fun te => cond (Nat.beq te.size sz && Nat.beq te.zero.length sz)
        (match H.get id with
        | some (.arr sz' es) => cond (Nat.beq sz sz' && Nat.ble (st + len) es.length)
            (some (.val (.tup []), H.put id (some (.arr sz (overE es st (rep len te.zero)))))) none
        | _ => none) none
      | _, _ => none
  | _, _, _ => none

def getX (tmps : Tr AV) : Option Operand → Option (Option AV)
  | none => some none
  | some x => (evx tmps x).bind fun v => some (some v)

/-- Two nil interface values are compared where one of them is written out. -/
def nilsOk (x y : Operand) (a b : AV) : Bool :=
  match a, b with
  | .nili, .nili => (match x with | .const _ => true | _ => false) || (match y with | .const _ => true | _ => false)
  | _, _ => true

def opA.fillE (sz : Nat) : List (List AV) → List (Nat × AV) → Option (List (List AV))
  | es, [] => some es
  | es, (i, v) :: rest => v.cells.bind fun cs => cond (Nat.beq cs.length sz && Nat.blt i es.length) (opA.fillE sz (es.set i cs) rest) none


/-- One operation. -/
def opA (tt : TT) (op : Op) (tmps : Tr AV) (H : AH) : Option (AN × AH) :=
  match op with
  | .move x => val1 (evx tmps x) H
  | .assign x => val1 (evx tmps x) H
  | .pick c a b => (evx tmps c).bind fun c => match c with
    | .bool c => val1 (cond c (evx tmps a) (evx tmps b)) H
    | _ => none
  | .alloc e => (tt.get e).bind fun ti => cond (Nat.beq ti.size ti.zero.length) ((H.new (.arr ti.size [ti.zero])).bind fun r => some (.val (.ptr r.1 ti.size 0 0), r.2)) none
  | .box _ x => (evx tmps x).bind fun v => v.cells.bind fun cs => (H.new (.arr cs.length [cs])).bind fun r => some (.val (.ptr r.1 cs.length 0 0), r.2)
  | .build t parts => (tt.get t).bind fun ti => (evParts tmps parts.toList).bind fun ps => match ti.ud with
    | .struct fs => (fillA (fun i => (fs[i]?).map fun q => (q.1, q.2.1)) ti.zero ps).bind fun cs => some (.val (.agg cs), H)
    | .arr _ e => (tt.get e).bind fun te => (fillA (fun i => some (i * te.size, te.size)) ti.zero ps).bind fun cs => some (.val (.agg cs), H)
    | _ => none
  | .buildSlice t n parts => (tt.get t).bind fun ti => (evParts tmps parts.toList).bind fun ps => match ti.ud with
    | .slice e => (tt.get e).bind fun te => cond (Nat.ble (n * te.size) 16777216 && !Nat.beq te.size 0 && Nat.beq te.zero.length te.size)
      ((opA.fillE te.size (rep n te.zero) ps).bind fun es => (H.new (.arr te.size es)).bind fun r => some (.val (.slice r.1 te.size 0 n n true), r.2)) none
    | _ => none
  | .load t a => (tt.get t).bind fun ti => (evx tmps a).bind fun a => val1 (loadA ti a H) H
  | .store t a x => (tt.get t).bind fun ti => (evx tmps a).bind fun a => (evx tmps x).bind fun v => skipH (storeA ti a v H)
  | .nilCheck x => (evx tmps x).bind fun v => match v with
    | .ptr .. | .lp _ | .func .. | .iface .. => some (.val v, H)
    | _ => none
  | .binOp op t x y _ => (evx tmps x).bind fun a => (evx tmps y).bind fun b => cond (nilsOk x y a b) (val1 (binOpA tt op t a b) H) none
  | .unOp op _ x => (evx tmps x).bind fun a => val1 (unOpA op a) H
  | .convert s d x => (evx tmps x).bind fun a => valH (convertA tt s d a H)
  | .makeInterface t x => (tt.get t).bind fun ti => (evx tmps x).bind fun a => match ti.ud with
    | .iface => none
    | _ => some (.val (.iface t a), H)
  | .makeFunc (.func f) first caps => cond (first.isEmpty) ((evs tmps caps.toList).bind fun cs => some (.val (.func f cs), H)) none
  | .makeMap _ none => (H.new (.map [])).bind fun r => some (.val (.map r.1), r.2)
  | .makeSlice t l c => (tt.get t).bind fun ti => (evx tmps l).bind fun l => (evx tmps c).bind fun c => match ti.ud with
    | .slice e => (tt.get e).bind fun te => (natOf l).bind fun l => (natOf c).bind fun c =>
      cond (Nat.ble (te.bytes * c) 281474976710656 && Nat.ble l c && Nat.blt c 9223372036854775808 && !Nat.beq te.size 0 && Nat.beq te.zero.length te.size)
      ((H.new (.arr te.size (rep c te.zero))).bind fun r => some (.val (.slice r.1 te.size 0 l c true), r.2)) none
    | _ => none
  | .slice t x lo hi mx => (tt.get t).bind fun ti => (evx tmps x).bind fun x => (getX tmps lo).bind fun lo => (getX tmps hi).bind fun hi => (getX tmps mx).bind fun mx =>
    val1 (sliceA tt ti x lo hi mx) H
  | .sliceToArrayPointer t x => (tt.get t).bind fun ti => (evx tmps x).bind fun x => val1 (arrayAtA ti x) H
  | .fieldAddr t x f => (tt.get t).bind fun ti => (evx tmps x).bind fun x => val1 (fieldAddrA ti x f) H
  | .field t x f => (tt.get t).bind fun ti => (evx tmps x).bind fun x => match ti.ud, x with
    | .struct fs, .agg cs => (fs[f]?).bind fun q => (tt.get q.2.2).bind fun tq => val1 (partA tq cs q.1) H
    | _, _ => none
  | .indexAddr t x i => (tt.get t).bind fun ti => (evx tmps x).bind fun x => (evx tmps i).bind fun i => val1 (indexAddrA tt ti x i) H
  | .index t x i => (tt.get t).bind fun ti => (evx tmps x).bind fun x => (evx tmps i).bind fun i => val1 (indexA tt ti x i) H
  | .lookup t m k ok => (tt.get t).bind fun ti => (evx tmps m).bind fun m => (evx tmps k).bind fun k => val1 (lookupA tt ti m k ok H) H
  | .mapUpdate t m k v => (tt.get t).bind fun ti => (evx tmps m).bind fun m => (evx tmps k).bind fun k => (evx tmps v).bind fun v => skipH (updateA tt ti m k v H)
  | .insert t m k v => (tt.get t).bind fun ti => (evx tmps m).bind fun m => (evx tmps k).bind fun k => (evx tmps v).bind fun v => skipH (updateA tt ti m k v H)
  | .typeAssert x _ t ok => (evx tmps x).bind fun x => val1 (assertA tt x t ok) H
  | .extract x i => (evx tmps x).bind fun x => match x with
    | .tup vs => val1 (vs[i]?) H
    | _ => none
  | .call c => match c.callee with
    | .value f => (evx tmps f).bind fun f => (evs tmps c.args.toList).bind fun as => (callA f as).bind fun n => some (n, H)
    | .invoke r name => (evx tmps r).bind fun r => (evs tmps c.args.toList).bind fun as => match r with
      | .iface t v => (tt.get t).bind fun ti => (findM name ti.meths).bind fun f => some (.fn f (v :: as), H)
      | _ => none
    | .builtin b => (evs tmps c.args.toList).bind fun as => builtinA tt b c.argTypes.toList as H
  | _ => none

end
end Go.VM

/- The abstract machine: regions, code, functions. -/
namespace Go.VM
open Go
noncomputable section

inductive Callee where
  | fn (f : FuncId)
  | rd (l : Nat)

abbrev CallF := Callee → List AV → AH → Option (AV × AH)

structure AF where
  tmps : Tr AV
  sz : Nat
  marks : List Nat
  rnd : Option Nat

/-- Functions without a text, by their numbers. -/
abbrev NT := Tr Nat

/-- A contract: conditions, a value, a heap. -/
abbrev SumF := List AV → AH → Option (List Bool × AV × AH)

def allB : List Bool → Bool
  | [] => true
  | b :: bs => cond b (allB bs) false

def sumA (g : SumF) (args : List AV) (H : AH) : Option (AV × AH) := (g args H).bind fun r => cond (allB r.1) (some r.2) none

def natF (k : Nat) (args : List AV) (H : AH) : Option (List Bool × AV × AH) :=
  match k, args with
  | 0, [.int .u64 x, .int .u64 y, .int .u64 c] =>
    some ([decide (0 ≤ x), decide (0 ≤ y), decide (0 ≤ c), decide (c ≤ 1)], .tup [.int .u64 ((x + y + c) % 18446744073709551616), .int .u64 ((x + y + c) / 18446744073709551616)], H)
  | 1, [.int .u64 x, .int .u64 y, .int .u64 b] =>
    some ([decide (0 ≤ x), decide (0 ≤ y), decide (0 ≤ b), decide (b ≤ 1), decide (y ≤ 18446744073709551615)], .tup [.int .u64 ((x + 18446744073709551616 - y - b) % 18446744073709551616), .int .u64 (cond (decide (x < y + b)) 1 0)], H)
  | 2, [.iface t (.map id)] =>
    match H.get id with
    | some (.map es) => (H.new (.map es)).bind fun r => some ([], .iface t (.map r.1), r.2)
    | _ => none
  | _, _ => none

def natA (k : Nat) : List AV → AH → Option (AV × AH) := sumA (natF k)

def doOp (tt : TT) (nt : NT) (call : CallF) (o : Oper) (tmps : Tr AV) (H : AH) : Option (AV × AH) :=
  (opA tt o.op tmps H).bind fun r => match r.1 with
    | .val v => some (v, r.2)
    | .skip => some (.tup [], r.2)
    | .fn f args => match nt.get f with
      | some k => natA k args r.2
      | none => call (.fn f) args r.2
    | .round l args => call (.rd l) args r.2

def wantA (ops : Array Oper) (tmps : Tr AV) (o : Oper) : Option Bool :=
  match o.guard with
  | none => some true
  | some (j, want) =>
    match ops[j]? with
    | none => none
    | some g => match g.dst with
      | none => none
      | some t => match tmps.get t with
        | some (.bool b) => some (b == want)
        | some (.tup []) => some false
        | _ => none

def putT (sz : Nat) (tmps : Tr AV) (dst : Option Tmp) (v : AV) : Option (Tr AV) :=
  match dst with
  | none => some tmps
  | some d => cond (Nat.blt d sz) (some (tmps.set 40 d (some v))) none

def regionA (tt : TT) (nt : NT) (call : CallF) (ops : Array Oper) (sz : Nat) : List Oper → Tr AV → AH → Option (Tr AV × AH)
  | [], tmps, H => some (tmps, H)
  | o :: os, tmps, H =>
    (wantA ops tmps o).bind fun w =>
      cond w
        ((doOp tt nt call o tmps H).bind fun r => (putT sz tmps o.dst r.1).bind fun tmps' => regionA tt nt call ops sz os tmps' r.2)
        ((putT sz tmps o.dst (.tup [])).bind fun tmps' => regionA tt nt call ops sz os tmps' H)

/-- What stands before each operation of a region, as bits. -/
def predOf (acc : List Nat) (o : Oper) : Nat :=
  o.after.toList.foldl (fun s e => cond (Region.binds .any e) (s ||| 2 ^ e.on ||| (acc.getD e.on 0)) s) 0

def predsOf : List Oper → List Nat → List Nat
  | [], acc => acc
  | o :: os, acc => predsOf os (acc ++ [predOf acc o])

def idsOf : AV → List Nat
  | .ptr id _ _ _ => [id]
  | .slice id _ _ _ _ _ => [id]
  | .map id => [id]
  | _ => []

def idsOfs : List AV → List Nat
  | [] => []
  | v :: vs => idsOf v ++ idsOfs vs

/-- What an operation looks at in memory: `none`: whatever is there. -/
def touchA (op : Op) (tmps : Tr AV) : Option (List Nat) :=
  match op with
  | .load _ a => (evx tmps a).map idsOf
  | .store _ a _ => (evx tmps a).map idsOf
  | .lookup _ m _ _ => (evx tmps m).map idsOf
  | .mapUpdate _ m _ _ | .insert _ m _ _ => (evx tmps m).map idsOf
  | .convert _ _ x => (evx tmps x).map idsOf
  | .call c => match c.callee with
    | .builtin _ => (evs tmps c.args.toList).map idsOfs
    | _ => none
  | _ => some []

structure Rec where
  idx : Nat
  touch : Option (List Nat)
  keys : List Nat

def memN (x : Nat) : List Nat → Bool
  | [] => false
  | y :: ys => cond (Nat.beq x y) true (memN x ys)

def allN (p : Nat → Bool) : List Nat → Bool
  | [] => true
  | y :: ys => cond (p y) (allN p ys) false

def allR (p : Rec → Bool) : List Rec → Bool
  | [] => true
  | y :: ys => cond (p y) (allR p ys) false

def onlyT (tmps : Tr AV) : List Nat → Tr AV
  | [] => .nil
  | t :: ts => (onlyT tmps ts).set 40 t (tmps.get t)

def onlyA (H : AH) : List Nat → Tr AO
  | [] => .nil
  | i :: is => (onlyA H is).set 40 i (H.get i)

def hideA (t : Tr AO) : List Nat → Tr AO
  | [] => t
  | i :: is => (hideA t is).set 40 i none

def mergeA (t : Tr AO) (H' : AH) : List Nat → Tr AO
  | [] => t
  | i :: is => (mergeA t H' is).set 40 i (H'.get i)

def unord (p : Nat) (r : Rec) : Bool := !(Nat.testBit p r.idx)

def hidden (p : Nat) : List Rec → List Nat
  | [] => []
  | r :: rs => cond (unord p r) (r.keys ++ hidden p rs) (hidden p rs)

def seeA (touch : Option (List Nat)) (H : AH) (p : Nat) (recs : List Rec) : Tr AO :=
  match touch with
  | some ids => onlyA H ids
  | none => hideA H.tr (hidden p recs)

def okBefore (p : Nat) (touch : Option (List Nat)) (recs : List Rec) : Bool :=
  match touch with
  | some ids => allR (fun r => cond (unord p r) (allN (fun id => !memN id r.keys) ids) true) recs
  | none => true

def okAfter (p lo : Nat) (H' : AH) (recs : List Rec) : Bool :=
  allN (fun k => Nat.blt k H'.next && Nat.ble k 1000000000) H'.log &&
  allR (fun q => cond (unord p q)
    ((match q.touch with
      | some ids => allN (fun id => !memN id H'.log) ids
      | none => allN (fun k => Nat.ble lo k) H'.log) && allN (fun k => !memN k q.keys) H'.log) true) recs

def looksL (ops : Array Oper) (o : Oper) : List Nat :=
  (o.op.operands.toList.filterMap fun | .tmp t => some t | _ => none) ++
  (match o.guard with
   | some (g, _) => ((ops[g]?).bind (·.dst)).toList
   | none => [])

def drawA (tt : TT) (nt : NT) (call : CallF) (ops : Array Oper) (sz : Nat) : List Oper → List Nat → Nat → List Rec → Tr AV → AH → Option (Tr AV × AH)
  | o :: os, p :: ps, i, recs, tmps, H =>
    (wantA ops (onlyT tmps (looksL ops o)) o).bind fun w =>
      cond w
        (cond (okBefore p (touchA o.op (onlyT tmps (looksL ops o))) recs)
          ((doOp tt nt call o (onlyT tmps (looksL ops o)) { next := H.next, log := [], tr := seeA (touchA o.op (onlyT tmps (looksL ops o))) H p recs }).bind fun r =>
            cond (okAfter p H.next r.2 recs)
              ((putT sz tmps o.dst r.1).bind fun tmps' =>
                drawA tt nt call ops sz os ps (i + 1) ({ idx := i, touch := touchA o.op (onlyT tmps (looksL ops o)), keys := r.2.log } :: recs) tmps'
                  { next := r.2.next, log := r.2.log ++ H.log, tr := mergeA H.tr r.2 r.2.log })
              none)
          none)
        ((putT sz tmps o.dst (.tup [])).bind fun tmps' => drawA tt nt call ops sz os ps (i + 1) recs tmps' H)
  | [], _, _, _, tmps, H => some (tmps, H)
  | _ :: _, [], _, _, _, _ => none

def dstApart (x y : Oper) : Bool :=
  match x.dst with
  | some d => match y.dst with
    | some e => !Nat.beq d e
    | none => true
  | none => true

def dstUnseen (ops : Array Oper) (x y : Oper) : Bool :=
  match x.dst with
  | some d => !memN d (looksL ops y)
  | none => true

def apartL (ops : Array Oper) (o : Oper) (p : Nat) : List (Oper × Nat) → Bool
  | [] => true
  | q :: qs => cond (Nat.testBit p q.2 || (dstApart o q.1 && dstUnseen ops o q.1 && dstUnseen ops q.1 o)) (apartL ops o p qs) false

def backL (i : Nat) : List Edge → Bool
  | [] => true
  | e :: es => cond (!Region.binds .any e || Nat.blt e.on i) (backL i es) false

/-- Operations that nothing orders name no temporary that the other one writes. -/
def apartAll (ops : Array Oper) : List Oper → List Nat → Nat → List (Oper × Nat) → Bool
  | o :: os, p :: ps, i, acc =>
    cond (backL i o.after.toList && apartL ops o p acc) (apartAll ops os ps (i + 1) ((o, i) :: acc)) false
  | [], _, _, _ => true
  | _ :: _, [], _, _ => false

def chk : Code → Bool
  | .region _ ops draw => cond draw (apartAll ops ops.toList (predsOf ops.toList []) 0 []) true
  | .seq a b => chk a && chk b
  | .cond _ a b => chk a && chk b
  | .block _ b => chk b
  | .loop b => chk b
  | .rangeFunc _ _ a b => chk a && chk b
  | .scope b => chk b
  | _ => true

inductive Ex where
  | norm
  | exit (id : Nat)
  | ret

def Ex.jump : Ex → Option Code
  | .norm => none
  | .exit id => some (.exit id)
  | .ret => some .ret

/-- What is kept at the head of a loop: some temporaries. -/
abbrev TrimF := Nat → Option (List Nat)

/-- The first region of a code names a loop. -/
def keyC : Code → Nat
  | .region id _ _ => id
  | .seq a _ => keyC a
  | .block _ b => keyC b
  | .scope b => keyC b
  | .loop b => keyC b
  | _ => 0

def dedN : List Nat → List Nat
  | [] => []
  | x :: xs => cond (memN x xs) (dedN xs) (x :: dedN xs)

def trimFr (t : Option (List Nat)) (fr : AF) : AF :=
  match t with
  | none => fr
  | some l => { fr with tmps := onlyT fr.tmps l }

def trimH (t : Option (List Nat)) (H : AH) : AH :=
  match t with
  | none => H
  | some _ => { H with log := dedN H.log }

def loopA (t : Option (List Nat)) (body : AF → AH → Option (Ex × AF × AH)) : Nat → AF → AH → Option (Ex × AF × AH)
  | 0, _, _ => none
  | n + 1, fr, H =>
    match body (trimFr t fr) (trimH t H) with
    | some (.norm, fr', H') => loopA t body n fr' H'
    | some (e, fr', H') => some (e, trimFr t fr', trimH t H')
    | none => none

def codeA (tt : TT) (nt : NT) (call : CallF) (lf : Nat) (tm : TrimF) : Code → AF → AH → Option (Ex × AF × AH)
  | .skip, fr, H => some (.norm, fr, H)
  | .label _, fr, H => some (.norm, fr, H)
  | .region _ ops draw, fr, H =>
    cond draw
      ((drawA tt nt call ops fr.sz ops.toList (predsOf ops.toList []) 0 [] fr.tmps H).bind fun r => some (.norm, { fr with tmps := r.1 }, r.2))
      ((regionA tt nt call ops fr.sz ops.toList fr.tmps H).bind fun r => some (.norm, { fr with tmps := r.1 }, r.2))
  | .seq a b, fr, H =>
    match codeA tt nt call lf tm a fr H with
    | some (.norm, fr', H') => codeA tt nt call lf tm b fr' H'
    | r => r
  | .cond c a b, fr, H =>
    match evx fr.tmps c with
    | some (.bool t) => cond t (codeA tt nt call lf tm a fr H) (codeA tt nt call lf tm b fr H)
    | _ => none
  | .block id b, fr, H =>
    match codeA tt nt call lf tm b fr H with
    | some (.exit id', fr', H') => cond (Nat.beq id' id) (some (.norm, fr', H')) (some (.exit id', fr', H'))
    | r => r
  | .loop b, fr, H => loopA (tm (keyC b)) (codeA tt nt call lf tm b) lf fr H
  | .exit id, fr, H => some (.exit id, fr, H)
  | .ret, fr, H => some (.ret, fr, H)
  | .rangeFunc g ps assign body, fr, H =>
    match evx fr.tmps g with
    | some (.func gf caps) =>
      ((match fr.rnd with
        | none => (H.new .defd).bind fun r => some (r.1, r.1 :: fr.marks, r.2)
        | some l0 => match H.get l0 with
          | some (.loop _ _ _ _ _ _ _ d) => some (d, fr.marks, H)
          | _ => none) : Option (Nat × List Nat × AH)).bind fun q =>
        (q.2.2.new (.loop .ready none fr.tmps fr.sz ps.toList assign body q.1)).bind fun r =>
        (call (.fn gf) (.yld r.1 :: caps) r.2).bind fun c =>
        match c.2.get r.1 with
        | some (.loop st pend t' z' p' a' b' d) =>
          (match st with
            | .busy => none
            | _ => match pend with
              | none => some (.norm, { fr with marks := q.2.1 }, c.2.put r.1 (some (.loop .exhausted pend t' z' p' a' b' d)))
              | some .ret => some (.ret, { fr with marks := q.2.1 }, c.2.put r.1 (some (.loop .exhausted pend t' z' p' a' b' d)))
              | some (.exit id) => some (.exit id, { fr with marks := q.2.1 }, c.2.put r.1 (some (.loop .exhausted pend t' z' p' a' b' d)))
              | some _ => none)
        | _ => none
    | _ => none
  | .scope b, fr, H => codeA tt nt call lf tm b fr H
  | .goto _, _, _ => none
  | .refuse _, _, _ => none

structure FI where
  ntmps : Nat
  results : List ResultVar
  body : Code
  init : Tr AV := .nil
  trim : TrimF := fun _ => none

def argT (base : Tr AV) : List AV → Nat → Tr AV
  | [], _ => base
  | v :: vs, i => (argT base vs (i + 1)).set 40 i (some v)

def resA (tt : TT) (fr : AF) (H : AH) : List ResultVar → Option (List AV)
  | [] => some []
  | .tmp t :: rs => (fr.tmps.get t).bind fun v => (resA tt fr H rs).bind fun vs => some (v :: vs)
  | .cell a t :: rs => (fr.tmps.get a).bind fun p => (tt.get t).bind fun ti => (loadA ti p H).bind fun v => (resA tt fr H rs).bind fun vs => some (v :: vs)

def closeA : List Nat → AH → Option AH
  | [], H => some H
  | d :: ds, H => match H.get d with
    | some .defd => closeA ds (H.put d none)
    | _ => none

def tupA : List AV → AV
  | [v] => v
  | vs => .tup vs

def runA (tt : TT) (nt : NT) (call : CallF) (lf : Nat) (fi : FI) (args : List AV) (H : AH) : Option (AV × AH) :=
  cond (Nat.ble args.length fi.ntmps && Nat.ble fi.ntmps 1000000)
  (match codeA tt nt call lf fi.trim fi.body { tmps := argT fi.init args 0, sz := fi.ntmps, marks := [], rnd := none } H with
  | some (.norm, fr, H') => (closeA fr.marks H').bind fun H2 => (resA tt fr H2 fi.results).bind fun vs => some (tupA vs, H2)
  | some (.ret, fr, H') => (closeA fr.marks H').bind fun H2 => (resA tt fr H2 fi.results).bind fun vs => some (tupA vs, H2)
  | _ => none) none

def putsT (sz : Nat) : Tr AV → List Nat → List AV → Option (Tr AV)
  | t, [], [] => some t
  | t, p :: ps, v :: vs => cond (Nat.blt p sz) (putsT sz (t.set 40 p (some v)) ps vs) none
  | _, _, _ => none

def roundA (tt : TT) (nt : NT) (call : CallF) (lf : Nat) (l : Nat) (args : List AV) (H : AH) : Option (AV × AH) :=
  match H.get l with
  | some (.loop .ready none tmps sz ps assign body _) =>
    cond (Nat.ble sz 1000000)
    ((putsT sz tmps ps args).bind fun tmps' =>
    match codeA tt nt call lf (fun _ => none) assign { tmps := tmps', sz := sz, marks := [], rnd := some l } H with
    | some (.norm, fr1, H1) =>
      (match H1.get l with
      | some (.loop .ready none t1 z1 p1 a1 b1 d1) =>
        match codeA tt nt call lf (fun _ => none) body { fr1 with marks := [] } (H1.put l (some (.loop .busy none t1 z1 p1 a1 b1 d1))) with
        | some (e, _, H3) =>
          (match H3.get l with
          | some (.loop .busy none t3 z3 p3 a3 b3 d3) =>
            match e with
            | .norm => some (.bool true, H3.put l (some (.loop .ready none t3 z3 p3 a3 b3 d3)))
            | e => some (.bool false, H3.put l (some (.loop .done e.jump t3 z3 p3 a3 b3 d3)))
          | _ => none)
        | none => none
      | _ => none)
    | _ => none) none
  | _ => none

/-- Whole functions by their contracts. -/
abbrev OT := Tr SumF

def intKeys : List (AV × AV) → Option (List Int)
  | [] => some []
  | (.int .i64 n, _) :: es => (intKeys es).bind fun ns => some (n :: ns)
  | _ => none

def insI (x : Int) : List Int → List Int
  | [] => [x]
  | y :: ys => cond (decide (x ≤ y)) (x :: y :: ys) (y :: insI x ys)

def sortI : List Int → List Int
  | [] => []
  | x :: xs => insI x (sortI xs)

def memI (x : Int) : List Int → Bool
  | [] => false
  | y :: ys => cond (decide (x = y)) true (memI x ys)

def keysI : List Int → Bool
  | [] => true
  | x :: xs => cond (!memI x xs && decide (-9223372036854775808 ≤ x) && decide (x ≤ 9223372036854775807)) (keysI xs) false

def rowI : List Int → List (List AV)
  | [] => []
  | n :: ns => [.int .i64 n] :: rowI ns

/-- slices.Sorted over the iterator of maps.Keys. -/
def orA (q : List FuncId) (args : List AV) (H : AH) : Option (AV × AH) :=
  match args with
  | [.func g [.ptr id 1 0 0]] =>
    cond (memN g q)
    (match H.get id with
    | some (.arr 1 [[.map m]]) =>
      (match H.get m with
      | some (.map es) =>
        (intKeys es).bind fun ns => cond (Nat.ble ns.length 1000000 && keysI ns)
          (cond (Nat.beq ns.length 0) (some (.nils, H)) ((H.new (.arr 1 (rowI (sortI ns)))).bind fun r => some (.slice r.1 1 0 ns.length ns.length false, r.2))) none
      | _ => none)
    | some (.arr 1 [[.nilm]]) => some (.nils, H)
    | _ => none) none
  | _ => none

def orS (q : List FuncId) (args : List AV) (H : AH) : Option (List Bool × AV × AH) := (orA q args H).bind fun r => some ([], r.1, r.2)

def funA (ft : Tr FI) (tt : TT) (nt : NT) (ot : OT) (lf : Nat) : Nat → CallF
  | 0 => fun _ _ _ => none
  | n + 1 => fun c args H => match c with
    | .fn f => match ot.get f with
      | some g => sumA g args H
      | none => (ft.get f).bind fun fi => runA tt nt (funA ft tt nt ot lf n) lf fi args H
    | .rd l => roundA tt nt (funA ft tt nt ot lf n) lf l args H

end
end Go.VM

