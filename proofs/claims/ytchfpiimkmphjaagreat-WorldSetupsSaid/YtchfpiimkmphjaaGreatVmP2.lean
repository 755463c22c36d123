/- An abstract machine for the program form, with the proof that it is sound: part VmP2. No condition. -/
import Derived.Test.YtchfpiimkmphjaaGreatVmP1
import Derived.RangeFuncLeaves
import Derived.OrdersIn
/- How abstract values and heaps stand to those of the model. -/
namespace Go.VM
open Go

abbrev Sg := Nat → Option (Nat × Nat)
abbrev Fz := Nat → Option (Array Value)

inductive VRel (σ : Sg) (F : Fz) : AV → Value → Prop
  | bool (b : Bool) : VRel σ F (.bool b) (.bool b)
  | int (k : IntKind) (n : Int) : VRel σ F (.int k n) (.int k n)
  | str (s : ByteArray) : VRel σ F (.str s) (.string s)
  | nilp : VRel σ F .nilp (.pointer none)
  | ptr {id sz idx off b cs : Nat} (h : σ id = some (b, cs)) : VRel σ F (.ptr id sz idx off) (.pointer (some ⟨b, idx * sz + off, none⟩))
  | lp {cs : List AV} {b off : Nat} {cells : Array Value} (h : F b = some cells) (hb : off + cs.length ≤ cells.size)
      (hc : ∀ (i : Nat) (c : AV), cs[i]? = some c → c.isCell = true) (hv : ∀ (i : Nat) (c : AV), cs[i]? = some c → VRel σ F c (cells.getD (off + i) undef)) :
      VRel σ F (.lp cs) (.pointer (some ⟨b, off, none⟩))
  | nils : VRel σ F .nils (.slice none 0 0)
  | slice {id sz st len cap : Nat} {ex : Bool} {b cs cap' : Nat} (h : σ id = some (b, cs)) (h1 : cap ≤ cap') (h2 : ex = true → cap' = cap)
      (h3 : (st + cap') * sz ≤ cs) (h4 : len ≤ cap) : VRel σ F (.slice id sz st len cap ex) (.slice (some ⟨b, st * sz, none⟩) len cap')
  | emp {a : Option Addr} {cap' : Nat} : VRel σ F .emp (.slice a 0 cap')
  | emp0 {a : Option Addr} : VRel σ F .emp0 (.slice a 0 0)
  | listnil {sz cap : Nat} {a : Option Addr} : VRel σ F (.list sz []) (.slice a 0 cap)
  | list {sz : Nat} {es : List (List AV)} {b off : Nat} {cells : Array Value} {cap' : Nat} (h : F b = some cells) (hb : off + es.length * sz ≤ cells.size)
      (hl : ∀ (i : Nat) (e : List AV), es[i]? = some e → e.length = sz) (hc : ∀ (i : Nat) (e : List AV) (j : Nat) (c : AV), es[i]? = some e → e[j]? = some c → c.isCell = true)
      (hv : ∀ (i : Nat) (e : List AV) (j : Nat) (c : AV), es[i]? = some e → e[j]? = some c → VRel σ F c (cells.getD (off + (i * sz + j)) undef)) (hcap : es.length ≤ cap') :
      VRel σ F (.list sz es) (.slice (some ⟨b, off, none⟩) es.length cap')
  | nilm : VRel σ F .nilm (.map none)
  | map {id b cs : Nat} (h : σ id = some (b, cs)) : VRel σ F (.map id) (.map (some b))
  | func {f : FuncId} {caps : List AV} {caps' : Array Value} (hs : caps'.size = caps.length)
      (hv : ∀ (i : Nat) (c : AV), caps[i]? = some c → VRel σ F c (caps'.getD i undef)) : VRel σ F (.func f caps) (.func (.func f) #[] caps')
  | yld {id b cs : Nat} (h : σ id = some (b, cs)) : VRel σ F (.yld id) (.func (.yield b) #[] #[])
  | nilf : VRel σ F .nilf .nilFunc
  | iface {t : TypeId} {v : AV} {v' : Value} (h : VRel σ F v v') : VRel σ F (.iface t v) (.iface t v')
  | nili : VRel σ F .nili .nilIface
  | agg {cs : List AV} {cs' : Array Value} (hs : cs'.size = cs.length) (hc : ∀ (i : Nat) (c : AV), cs[i]? = some c → c.isCell = true)
      (hv : ∀ (i : Nat) (c : AV), cs[i]? = some c → VRel σ F c (cs'.getD i undef)) : VRel σ F (.agg cs) (.agg cs')
  | tup {vs : List AV} {vs' : Array Value} (hs : vs'.size = vs.length)
      (hv : ∀ (i : Nat) (c : AV), vs[i]? = some c → VRel σ F c (vs'.getD i undef)) : VRel σ F (.tup vs) (.tuple vs')
  | dead (v : Value) : VRel σ F .dead v

def Sub {α β : Type} (f g : α → Option β) : Prop := ∀ i x, f i = some x → g i = some x

theorem Sub.refl {α β : Type} (f : α → Option β) : Sub f f := fun _ _ h => h
theorem Sub.trans {α β : Type} {f g h : α → Option β} (a : Sub f g) (b : Sub g h) : Sub f h := fun i x e => b i x (a i x e)

theorem VRel.mono {σ σ' : Sg} {F F' : Fz} (hs : Sub σ σ') (hf : Sub F F') {v : AV} {c : Value} (h : VRel σ F v c) : VRel σ' F' v c := by
  induction h with
  | bool b => exact .bool b
  | int k n => exact .int k n
  | str s => exact .str s
  | nilp => exact .nilp
  | ptr h => exact .ptr (hs _ _ h)
  | lp h hb hc _ ih => exact .lp (hf _ _ h) hb hc ih
  | nils => exact .nils
  | slice h h1 h2 h3 h4 => exact .slice (hs _ _ h) h1 h2 h3 h4
  | emp => exact .emp
  | listnil => exact .listnil
  | list h hb hl hc _ hcap ih => exact .list (hf _ _ h) hb hl hc ih hcap
  | emp0 => exact .emp0
  | nilm => exact .nilm
  | map h => exact .map (hs _ _ h)
  | func hs' _ ih => exact .func hs' ih
  | yld h => exact .yld (hs _ _ h)
  | nilf => exact .nilf
  | iface _ ih => exact .iface ih
  | nili => exact .nili
  | agg hs' hc _ ih => exact .agg hs' hc ih
  | tup hs' _ ih => exact .tup hs' ih
  | dead v => exact .dead v

/-- A row of cells in memory is as abstract elements say. -/
structure Row (σ : Sg) (F : Fz) (sz : Nat) (es : List (List AV)) (c : Array Value) : Prop where
  bnd : es.length * sz ≤ c.size
  len : ∀ (i : Nat) (e : List AV), es[i]? = some e → e.length = sz
  cell : ∀ (i : Nat) (e : List AV) (j : Nat) (v : AV), es[i]? = some e → e[j]? = some v → v.isCell = true
  val : ∀ (i : Nat) (e : List AV) (j : Nat) (v : AV), es[i]? = some e → e[j]? = some v → VRel σ F v (c.getD (i * sz + j) undef)

def unfrozen (fr : Nat × Nat) (n : Nat) : Prop := fr.1 = fr.2 ∨ n ≤ fr.1
theorem unfrozen.no {fr : Nat × Nat} {n : Nat} (h : unfrozen fr n) : ∀ k, k < n → ¬ (fr.1 ≤ k ∧ k < fr.2) := by
  intro k hk ⟨h1, h2⟩
  rcases h with h | h <;> omega

/-- The stamps of a map's entries. -/
def Stm (en : Array MapEntry) (clk : Nat) : Prop := (∀ x ∈ en.toList, x.born < clk) ∧ (en.toList.map (·.born)).Nodup

theorem Stm.empty {clk : Nat} : Stm #[] clk := ⟨by simp, by simp⟩

theorem Stm.push {en : Array MapEntry} {clk : Nat} (h : Stm en clk) (k v : Value) : Stm (en.push { key := k, val := v, born := clk }) (clk + 1) := by
  obtain ⟨h1, h2⟩ := h
  refine ⟨?_, ?_⟩
  · intro x hx
    simp only [Array.toList_push, List.mem_append, List.mem_singleton] at hx
    rcases hx with hx | rfl
    · have := h1 x hx; omega
    · simp
  · simp only [Array.toList_push, List.map_append, List.map_cons, List.map_nil]
    rw [List.nodup_append]
    refine ⟨h2, by simp, ?_⟩
    intro a ha b hb
    simp only [List.mem_singleton] at hb
    obtain ⟨x, hx, rfl⟩ := List.mem_map.1 ha
    have := h1 x hx
    omega

theorem Stm.modify {en : Array MapEntry} {clk i : Nat} (h : Stm en clk) (f : MapEntry → MapEntry) (hf : ∀ x, (f x).born = x.born) : Stm (en.modify i f) clk := by
  have e : (en.modify i f).toList.map (·.born) = en.toList.map (·.born) := by
    apply List.ext_getElem?
    intro j
    rw [List.getElem?_map, List.getElem?_map, Array.getElem?_toList, Array.getElem?_toList, Array.getElem?_modify]
    split
    · cases en[j]? with
      | none => rfl
      | some x => simp [hf x]
    · rfl
  obtain ⟨h1, h2⟩ := h
  refine ⟨?_, by rw [e]; exact h2⟩
  intro x hx
  have : x.born ∈ (en.modify i f).toList.map (·.born) := List.mem_map.2 ⟨x, hx, rfl⟩
  rw [e] at this
  obtain ⟨y, hy, hxy⟩ := List.mem_map.1 this
  have := h1 y hy
  omega

theorem Stm.sub {en en' : Array MapEntry} {clk : Nat} (h : Stm en clk) (hs : en'.toList.Sublist en.toList) : Stm en' clk :=
  ⟨fun x hx => h.1 x (hs.subset hx), (hs.map _).nodup h.2⟩

def ORel (σ : Sg) (F : Fz) : AO → Nat → Option Obj → Prop
  | .arr sz es, cs, o => ∃ c e fr, o = some (.cells c e fr) ∧ c.size = cs ∧ unfrozen fr c.size ∧ Row σ F sz es c
  | .map es, _, o => ∃ en clk, o = some (.map en clk) ∧ en.size = es.length ∧
      (∀ i p, es[i]? = some p → VRel σ F p.1 (en.getD i default).key ∧ VRel σ F p.2 (en.getD i default).val) ∧ Stm en clk
  | .loop st pend tmps sz ps assign body d, _, o => ∃ L : Loop, o = some (.loop L) ∧ L.state = st ∧ L.pending = pend ∧ L.tmps.size = sz ∧
      (∀ t v, tmps.get t = some v → t < sz ∧ VRel σ F v (L.tmps.getD t undef)) ∧ L.params.toList = ps ∧ L.assign = assign ∧ L.body = body ∧
      (sz ≤ 1000000 ∧ chk assign = true ∧ chk body = true) ∧ ∃ cs', σ d = some (L.defers, cs')
  | .defd, _, o => o = some (.deferred (some []))

structure HR (σ : Sg) (F : Fz) (g : Nat → Option AO) (w : World) : Prop where
  obj : ∀ i o, g i = some o → ∃ b cs, σ i = some (b, cs) ∧ ORel σ F o cs (w.heap[b]?)
  inj : ∀ i j b c c' o o', g i = some o → g j = some o' → σ i = some (b, c) → σ j = some (b, c') → i = j
  sep : ∀ i b c o, g i = some o → σ i = some (b, c) → F b = none
  frz : ∀ b c, F b = some c → ∃ e fr, w.heap[b]? = some (.cells c e fr)
  bnd : ∀ i x, σ i = some x → i < 1099511627775

theorem Row.mono {σ σ' : Sg} {F F' : Fz} (hs : Sub σ σ') (hf : Sub F F') {sz : Nat} {es : List (List AV)} {c : Array Value} (h : Row σ F sz es c) : Row σ' F' sz es c :=
  ⟨h.bnd, h.len, h.cell, fun i e j v h1 h2 => (h.val i e j v h1 h2).mono hs hf⟩

theorem ORel.mono {σ σ' : Sg} {F F' : Fz} (hs : Sub σ σ') (hf : Sub F F') {o : AO} {cs : Nat} {x : Option Obj} (h : ORel σ F o cs x) : ORel σ' F' o cs x := by
  cases o with
  | arr sz es => obtain ⟨c, e, fr, h1, h2, h3, h4⟩ := h; exact ⟨c, e, fr, h1, h2, h3, h4.mono hs hf⟩
  | map es => obtain ⟨en, clk, h1, h2, h3, h4⟩ := h; exact ⟨en, clk, h1, h2, fun i p hp => ⟨(h3 i p hp).1.mono hs hf, (h3 i p hp).2.mono hs hf⟩, h4⟩
  | loop st pend tmps sz ps assign body d =>
    obtain ⟨L, h1, h2, h3, h4, h5, h6, h7, h8, h9, cs', h10⟩ := h
    exact ⟨L, h1, h2, h3, h4, fun t v ht => ⟨(h5 t v ht).1, (h5 t v ht).2.mono hs hf⟩, h6, h7, h8, h9, cs', hs _ _ h10⟩
  | defd => exact h

/-- What a piece of a run does. -/
structure Post (σ : Sg) (F : Fz) (g : Nat → Option AO) (w : World) (lo hi : Nat) (σ' : Sg) (F' : Fz) (g' : Nat → Option AO) (w' : World) : Prop where
  sub : Sub σ σ'
  fsub : Sub F F'
  hr : HR σ' F' g' w'
  size : w.heap.size ≤ w'.heap.size
  frame : ∀ b, b < w.heap.size → (∀ i o c, g i = some o → σ i = some (b, c) → False) → w'.heap[b]? = w.heap[b]?
  rng : ∀ i x, σ' i = some x → σ i = some x ∨ (lo ≤ i ∧ i < hi)
  old : ∀ i b c o, g' i = some o → σ' i = some (b, c) → b < w.heap.size → ∃ j c' o', g j = some o' ∧ σ j = some (b, c')
  fold : ∀ b c, F' b = some c → F b = some c ∨ w.heap.size ≤ b ∨ ∃ j c' o', g j = some o' ∧ σ j = some (b, c')
  os : w'.os = w.os
  out : w'.output = w.output
  tape : w'.tape = w.tape
  le : lo ≤ hi

theorem Post.refl {σ : Sg} {F : Fz} {g : Nat → Option AO} {w : World} (h : HR σ F g w) (n : Nat) : Post σ F g w n n σ F g w :=
  ⟨.refl _, .refl _, h, Nat.le_refl _, fun _ _ _ => rfl, fun _ _ h => .inl h, fun i b c o h1 h2 _ => ⟨i, c, o, h1, h2⟩, fun _ _ h => .inl h, rfl, rfl, rfl, Nat.le_refl _⟩

theorem HR.lt {σ : Sg} {F : Fz} {g : Nat → Option AO} {w : World} (h : HR σ F g w) {i : Nat} {o : AO} {b c : Nat} (hi : g i = some o) (hs : σ i = some (b, c)) : b < w.heap.size := by
  obtain ⟨b', c', hs', ho⟩ := h.obj i o hi
  rw [hs] at hs'
  simp only [Option.some.injEq, Prod.mk.injEq] at hs'
  obtain ⟨rfl, rfl⟩ := hs'
  rcases Nat.lt_or_ge b w.heap.size with hlt | hge
  · exact hlt
  · rw [Array.getElem?_eq_none hge] at ho
    cases o with
    | arr sz es => obtain ⟨_, _, _, h1, _⟩ := ho; cases h1
    | map es => obtain ⟨_, _, h1, _⟩ := ho; cases h1
    | loop _ _ _ _ _ _ _ _ => obtain ⟨_, h1, _⟩ := ho; cases h1
    | defd => cases ho

theorem Post.trans {σ σ1 σ2 : Sg} {F F1 F2 : Fz} {g g1 g2 : Nat → Option AO} {w w1 w2 : World} {a b c : Nat}
    (h : Post σ F g w a b σ1 F1 g1 w1) (h' : Post σ1 F1 g1 w1 b c σ2 F2 g2 w2) : Post σ F g w a c σ2 F2 g2 w2 := by
  refine ⟨h.sub.trans h'.sub, h.fsub.trans h'.fsub, h'.hr, Nat.le_trans h.size h'.size, ?_, ?_, ?_, ?_, h'.os.trans h.os, h'.out.trans h.out, h'.tape.trans h.tape, Nat.le_trans h.le h'.le⟩
  · intro bl hb hn
    rw [h'.frame bl (Nat.lt_of_lt_of_le hb h.size), h.frame bl hb hn]
    intro i o cc hi hs
    obtain ⟨j, c', o', hj, hsj⟩ := h.old i bl cc o hi hs hb
    exact hn j o' c' hj hsj
  · intro i x hx
    rcases h'.rng i x hx with h1 | h1
    · rcases h.rng i x h1 with h2 | h2
      · exact .inl h2
      · exact .inr ⟨h2.1, Nat.lt_of_lt_of_le h2.2 h'.le⟩
    · exact .inr ⟨Nat.le_trans h.le h1.1, h1.2⟩
  · intro i bl cc o hi hs hb
    obtain ⟨j, c', o', hj, hsj⟩ := h'.old i bl cc o hi hs (Nat.lt_of_lt_of_le hb h.size)
    exact h.old j bl c' o' hj hsj hb
  · intro bl cc hF
    rcases h'.fold bl cc hF with h1 | h1 | ⟨j, c', o', hj, hsj⟩
    · exact h.fold bl cc h1
    · exact .inr (.inl (Nat.le_trans h.size h1))
    · rcases Nat.lt_or_ge bl w.heap.size with hlt | hge
      · exact .inr (.inr (h.old j bl c' o' hj hsj hlt))
      · exact .inr (.inl hge)

theorem ORel.of_some {σ : Sg} {F : Fz} {o : AO} {cs : Nat} {x : Option Obj} (h : ORel σ F o cs x) : ∃ y, x = some y := by
  cases o with
  | arr sz es => obtain ⟨_, _, _, h1, _⟩ := h; exact ⟨_, h1⟩
  | map es => obtain ⟨_, _, h1, _⟩ := h; exact ⟨_, h1⟩
  | loop _ _ _ _ _ _ _ _ => obtain ⟨_, h1, _⟩ := h; exact ⟨_, h1⟩
  | defd => exact ⟨_, h⟩

/-- A piece of a run that sees only a part of the heap. -/
theorem Post.merge {σ σ' : Sg} {F F' : Fz} {K B B' : Nat → Option AO} {w w' : World} {lo hi : Nat} {S : Nat → Prop} [DecidablePred S]
    (hK : HR σ F K w) (hB : ∀ i o, B i = some o → K i = some o) (hp : Post σ F B w lo hi σ' F' B' w') (hkeys : ∀ i, ¬ S i → B' i = B i) :
    Post σ F K w lo hi σ' F' (fun i => if S i then B' i else K i) w' := by
  have hlt : ∀ {i b c o}, K i = some o → σ i = some (b, c) → b < w.heap.size := fun h1 h2 => hK.lt h1 h2
  refine ⟨hp.sub, hp.fsub, ⟨?_, ?_, ?_, hp.hr.frz, hp.hr.bnd⟩, hp.size, ?_, hp.rng, ?_, ?_, hp.os, hp.out, hp.tape, hp.le⟩
  · intro i o hi
    by_cases hk : S i
    · rw [if_pos hk] at hi; exact hp.hr.obj i o hi
    · rw [if_neg hk] at hi
      obtain ⟨b, c, hs, ho⟩ := hK.obj i o hi
      cases hbi : B i with
      | some o2 =>
        have := hB i o2 hbi
        rw [hi] at this; cases this
        exact hp.hr.obj i o (by rw [hkeys i hk]; exact hbi)
      | none =>
        refine ⟨b, c, hp.sub _ _ hs, ?_⟩
        rw [hp.frame b (hlt hi hs)]
        · exact ho.mono hp.sub hp.fsub
        · intro j o' c' hj hsj
          have := hK.inj i j b c c' o o' hi (hB j o' hj) hs hsj
          subst this
          rw [hbi] at hj; cases hj
  · intro i j b c c' o o' hi hj hsi hsj
    have key : ∀ {i j : Nat} {o o' : AO} {b c c' : Nat}, S i → ¬ S j → B' i = some o → K j = some o' → σ' i = some (b, c) → σ' j = some (b, c') → i = j := by
      intro i j o o' b c c' hk hk2 hi hj hsi hsj
      obtain ⟨b2, c2, hs2, _⟩ := hK.obj j o' hj
      have := hp.sub _ _ hs2
      rw [hsj] at this; cases this
      obtain ⟨m, c3, o3, hm, hsm⟩ := hp.old i _ _ _ hi hsi (hlt hj hs2)
      have := hK.inj m j b c3 _ o3 o' (hB _ _ hm) hj hsm hs2
      subst this
      exact hp.hr.inj i m b c c' o o3 hi (by rw [hkeys m hk2]; exact hm) hsi hsj
    by_cases hk : S i
    · rw [if_pos hk] at hi
      by_cases hk2 : S j
      · rw [if_pos hk2] at hj; exact hp.hr.inj i j b c c' o o' hi hj hsi hsj
      · rw [if_neg hk2] at hj; exact key hk hk2 hi hj hsi hsj
    · rw [if_neg hk] at hi
      by_cases hk2 : S j
      · rw [if_pos hk2] at hj; exact (key hk2 hk hj hi hsj hsi).symm
      · rw [if_neg hk2] at hj
        obtain ⟨b2, c2, hs2, _⟩ := hK.obj i o hi
        obtain ⟨b3, c3, hs3, _⟩ := hK.obj j o' hj
        have e2 := hp.sub _ _ hs2
        have e3 := hp.sub _ _ hs3
        rw [hsi] at e2; rw [hsj] at e3
        cases e2; cases e3
        exact hK.inj i j b c c' o o' hi hj hs2 hs3
  · intro i b c o hi hs
    by_cases hk : S i
    · rw [if_pos hk] at hi; exact hp.hr.sep i b c o hi hs
    · rw [if_neg hk] at hi
      obtain ⟨b2, c2, hs2, _⟩ := hK.obj i o hi
      have e2 := hp.sub _ _ hs2
      rw [hs] at e2; cases e2
      cases hF : F' b with
      | none => rfl
      | some x =>
        exfalso
        rcases hp.fold b x hF with h1 | h1 | ⟨j, c', o', hj, hsj⟩
        · rw [hK.sep i b c o hi hs2] at h1; cases h1
        · exact absurd (hlt hi hs2) (by omega)
        · have := hK.inj i j b c c' o o' hi (hB _ _ hj) hs2 hsj
          subst this
          have := hp.hr.sep i b c o' (by rw [hkeys i hk]; exact hj) hs
          rw [this] at hF; cases hF
  · intro b hb hn
    exact hp.frame b hb fun i o c hi hs => hn i o c (hB i o hi) hs
  · intro i b c o hi hs hb
    by_cases hk : S i
    · rw [if_pos hk] at hi
      obtain ⟨j, c', o', hj, hsj⟩ := hp.old i b c o hi hs hb
      exact ⟨j, c', o', hB _ _ hj, hsj⟩
    · rw [if_neg hk] at hi
      obtain ⟨b2, c2, hs2, _⟩ := hK.obj i o hi
      have e2 := hp.sub _ _ hs2
      rw [hs] at e2; cases e2
      exact ⟨i, c, o, hi, hs2⟩
  · intro b c hF
    rcases hp.fold b c hF with h1 | h1 | ⟨j, c', o', hj, hsj⟩
    · exact .inl h1
    · exact .inr (.inl h1)
    · exact .inr (.inr ⟨j, c', o', hB _ _ hj, hsj⟩)

/-- Seeing less is no harm. -/
theorem HR.less {σ : Sg} {F : Fz} {g g' : Nat → Option AO} {w : World} (h : HR σ F g w) (hs : ∀ i o, g' i = some o → g i = some o) : HR σ F g' w :=
  ⟨fun i o hi => h.obj i o (hs i o hi), fun i j b c c' o o' hi hj => h.inj i j b c c' o o' (hs _ _ hi) (hs _ _ hj), fun i b c o hi => h.sep i b c o (hs _ _ hi), h.frz, h.bnd⟩

end Go.VM

/- Runs of the model's small pieces. -/
namespace Go.VM
open Go

theorem run_bind {α β : Type} (P : Program) (x : Sem α) (f : α → Sem β) : ∀ (w : World), (x >>= f).run P w = match x.run P w with | .ok a w' => (f a).run P w' | .halt h w' => .halt h w' := by
  show ∀ w, (Sem.bind x f).run P w = _
  induction x with
  | pure a => intro w; simp [Sem.bind, Sem.run]
  | load m a k ih =>
    intro w
    simp only [Sem.bind, Sem.run]
    cases w.cell? a with
    | some v => simp [ih]
    | none =>
      cases World.farLoad P w a (m == .atomic) with
      | ok x => cases x; simp [ih]
      | error e => rfl
  | store m a v k ih =>
    intro w
    cases v
    case agg => rfl
    case tuple => rfl
    all_goals
      simp only [Sem.bind, Sem.run]
      cases w.cell? a with
      | some v =>
        simp only []
        split
        · rfl
        · simp [ih]
      | none =>
        simp only []
        split
        · simp [ih]
        · rfl
  | new o k ih => intro w; simp [Sem.bind, Sem.run, ih]
  | shape r k ih => intro w; simp [Sem.bind, Sem.run, ih]
  | freeze a n k ih => intro w; simp [Sem.bind, Sem.run, ih]
  | frozen a k ih => intro w; simp [Sem.bind, Sem.run, ih]
  | getObj r k ih =>
    intro w
    simp only [Sem.bind, Sem.run]
    split
    · rfl
    · simp [ih]
    · rfl
  | setObj r o k ih =>
    intro w
    simp only [Sem.bind, Sem.run]
    split
    · rfl
    · simp [ih]
    · rfl
  | choose q k ih =>
    intro w
    simp only [Sem.bind, Sem.run]
    split
    · simp [ih]
    · simp [ih]
  | sys c k ih => intro w; simp [Sem.bind, Sem.run, ih]
  | program k ih => intro w; simp [Sem.bind, Sem.run, ih]
  | mark m k ih => intro w; simp [Sem.bind, Sem.run, ih]
  | halt h => intro w; simp [Sem.bind, Sem.run]

def Runs {α : Type} (P : Program) (x : Sem α) (w : World) (a : α) (w' : World) : Prop := x.run P w = .ok a w'

theorem Runs.bind {α β : Type} {P : Program} {x : Sem α} {f : α → Sem β} {w w1 w2 : World} {a : α} {b : β} (h : Runs P x w a w1) (h' : Runs P (f a) w1 b w2) : Runs P (x >>= f) w b w2 := by
  unfold Runs at *; rw [run_bind, h]; exact h'

theorem Runs.pure {α : Type} {P : Program} {a : α} {w : World} : Runs P (Pure.pure a : Sem α) w a w := rfl
theorem Runs.of {α : Type} {P : Program} {x : Sem α} {w w' : World} {a b : α} (h : Runs P x w a w') (e : a = b) : Runs P x w b w' := e ▸ h

section
variable {P : Program} {w : World}

theorem runs_underlying {t : TypeId} {d : TypeDesc} (h : P.underlying t = some d) : Runs P (underlying t) w d w := by
  unfold underlying
  refine Runs.bind (a := P) (w1 := w) rfl ?_
  simp only [h]; rfl

theorem runs_typeInfo {t : TypeId} {i : TypeInfo} (h : P.info? t = some i) : Runs P (typeInfo t) w i w := by
  unfold typeInfo
  refine Runs.bind (a := P) (w1 := w) rfl ?_
  simp only [h]; rfl

theorem runs_sizeOf {t : TypeId} {i : TypeInfo} (h : P.info? t = some i) : Runs P (sizeOf t) w i.size w := by
  unfold sizeOf
  exact Runs.bind (runs_typeInfo h) rfl

theorem runs_zeroValue {t : TypeId} {i : TypeInfo} {z : Value} (h : P.info? t = some i) (hz : i.zero = some z) : Runs P (zeroValue t) w z w := by
  unfold zeroValue
  refine Runs.bind (runs_typeInfo h) ?_
  simp only [hz]; rfl

def isAggD : TypeDesc → Bool
  | .struct _ => true
  | .array _ _ => true
  | _ => false

theorem runs_isAgg {t : TypeId} {d : TypeDesc} (h : P.underlying t = some d) : Runs P (isAgg t) w (isAggD d) w := by
  unfold isAgg
  refine Runs.bind (runs_underlying h) ?_
  cases d <;> rfl

theorem add_spot {b o n : Nat} : (⟨b, o, none⟩ : Addr).add n = ⟨b, o + n, none⟩ := by
  unfold Addr.add
  split
  · subst_vars; rfl
  · rfl

theorem cell_of {b o : Nat} {c : Array Value} {e : TypeId} {fr : Nat × Nat} (h : w.heap[b]? = some (.cells c e fr)) : w.cell? ⟨b, o, none⟩ = c[o]? := by
  simp [World.cell?, h]

theorem runs_load {b o : Nat} {c : Array Value} {e : TypeId} {fr : Nat × Nat} (h : w.heap[b]? = some (.cells c e fr)) (ho : o < c.size) :
    Runs P (load ⟨b, o, none⟩) w (c.getD o undef) w := by
  unfold Runs load
  simp only [Sem.run, cell_of h, Array.getElem?_eq_getElem ho]
  simp [Array.getD, ho]

theorem runs_loadCellsFrom {b o : Nat} {c : Array Value} {e : TypeId} {fr : Nat × Nat} (h : w.heap[b]? = some (.cells c e fr)) (n : Nat) : ∀ (i : Nat) (acc : Array Value),
    o + i + n ≤ c.size → Runs P (loadCellsFrom ⟨b, o, none⟩ i n acc) w (acc ++ c.extract (o + i) (o + i + n)) w := by
  induction n with
  | zero => intro i acc _; simp only [loadCellsFrom]; exact Runs.pure.of (by simp; omega)
  | succ n ih =>
    intro i acc hb
    simp only [loadCellsFrom, add_spot]
    refine Runs.bind (runs_load h (by omega)) ?_
    refine (ih (i + 1) _ (by omega)).of ?_
    apply Array.ext'
    simp only [Array.toList_append, Array.toList_push, Array.toList_extract, List.append_assoc, List.extract_eq_take_drop]
    congr 1
    have e1 : o + (i + 1) + n - (o + (i + 1)) = n := by omega
    have e2 : o + i + (n + 1) - (o + i) = n + 1 := by omega
    rw [e1, e2, show o + (i + 1) = o + i + 1 from by omega]
    have hlt : o + i < c.toList.length := by simp; omega
    rw [List.drop_eq_getElem_cons hlt, List.take_succ_cons]
    simp [Array.getD, show o + i < c.size from by omega]

theorem runs_loadCells {b o n : Nat} {c : Array Value} {e : TypeId} {fr : Nat × Nat} (h : w.heap[b]? = some (.cells c e fr)) (hb : o + n ≤ c.size) :
    Runs P (loadCells ⟨b, o, none⟩ n) w (c.extract o (o + n)) w := by
  unfold loadCells
  exact (runs_loadCellsFrom h n 0 #[] (by omega)).of (by simp)

/-- A block of cells with some cells overwritten. -/
def overC (c : Array Value) (o : Nat) : List Value → Array Value
  | [] => c
  | v :: vs => overC (c.setIfInBounds o v) (o + 1) vs

@[simp] theorem overC_size (vs : List Value) : ∀ (c : Array Value) (o : Nat), (overC c o vs).size = c.size := by
  induction vs with
  | nil => intro c o; rfl
  | cons v vs ih => intro c o; simp [overC, ih]

theorem overC_get (vs : List Value) : ∀ (c : Array Value) (o i : Nat), i < c.size → (overC c o vs).getD i undef = if o ≤ i ∧ i < o + vs.length then vs.getD (i - o) undef else c.getD i undef := by
  induction vs with
  | nil => intro c o i hi; simp [overC]; omega
  | cons v vs ih =>
    intro c o i hi
    simp only [overC]
    rw [ih _ _ _ (by simpa using hi)]
    simp only [List.length_cons]
    by_cases h1 : o = i
    · subst h1
      rw [if_neg (by omega), if_pos (by omega)]
      simp [Array.getD, hi]
    · by_cases h2 : o + 1 ≤ i ∧ i < o + 1 + vs.length
      · rw [if_pos h2, if_pos (by omega)]
        rw [show i - o = (i - (o + 1)) + 1 from by omega]
        simp
      · rw [if_neg h2, if_neg (by omega)]
        simp [Array.getD, hi, h1]

def plainV : Value → Bool
  | .agg _ => false
  | .tuple _ => false
  | _ => true

def setBlock (w : World) (b : Nat) (o : Obj) : World := { w with heap := w.heap.setIfInBounds b o }

theorem setBlock_same {b : Nat} {o o' : Obj} (h : w.heap[b]? = some o') : (setBlock w b o).heap[b]? = some o := by
  have : b < w.heap.size := (Array.getElem?_eq_some_iff.1 h).1
  simp [setBlock, this]

theorem setBlock_other {b b' : Nat} {o : Obj} (h : b ≠ b') : (setBlock w b o).heap[b']? = w.heap[b']? := by
  simp [setBlock, Array.getElem?_setIfInBounds_ne h]

theorem setBlock_size {b : Nat} {o : Obj} : (setBlock w b o).heap.size = w.heap.size := by simp [setBlock]

theorem setBlock_setBlock {b : Nat} {o o' : Obj} : setBlock (setBlock w b o) b o' = setBlock w b o' := by
  simp [setBlock]

theorem setBlock_self {b : Nat} {o : Obj} (h : w.heap[b]? = some o) : setBlock w b o = w := by
  have hb : b < w.heap.size := (Array.getElem?_eq_some_iff.1 h).1
  have he : w.heap[b] = o := (Array.getElem?_eq_some_iff.1 h).2
  unfold setBlock
  have : w.heap.setIfInBounds b o = w.heap := by
    apply Array.ext (by simp)
    intro i h1 h2
    rw [Array.getElem_setIfInBounds (by simpa using h2)]
    split
    · subst_vars; rfl
    · rfl
  rw [this]

theorem runs_store {b o : Nat} {c : Array Value} {e : TypeId} {fr : Nat × Nat} {v : Value} (h : w.heap[b]? = some (.cells c e fr)) (ho : o < c.size)
    (hf : unfrozen fr c.size) (hv : plainV v = true) : Runs P (store ⟨b, o, none⟩ v) w () (setBlock w b (.cells (c.setIfInBounds o v) e fr)) := by
  have hb : b < w.heap.size := (Array.getElem?_eq_some_iff.1 h).1
  have he : w.heap[b] = .cells c e fr := (Array.getElem?_eq_some_iff.1 h).2
  have hcell : w.cell? ⟨b, o, none⟩ = some c[o] := by rw [cell_of h, Array.getElem?_eq_getElem ho]
  have hfz : w.frozen? ⟨b, o, none⟩ = false := by
    simp only [World.frozen?, h]
    have := hf.no o ho
    simp only [Bool.and_eq_false_iff, decide_eq_false_iff_not]
    omega
  have hset : w.setCell ⟨b, o, none⟩ v = setBlock w b (.cells (c.setIfInBounds o v) e fr) := by
    simp only [World.setCell, setBlock]
    congr 1
    apply Array.ext (by simp)
    intro i h1 h2
    simp only [Array.getElem_modify, Array.getElem_setIfInBounds (show i < w.heap.size by simpa using h1)]
    split
    · subst_vars; simp [he]
    · rfl
  unfold Runs store
  cases v <;> simp only [plainV] at hv <;> first | cases hv | skip
  all_goals simp only [Sem.run, hcell, hfz, hset, Bool.false_eq_true, if_false]

theorem runs_storeCells {b o : Nat} {e : TypeId} {fr : Nat × Nat} (vs : List Value) : ∀ (c : Array Value) (w : World) (i : Nat), w.heap[b]? = some (.cells c e fr) → o + i + vs.length ≤ c.size →
    unfrozen fr c.size → (∀ v ∈ vs, plainV v = true) → Runs P (storeCells ⟨b, o, none⟩ vs i) w () (setBlock w b (.cells (overC c (o + i) vs) e fr)) := by
  induction vs with
  | nil =>
    intro c w i h _ _ _
    simp only [storeCells, overC, setBlock_self h]
    exact Runs.pure
  | cons v vs ih =>
    intro c w i h hb hf hv
    simp only [List.length_cons] at hb
    simp only [storeCells, add_spot]
    refine Runs.bind (runs_store h (by omega) hf (hv v (by simp))) ?_
    have := ih (c.setIfInBounds (o + i) v) (setBlock w b (.cells (c.setIfInBounds (o + i) v) e fr)) (i + 1) (setBlock_same h) (by simp; omega) (by simpa using hf) (fun u hu => hv u (by simp [hu]))
    rw [setBlock_setBlock] at this
    simpa [overC, Nat.add_assoc] using this

end
end Go.VM

/- Types, heaps, and what allocation and storing do. -/
namespace Go.VM
open Go

theorem Tr.get_set_ne {α : Type} (n : Nat) : ∀ (t : Tr α) (i j : Nat) (x : Option α), i ≠ j → (t.set n i x).get j = t.get j := by
  induction n with
  | zero => intro t i j x _; rfl
  | succ n ih =>
    intro t i j x hij
    have hb : ∀ k : Nat, (Nat.beq k 0) = decide (k = 0) := fun k => by cases k <;> simp [Nat.beq]
    have hc : ∀ k : Nat, (Nat.beq (k % 2) 1) = decide (k % 2 = 1) := fun k => by
      rcases Nat.mod_two_eq_zero_or_one k with h | h <;> simp [h, Nat.beq]
    have nilg : ∀ k : Nat, (Tr.nil : Tr α).get k = none := fun k => by simp [Tr.get_nil]
    cases t with
    | nil =>
      simp only [Tr.set_nil, Tr.set_node, hb, hc]
      by_cases h0 : i = 0
      · subst h0
        have : j ≠ 0 := fun e => hij e.symm
        simp [Tr.get_nil, Tr.get_node, hb, hc, this]
      · by_cases h1 : i % 2 = 1
        · simp only [h0, h1, decide_true, decide_false, cond_true, cond_false, Tr.get_nil, Tr.get_node, hb, hc]
          by_cases j0 : j = 0
          · simp [j0]
          · by_cases j1 : j % 2 = 1
            · simp only [j0, j1, decide_true, decide_false, cond_true, cond_false]
              rw [ih _ _ _ _ (by omega)]; simp [nilg]
            · simp [j0, j1]
        · simp only [h0, h1, decide_false, cond_false, Tr.get_nil, Tr.get_node, hb, hc]
          by_cases j0 : j = 0
          · simp [j0]
          · by_cases j1 : j % 2 = 1
            · simp [j0, j1]
            · simp only [j0, j1, decide_false, cond_false]
              rw [ih _ _ _ _ (by omega)]; simp [nilg]
    | node l v r =>
      simp only [Tr.set_nil, Tr.set_node, hb, hc]
      by_cases h0 : i = 0
      · subst h0
        have : j ≠ 0 := fun e => hij e.symm
        simp [Tr.get_nil, Tr.get_node, hb, hc, this]
      · by_cases h1 : i % 2 = 1
        · simp only [h0, h1, decide_true, decide_false, cond_true, cond_false, Tr.get_nil, Tr.get_node, hb, hc]
          by_cases j0 : j = 0
          · simp [j0]
          · by_cases j1 : j % 2 = 1
            · simp only [j0, j1, decide_true, decide_false, cond_true, cond_false]
              rw [ih _ _ _ _ (by omega)]
            · simp [j0, j1]
        · simp only [h0, h1, decide_false, cond_false, Tr.get_nil, Tr.get_node, hb, hc]
          by_cases j0 : j = 0
          · simp [j0]
          · by_cases j1 : j % 2 = 1
            · simp [j0, j1]
            · simp only [j0, j1, decide_false, cond_false]
              rw [ih _ _ _ _ (by omega)]

theorem Tr.get_set_same {α : Type} (n : Nat) : ∀ (t : Tr α) (i : Nat) (x : Option α), i + 1 < 2 ^ n → (t.set n i x).get i = x := by
  induction n with
  | zero => intro t i x h; simp at h
  | succ n ih =>
    intro t i x hi
    have hb : ∀ k : Nat, (Nat.beq k 0) = decide (k = 0) := fun k => by cases k <;> simp [Nat.beq]
    have hc : ∀ k : Nat, (Nat.beq (k % 2) 1) = decide (k % 2 = 1) := fun k => by
      rcases Nat.mod_two_eq_zero_or_one k with h | h <;> simp [h, Nat.beq]
    have hp : 2 ^ (n + 1) = 2 * 2 ^ n := by rw [Nat.pow_succ]; omega
    cases t with
    | nil =>
      simp only [Tr.set_nil, Tr.set_node, hb, hc]
      by_cases h0 : i = 0
      · subst h0; simp [Tr.get_nil, Tr.get_node, hb]
      · by_cases h1 : i % 2 = 1
        · simp only [h0, h1, decide_true, decide_false, cond_true, cond_false, Tr.get_nil, Tr.get_node, hb, hc]
          exact ih _ _ _ (by omega)
        · simp only [h0, h1, decide_false, cond_false, Tr.get_nil, Tr.get_node, hb, hc]
          exact ih _ _ _ (by omega)
    | node l v r =>
      simp only [Tr.set_nil, Tr.set_node, hb, hc]
      by_cases h0 : i = 0
      · subst h0; simp [Tr.get_nil, Tr.get_node, hb]
      · by_cases h1 : i % 2 = 1
        · simp only [h0, h1, decide_true, decide_false, cond_true, cond_false, Tr.get_nil, Tr.get_node, hb, hc]
          exact ih _ _ _ (by omega)
        · simp only [h0, h1, decide_false, cond_false, Tr.get_nil, Tr.get_node, hb, hc]
          exact ih _ _ _ (by omega)

def upd {α : Type} (g : Nat → Option α) (i : Nat) (o : Option α) : Nat → Option α := fun j => if j = i then o else g j

theorem Tr.get_set {α : Type} (t : Tr α) (i : Nat) (x : Option α) (h : i < 1099511627775) : (t.set 40 i x).get = upd t.get i x := by
  funext j
  unfold upd
  split
  · subst_vars; exact Tr.get_set_same _ _ _ _ (by omega)
  · rename_i hne; exact Tr.get_set_ne _ _ _ _ _ (fun e => hne e.symm)

theorem AH.get_put {H : AH} {i : Nat} {o : Option AO} (h : i < 1099511627775) : (H.put i o).get = upd H.get i o := Tr.get_set _ _ _ h

theorem AH.new_eq {H H' : AH} {o : AO} {i : Nat} (h : H.new o = some (i, H')) :
    i = H.next ∧ H'.next = H.next + 1 ∧ H.next < 1099511627775 ∧ H'.get = upd H.get H.next (some o) ∧ H'.log = H.next :: H.log := by
  unfold AH.new at h
  cases hb : Nat.ble H.next 1000000000 with
  | false => rw [hb] at h; cases h
  | true =>
    rw [hb] at h
    simp only [cond_true, Option.some.injEq, Prod.mk.injEq] at h
    obtain ⟨rfl, rfl⟩ := h
    have := Nat.le_of_ble_eq_true hb
    exact ⟨rfl, rfl, by omega, Tr.get_set _ _ _ (by omega), rfl⟩

/-- The log tells what has changed. -/
structure LogOk (H H' : AH) : Prop where
  sub : ∀ i, i ∈ H.log → i ∈ H'.log
  log : ∀ i, i ∉ H'.log → H'.get i = H.get i
  le : H.next ≤ H'.next

theorem LogOk.refl (H : AH) : LogOk H H := ⟨fun _ h => h, fun _ _ => rfl, Nat.le_refl _⟩
theorem LogOk.trans {A B C : AH} (h : LogOk A B) (k : LogOk B C) : LogOk A C :=
  ⟨fun i hi => k.sub i (h.sub i hi), fun i hi => by rw [k.log i hi, h.log i (fun hb => hi (k.sub i hb))], Nat.le_trans h.le k.le⟩
theorem LogOk.put {H : AH} {i : Nat} {o : Option AO} : LogOk H (H.put i o) :=
  ⟨fun j hj => List.mem_cons_of_mem _ hj, fun j hj => by
    show (H.tr.set 40 i o).get j = H.tr.get j
    exact Tr.get_set_ne 40 H.tr i j o (fun e => hj (by rw [← e]; exact List.mem_cons_self)), Nat.le_refl _⟩
theorem LogOk.new {H H' : AH} {o : AO} {i : Nat} (h : H.new o = some (i, H')) : LogOk H H' := by
  obtain ⟨rfl, h2, h3, h4, h5⟩ := AH.new_eq h
  exact ⟨fun j hj => by rw [h5]; exact List.mem_cons_of_mem _ hj, fun j hj => by rw [h4]; unfold upd; rw [if_neg (fun e => hj (by rw [h5, e]; exact List.mem_cons_self))], by omega⟩

section
variable {P : Program}

def isIfD : TypeDesc → Bool
  | .interface _ => true
  | _ => false

/-- What stands in the table of types is so. -/
def UDok (P : Program) : UD → TypeDesc → Prop
  | .bool, .bool => True
  | .int k, .int k' => k = k'
  | .str, .string => True
  | .ptr e, .pointer e' => e = e'
  | .slice e, .slice e' => e = e'
  | .arr n e, .array n' e' => n = n' ∧ e = e'
  | .struct fs, .struct fields => fields.size = fs.length ∧ ∀ (i : Nat) q, fs[i]? = some q → ∃ f fi, fields[i]? = some f ∧ f.offset = q.1 ∧ f.type = q.2.2 ∧ P.info? f.type = some fi ∧ fi.size = q.2.1
  | .map k e, .map k' e' => k = k' ∧ e = e'
  | .iface, .interface _ => True
  | .func, .func _ _ _ => True
  | .oth, d => isAggD d = false ∧ isIfD d = false
  | _, _ => False

structure TIok (P : Program) (t : TypeId) (ti : TI) : Prop where
  und : ∃ d, P.underlying t = some d ∧ UDok P ti.ud d
  info : ∃ i z, P.info? t = some i ∧ i.size = ti.size ∧ i.bytes = ti.bytes ∧ i.zero = some z ∧ ofCells z.cells.toList = some ti.zero ∧
    (ti.ud.isAgg = true → ∃ cs, z = .agg cs) ∧ (ti.ud.isAgg = false → ∀ v, ti.zero = [v] → ofCell z = some v)
  eqk : ti.eqok = true → P.stoodInHeld t = false ∧ P.eqGuardType P.depth t = false ∧ (∀ fields, P.underlying t = some (.struct fields) → ∀ f ∈ fields, f.name ≠ "_")
  meth : ∀ n f, findM n ti.meths = some f → ∃ i m, P.info? t = some i ∧ i.methods.find? (·.name == n) = some m ∧ m.path = #[] ∧ m.func = some (f, false) ∧ ∀ e, P.underlying t ≠ some (.pointer e)

def TTok (P : Program) (tt : TT) : Prop := ∀ t ti, tt.get t = some ti → TIok P t ti

theorem ofCell_ok {σ : Sg} {F : Fz} {c : Value} {v : AV} (h : ofCell c = some v) : VRel σ F v c ∧ v.isCell = true ∧ plainV c = true := by
  unfold ofCell at h
  split at h <;> first | cases h | (simp only [Option.some.injEq] at h; subst h)
  · exact ⟨.bool _, rfl, rfl⟩
  · exact ⟨.int _ _, rfl, rfl⟩
  · exact ⟨.str _, rfl, rfl⟩
  · exact ⟨.nilp, rfl, rfl⟩
  · exact ⟨.nils, rfl, rfl⟩
  · exact ⟨.nilm, rfl, rfl⟩
  · exact ⟨.nilf, rfl, rfl⟩
  · exact ⟨.nili, rfl, rfl⟩
  · exact ⟨.func rfl (by simp), rfl, rfl⟩

theorem ofCells_ok {cs : List Value} : ∀ {as : List AV}, ofCells cs = some as → cs.length = as.length ∧ ∀ (i : Nat) a, as[i]? = some a → ∃ c, cs[i]? = some c ∧ ofCell c = some a := by
  induction cs with
  | nil => intro as h; simp only [ofCells, Option.some.injEq] at h; subst h; simp
  | cons v vs ih =>
    intro as h
    simp only [ofCells] at h
    cases hv : ofCell v with
    | none => rw [hv] at h; cases h
    | some a =>
      rw [hv] at h
      cases hvs : ofCells vs with
      | none => rw [hvs] at h; cases h
      | some bs =>
        rw [hvs] at h
        simp only [Option.bind_some, Option.some.injEq] at h
        subst h
        obtain ⟨hl, hg⟩ := ih hvs
        refine ⟨by simp [hl], fun i b hb => ?_⟩
        cases i with
        | zero => simp at hb; subst hb; exact ⟨v, rfl, hv⟩
        | succ i => simp at hb; obtain ⟨c, h1, h2⟩ := hg i b hb; exact ⟨c, by simpa using h1, h2⟩

/-- Cells of memory, from a place on, are as abstract ones say. -/
structure CRel (σ : Sg) (F : Fz) (cs : List AV) (c : Array Value) (o : Nat) : Prop where
  bnd : o + cs.length ≤ c.size
  cell : ∀ (i : Nat) x, cs[i]? = some x → x.isCell = true
  val : ∀ (i : Nat) x, cs[i]? = some x → VRel σ F x (c.getD (o + i) undef)

theorem ofVal_ok {σ : Sg} {F : Fz} {c : Value} {v : AV} (h : ofVal c = some v) : VRel σ F v c := by
  unfold ofVal at h
  split at h
  · rename_i cs
    cases hc : ofCells cs with
    | none => rw [hc] at h; cases h
    | some as =>
      rw [hc] at h
      simp only [Option.bind_some, Option.some.injEq] at h
      subst h
      obtain ⟨hl, hg⟩ := ofCells_ok hc
      refine .agg (by simp [hl]) (fun i x hx => ?_) (fun i x hx => ?_)
      · obtain ⟨y, _, h2⟩ := hg i x hx; exact (ofCell_ok (σ := σ) (F := F) h2).2.1
      · obtain ⟨y, h1, h2⟩ := hg i x hx
        have := (ofCell_ok (σ := σ) (F := F) h2).1
        have hi : i < cs.length := (List.getElem?_eq_some_iff.1 h1).1
        have he : cs[i] = y := (List.getElem?_eq_some_iff.1 h1).2
        simpa [Array.getD, hi, he] using this
  · exact (ofCell_ok h).1

theorem VRel.plain {σ : Sg} {F : Fz} {c : AV} {cv : Value} (h : VRel σ F c cv) (hc : c.isCell = true) : plainV cv = true := by
  cases h <;> first | rfl | (simp [AV.isCell] at hc)

theorem Value.cells_of_plain {v : Value} (h : plainV v = true) : v.cells = #[v] := by
  cases v <;> first | rfl | simp [plainV] at h

theorem VRel.cells {σ : Sg} {F : Fz} {v : AV} {cv : Value} {cs : List AV} (h : VRel σ F v cv) (hc : v.cells = some cs) : cv.cells.size = cs.length ∧ CRel σ F cs cv.cells 0 := by
  by_cases hcell : v.isCell = true
  · have hp := h.plain hcell
    have : cs = [v] := by cases v <;> simp_all [AV.cells, AV.isCell]
    subst this
    rw [Value.cells_of_plain hp]
    refine ⟨rfl, by simp, fun i x hx => ?_, fun i x hx => ?_⟩
    · cases i with
      | zero => simp at hx; subst hx; exact hcell
      | succ i => simp at hx
    · cases i with
      | zero => simp at hx; subst hx; simpa [Array.getD] using h
      | succ i => simp at hx
  · cases h <;> simp [AV.cells] at hc <;> first | (simp [AV.isCell] at hcell) | skip
    subst hc
    rename_i hs hc hv
    exact ⟨hs, by simp [Value.cells, hs], hc, fun i x hx => by simpa [Value.cells] using hv i x hx⟩

theorem VRel.undef_tup {σ : Sg} {F : Fz} : VRel σ F (.tup []) undef := .tup rfl (by simp)

/-! ### Changes of the heap -/

def updσ (σ : Sg) (n : Nat) (x : Nat × Nat) : Sg := fun i => if i = n then some x else σ i

theorem sub_updσ {σ : Sg} {n : Nat} {x : Nat × Nat} (h : σ n = none) : Sub σ (updσ σ n x) := by
  intro i y hy
  unfold updσ
  split
  · subst_vars; rw [h] at hy; cases hy
  · exact hy

def pushW (w : World) (x : Obj) : World := { w with heap := w.heap.push x }

theorem pushW_old {w : World} {x : Obj} {b : Nat} (h : b < w.heap.size) : (pushW w x).heap[b]? = w.heap[b]? := by
  simp [pushW, Array.getElem?_push, Nat.ne_of_lt h]

theorem pushW_new {w : World} {x : Obj} : (pushW w x).heap[w.heap.size]? = some x := by simp [pushW]

theorem Post.new {σ : Sg} {F : Fz} {g : Nat → Option AO} {w : World} {n cs : Nat} {o : AO} {x : Obj} (h : HR σ F g w) (hn : σ n = none) (hb : n < 1099511627775)
    (ho : ORel (updσ σ n (w.heap.size, cs)) F o cs (some x)) : Post σ F g w n (n + 1) (updσ σ n (w.heap.size, cs)) F (upd g n (some o)) (pushW w x) := by
  have hs := sub_updσ (x := (w.heap.size, cs)) hn
  have gn : g n = none := by
    cases hg : g n with
    | none => rfl
    | some o' => obtain ⟨b, c, h1, _⟩ := h.obj n o' hg; rw [hn] at h1; cases h1
  have hF : F w.heap.size = none := by
    cases hf : F w.heap.size with
    | none => rfl
    | some c => obtain ⟨e, fr, h1⟩ := h.frz _ _ hf; simp at h1
  have hat : ∀ {i : Nat}, i ≠ n → updσ σ n (w.heap.size, cs) i = σ i := fun hne => by simp [updσ, hne]
  have hat' : updσ σ n (w.heap.size, cs) n = some (w.heap.size, cs) := by simp [updσ]
  refine ⟨hs, .refl _, ⟨?_, ?_, ?_, ?_, ?_⟩, by simp [pushW], fun b hb _ => pushW_old hb, ?_, ?_, fun _ _ h => .inl h, rfl, rfl, rfl, by omega⟩
  · intro i o' hi
    unfold upd at hi
    by_cases hin : i = n
    · subst hin
      simp only [if_true, Option.some.injEq] at hi; subst hi
      exact ⟨_, _, hat', by rw [pushW_new]; exact ho⟩
    · rw [if_neg hin] at hi
      obtain ⟨b, c, h1, h2⟩ := h.obj i o' hi
      exact ⟨b, c, hs _ _ h1, by rw [pushW_old (h.lt hi h1)]; exact h2.mono hs (.refl _)⟩
  · intro i j b c c' o1 o2 hi hj hsi hsj
    unfold upd at hi hj
    by_cases hin : i = n
    · by_cases hjn : j = n
      · rw [hin, hjn]
      · rw [if_neg hjn] at hj
        subst hin
        rw [hat'] at hsi; cases hsi
        rw [hat hjn] at hsj
        exact absurd (h.lt hj hsj) (by omega)
    · rw [if_neg hin] at hi
      rw [hat hin] at hsi
      by_cases hjn : j = n
      · subst hjn
        rw [hat'] at hsj; cases hsj
        exact absurd (h.lt hi hsi) (by omega)
      · rw [if_neg hjn] at hj
        rw [hat hjn] at hsj
        exact h.inj i j b c c' o1 o2 hi hj hsi hsj
  · intro i b c o1 hi hsi
    unfold upd at hi
    by_cases hin : i = n
    · subst hin; rw [hat'] at hsi; cases hsi; exact hF
    · rw [if_neg hin] at hi; rw [hat hin] at hsi; exact h.sep i b c o1 hi hsi
  · intro b c hf
    obtain ⟨e, fr, h1⟩ := h.frz b c hf
    have hlt : b < w.heap.size := (Array.getElem?_eq_some_iff.1 h1).1
    exact ⟨e, fr, by rw [pushW_old hlt]; exact h1⟩
  · intro i y hy
    by_cases hin : i = n
    · rw [hin]; exact hb
    · rw [hat hin] at hy; exact h.bnd i y hy
  · intro i y hy
    by_cases hin : i = n
    · exact .inr (by omega)
    · rw [hat hin] at hy; exact .inl hy
  · intro i b c o1 hi hsi hlt
    unfold upd at hi
    by_cases hin : i = n
    · subst hin; rw [hat'] at hsi; cases hsi; omega
    · rw [if_neg hin] at hi; rw [hat hin] at hsi; exact ⟨i, c, o1, hi, hsi⟩

theorem Post.set {σ : Sg} {F : Fz} {g : Nat → Option AO} {w : World} {i b cs n : Nat} {o o' : AO} {x : Obj} (h : HR σ F g w) (hi : g i = some o) (hs : σ i = some (b, cs))
    (ho : ORel σ F o' cs (some x)) : Post σ F g w n n σ F (upd g i (some o')) (setBlock w b x) := by
  have hlt := h.lt hi hs
  have hold : ∀ {j : Nat} {o1 : AO} {b' c' : Nat}, j ≠ i → g j = some o1 → σ j = some (b', c') → (setBlock w b x).heap[b']? = w.heap[b']? := by
    intro j o1 b' c' hne hj hsj
    refine setBlock_other fun e => hne ?_
    subst e
    exact h.inj j i b c' cs o1 o hj hi hsj hs
  refine ⟨.refl _, .refl _, ⟨?_, ?_, ?_, ?_, h.bnd⟩, by simp [setBlock], ?_, fun _ _ h => .inl h, ?_, fun _ _ h => .inl h, rfl, rfl, rfl, Nat.le_refl _⟩
  · intro j o1 hj
    unfold upd at hj
    by_cases hji : j = i
    · subst hji
      simp only [if_true, Option.some.injEq] at hj; subst hj
      exact ⟨b, cs, hs, by
        have : (setBlock w b x).heap[b]? = some x := by simp [setBlock, hlt]
        rw [this]; exact ho⟩
    · rw [if_neg hji] at hj
      obtain ⟨b', c', h1, h2⟩ := h.obj j o1 hj
      exact ⟨b', c', h1, by rw [hold hji hj h1]; exact h2⟩
  · intro j k b' c c' o1 o2 hj hk
    have up : ∀ {m : Nat} {o3 : AO}, upd g i (some o') m = some o3 → ∃ o4, g m = some o4 := by
      intro m o3 hm
      unfold upd at hm
      by_cases hmi : m = i
      · subst hmi; exact ⟨o, hi⟩
      · rw [if_neg hmi] at hm; exact ⟨o3, hm⟩
    obtain ⟨o3, h3⟩ := up hj
    obtain ⟨o4, h4⟩ := up hk
    exact h.inj j k b' c c' o3 o4 h3 h4
  · intro j b' c o1 hj
    unfold upd at hj
    by_cases hji : j = i
    · subst hji; exact h.sep j b' c o hi
    · rw [if_neg hji] at hj; exact h.sep j b' c o1 hj
  · intro b' c hf
    obtain ⟨e, fr, h1⟩ := h.frz b' c hf
    refine ⟨e, fr, ?_⟩
    rw [setBlock_other]
    · exact h1
    · intro e; subst e; have := h.sep i b cs o hi hs; rw [this] at hf; cases hf
  · intro b' _ hn
    refine setBlock_other fun e => ?_
    subst e
    exact hn i o cs hi hs
  · intro j b' c o1 hj hsj _
    unfold upd at hj
    by_cases hji : j = i
    · subst hji; exact ⟨j, c, o, hi, hsj⟩
    · rw [if_neg hji] at hj; exact ⟨j, c, o1, hj, hsj⟩

/-- Something is no longer seen. -/
theorem Post.kill {σ : Sg} {F : Fz} {g : Nat → Option AO} {w : World} {n : Nat} (h : HR σ F g w) (i : Nat) : Post σ F g w n n σ F (upd g i none) w := by
  have hl : ∀ j o, upd g i none j = some o → g j = some o := fun j o hj => by
    unfold upd at hj; split at hj
    · cases hj
    · exact hj
  exact ⟨.refl _, .refl _, h.less hl, Nat.le_refl _, fun _ _ _ => rfl, fun _ _ h => .inl h, fun j b c o hj hs _ => ⟨j, c, o, hl j o hj, hs⟩, fun _ _ h => .inl h, rfl, rfl, rfl, Nat.le_refl _⟩

end
end Go.VM

/- Operations on memory: what the abstract ones say, the model's do. -/
namespace Go.VM
open Go

section
variable {P : Program} {σ : Sg} {F : Fz} {w : World}

theorem UDok.agg {u : UD} {d : TypeDesc} (h : UDok P u d) : isAggD d = u.isAgg := by
  cases u <;> cases d <;> first | rfl | exact h.1 | (simp [UDok] at h)

theorem TIok.isAgg {t : TypeId} {ti : TI} (h : TIok P t ti) : Runs P (Go.isAgg t) w ti.ud.isAgg w := by
  obtain ⟨d, hd, hu⟩ := h.und
  exact (runs_isAgg hd).of hu.agg

theorem TIok.size_ {t : TypeId} {ti : TI} (h : TIok P t ti) : Runs P (sizeOf t) w ti.size w := by
  obtain ⟨i, z, h1, h2, _⟩ := h.info
  exact (runs_sizeOf h1).of h2

theorem extract_getD {c : Array Value} {a b i : Nat} (h1 : b ≤ c.size) (h2 : a + i < b) : (c.extract a b).getD i undef = c.getD (a + i) undef := by
  have : i < (c.extract a b).size := by simp; omega
  have h3 : a + i < c.size := by omega
  simp only [Array.getD, h3, this, dif_pos]
  simp [Array.getElem_extract]

theorem agg_extract {cs : List AV} {c : Array Value} {o off n : Nat} (hc : CRel σ F cs c o) (hb : off + n ≤ cs.length) :
    VRel σ F (.agg ((cs.drop off).take n)) (.agg (c.extract (o + off) (o + off + n))) := by
  have hbn := hc.bnd
  have hl : ((cs.drop off).take n).length = n := by simp; omega
  refine .agg (by simp; omega) (fun i x hx => ?_) (fun i x hx => ?_)
  · have hi : i < n := by have := (List.getElem?_eq_some_iff.1 hx).1; omega
    rw [List.getElem?_take_of_lt hi, List.getElem?_drop] at hx
    exact hc.cell _ x hx
  · have hi : i < n := by have := (List.getElem?_eq_some_iff.1 hx).1; omega
    rw [List.getElem?_take_of_lt hi, List.getElem?_drop] at hx
    rw [extract_getD (by omega) (by omega), show o + off + i = o + (off + i) from by omega]
    exact hc.val _ x hx

theorem partA_load {t : TypeId} {ti : TI} {cs : List AV} {off o b : Nat} {v : AV} {c : Array Value} {e : TypeId} {fr : Nat × Nat} (ht : TIok P t ti) (hp : partA ti cs off = some v)
    (hc : CRel σ F cs c o) (hh : w.heap[b]? = some (.cells c e fr)) : ∃ cv, Runs P (loadVar t ⟨b, o + off, none⟩) w cv w ∧ VRel σ F v cv := by
  have hbn := hc.bnd
  unfold partA at hp
  cases ha : ti.ud.isAgg with
  | true =>
    rw [ha] at hp
    simp only [cond_true] at hp
    cases hb : Nat.ble (off + ti.size) cs.length with
    | false => rw [hb] at hp; cases hp
    | true =>
      rw [hb] at hp
      simp only [cond_true, Option.some.injEq] at hp
      subst hp
      have hle := Nat.le_of_ble_eq_true hb
      refine ⟨_, ?_, agg_extract hc hle⟩
      unfold loadVar
      refine Runs.bind ht.isAgg ?_
      rw [ha]
      simp only [if_true]
      refine Runs.bind ht.size_ ?_
      exact Runs.bind (runs_loadCells hh (by omega)) rfl
  | false =>
    rw [ha] at hp
    simp only [cond_false] at hp
    have hlt : off < cs.length := (List.getElem?_eq_some_iff.1 hp).1
    refine ⟨c.getD (o + off) undef, ?_, hc.val _ _ hp⟩
    unfold loadVar
    refine Runs.bind ht.isAgg ?_
    rw [ha]
    simp only [Bool.false_eq_true, if_false]
    exact runs_load hh (by omega)

theorem partA_part {t : TypeId} {ti : TI} {cs : List AV} {off : Nat} {v : AV} {c : Array Value} (ht : TIok P t ti) (hp : partA ti cs off = some v)
    (hc : CRel σ F cs c 0) : ∃ cv, Runs P (part t c off) w cv w ∧ VRel σ F v cv := by
  have hbn := hc.bnd
  unfold partA at hp
  cases ha : ti.ud.isAgg with
  | true =>
    rw [ha] at hp
    simp only [cond_true] at hp
    cases hb : Nat.ble (off + ti.size) cs.length with
    | false => rw [hb] at hp; cases hp
    | true =>
      rw [hb] at hp
      simp only [cond_true, Option.some.injEq] at hp
      subst hp
      have hle := Nat.le_of_ble_eq_true hb
      have := agg_extract hc hle
      rw [Nat.zero_add] at this
      refine ⟨_, ?_, this⟩
      unfold part
      refine Runs.bind ht.isAgg ?_
      rw [ha]
      simp only [if_true]
      exact Runs.bind ht.size_ rfl
  | false =>
    rw [ha] at hp
    simp only [cond_false] at hp
    have hlt : off < cs.length := (List.getElem?_eq_some_iff.1 hp).1
    have h1 := hc.val _ _ hp
    rw [Nat.zero_add] at h1
    refine ⟨c.getD off undef, ?_, h1⟩
    unfold part
    refine Runs.bind ht.isAgg ?_
    rw [ha]
    have hlt2 : off < c.size := by omega
    simp only [Bool.false_eq_true, if_false, Array.getElem?_eq_getElem hlt2]
    simp [Array.getD, hlt2]
    exact Runs.pure

theorem Row.crel {sz : Nat} {es : List (List AV)} {c : Array Value} {i : Nat} {cs : List AV} (h : Row σ F sz es c) (hi : es[i]? = some cs) : CRel σ F cs c (i * sz) := by
  have hl := h.len i cs hi
  have hlt : i < es.length := (List.getElem?_eq_some_iff.1 hi).1
  have hb := h.bnd
  have : (i + 1) * sz ≤ es.length * sz := Nat.mul_le_mul_right _ hlt
  rw [Nat.add_mul, Nat.one_mul] at this
  exact ⟨by omega, fun j x hj => h.cell i cs j x hi hj, fun j x hj => h.val i cs j x hi hj⟩

theorem CRel.drop {cs : List AV} {c : Array Value} {o n : Nat} (h : CRel σ F cs c o) (hn : n ≤ cs.length) : CRel σ F (cs.drop n) c (o + n) := by
  have := h.bnd
  refine ⟨by simp; omega, fun i x hx => ?_, fun i x hx => ?_⟩
  · rw [List.getElem?_drop] at hx; exact h.cell _ x hx
  · rw [List.getElem?_drop] at hx; rw [Nat.add_assoc]; exact h.val _ x hx

theorem CRel.append {cs ds : List AV} {c : Array Value} {o : Nat} (h1 : CRel σ F cs c o) (h2 : CRel σ F ds c (o + cs.length)) : CRel σ F (cs ++ ds) c o := by
  have b1 := h1.bnd
  have b2 := h2.bnd
  refine ⟨by simp; omega, fun i x hx => ?_, fun i x hx => ?_⟩
  · rw [List.getElem?_append] at hx
    split at hx
    · exact h1.cell i x hx
    · exact h2.cell _ x hx
  · rw [List.getElem?_append] at hx
    split at hx
    · exact h1.val i x hx
    · have := h2.val _ x hx
      rename_i hge
      rw [show o + cs.length + (i - cs.length) = o + i by omega] at this
      exact this

theorem Row.flat {sz : Nat} {c : Array Value} : ∀ (es : List (List AV)) (k : Nat), k * sz + es.length * sz ≤ c.size → (∀ i cs, es[i]? = some cs → cs.length = sz ∧ CRel σ F cs c ((k + i) * sz)) → CRel σ F es.flatten c (k * sz) := by
  intro es
  induction es with
  | nil => intro k hb _; exact ⟨by simp at hb; simp; exact hb, fun i x hx => by simp at hx, fun i x hx => by simp at hx⟩
  | cons e es ih =>
    intro k hb h
    obtain ⟨l0, c0⟩ := h 0 e rfl
    rw [List.flatten_cons]
    refine CRel.append (by simpa using c0) ?_
    rw [l0, show k * sz + sz = (k + 1) * sz by rw [Nat.add_mul, Nat.one_mul]]
    refine ih (k + 1) ?_ ?_
    · rw [List.length_cons, Nat.add_mul, Nat.one_mul] at hb
      rw [Nat.add_mul, Nat.one_mul]; omega
    · intro i cs hi
      obtain ⟨q1, q2⟩ := h (i + 1) cs (by simpa using hi)
      refine ⟨q1, ?_⟩
      rw [show k + 1 + i = k + (i + 1) by omega]; exact q2

theorem Row.crelFlat {sz : Nat} {es : List (List AV)} {c : Array Value} {i : Nat} {cs : List AV} (h : Row σ F sz es c) (hi : es[i]? = some cs) : CRel σ F (es.drop i).flatten c (i * sz) := by
  have hlt : i < es.length := (List.getElem?_eq_some_iff.1 hi).1
  have hb := h.bnd
  refine Row.flat _ i ?_ ?_
  · rw [List.length_drop, ← Nat.add_mul, show i + (es.length - i) = es.length by omega]; exact hb
  · intro j cs hj
    rw [List.getElem?_drop] at hj
    exact ⟨h.len _ cs hj, h.crel hj⟩

theorem loadA_ok {t : TypeId} {ti : TI} {a v : AV} {ca : Value} {H : AH} (ht : TIok P t ti) (h : loadA ti a H = some v) (ha : VRel σ F a ca) (hr : HR σ F H.get w) :
    ∃ cv, Runs P (Instr.loadAt t ca) w cv w ∧ VRel σ F v cv := by
  unfold loadA at h
  cases ha with
  | ptr hs =>
    rename_i id sz idx off b cs
    simp only at h
    cases hg : H.get id with
    | none => rw [hg] at h; cases h
    | some o =>
      rw [hg] at h
      cases o with
      | arr sz' es =>
        simp only at h
        cases hb : Nat.beq sz sz' with
        | false => rw [hb] at h; cases h
        | true =>
          rw [hb] at h
          have := Nat.eq_of_beq_eq_true hb
          subst this
          simp only [cond_true] at h
          cases he : es[idx]? with
          | none => rw [he] at h; cases h
          | some cells =>
            rw [he] at h
            simp only [Option.bind_some] at h
            obtain ⟨b', c', hs', c, e, fr, h1, h2, h3, h4⟩ := hr.obj id _ hg
            rw [hs] at hs'; cases hs'
            cases hq : partA ti cells off with
            | some u =>
              rw [hq] at h
              simp only [orV] at h
              rw [← hq] at h
              obtain ⟨cv, h5, h6⟩ := partA_load ht h (h4.crel he) h1
              exact ⟨cv, Runs.bind (f := fun a => loadVar t a) (a := ⟨b, idx * sz + off, none⟩) (w1 := w) rfl h5, h6⟩
            | none =>
              rw [hq] at h
              simp only [orV] at h
              obtain ⟨cv, h5, h6⟩ := partA_load ht h (h4.crelFlat he) h1
              exact ⟨cv, Runs.bind (f := fun a => loadVar t a) (a := ⟨b, idx * sz + off, none⟩) (w1 := w) rfl h5, h6⟩
      | map es => cases h
      | loop _ _ _ _ _ _ _ _ => cases h
      | defd => cases h
  | lp hf hb hc hv =>
    rename_i cs b off cells
    simp only at h
    obtain ⟨e, fr, h1⟩ := hr.frz _ _ hf
    obtain ⟨cv, h5, h6⟩ := partA_load (o := off) ht h ⟨hb, hc, hv⟩ h1
    exact ⟨cv, Runs.bind (f := fun a => loadVar t a) (a := ⟨b, off, none⟩) (w1 := w) rfl (by simpa using h5), h6⟩
  | _ => cases h

theorem over_length (vs : List AV) : ∀ (cs : List AV) (n : Nat), (over cs n vs).length = cs.length := by
  intro cs
  induction cs generalizing vs with
  | nil => intro n; cases vs <;> cases n <;> rfl
  | cons c cs ih =>
    intro n
    cases vs with
    | nil => cases n <;> rfl
    | cons v vs =>
      cases n with
      | zero => simp [over, ih]
      | succ n => simp [over, ih]

theorem over_get (cs : List AV) : ∀ (vs : List AV) (n i : Nat), i < cs.length → (over cs n vs)[i]? = if n ≤ i ∧ i < n + vs.length then vs[i - n]? else cs[i]? := by
  induction cs with
  | nil => intro vs n i h; simp at h
  | cons c cs ih =>
    intro vs n i h
    cases vs with
    | nil =>
      have : over (c :: cs) n [] = c :: cs := by cases n <;> rfl
      rw [this, if_neg (by simp)]
    | cons v vs =>
      cases n with
      | zero =>
        cases i with
        | zero => simp [over]
        | succ i =>
          simp only [over, List.getElem?_cons_succ]
          rw [ih vs 0 i (by simpa using h)]
          simp only [List.length_cons, Nat.zero_le, true_and, Nat.zero_add, Nat.sub_zero, Nat.add_lt_add_iff_right, List.getElem?_cons_succ]
      | succ n =>
        cases i with
        | zero => simp [over]
        | succ i =>
          simp only [over, List.getElem?_cons_succ]
          rw [ih (v :: vs) n i (by simpa using h)]
          have e1 : (n + 1 ≤ i + 1 ∧ i + 1 < n + 1 + (v :: vs).length) ↔ (n ≤ i ∧ i < n + (v :: vs).length) := by omega
          simp only [e1, show i + 1 - (n + 1) = i - n from by omega]

/-- Cells are overwritten, in memory and in the picture of it. -/
theorem Row.over {sz : Nat} {es : List (List AV)} {c : Array Value} {idx off : Nat} {cs vs : List AV} {cv : Array Value} (h : Row σ F sz es c) (hi : es[idx]? = some cs)
    (hv : CRel σ F vs cv 0) (hl : cv.size = vs.length) (hb : off + vs.length ≤ cs.length) : Row σ F sz (es.set idx (VM.over cs off vs)) (overC c (idx * sz + off) cv.toList) := by
  have hlt : idx < es.length := (List.getElem?_eq_some_iff.1 hi).1
  have hcs := h.len idx cs hi
  have hrow := h.crel hi
  have hget : ∀ (i : Nat) (e : List AV), (es.set idx (VM.over cs off vs))[i]? = some e → (i = idx ∧ e = VM.over cs off vs) ∨ (i ≠ idx ∧ es[i]? = some e) := by
    intro i e he
    by_cases hii : i = idx
    · subst hii; rw [List.getElem?_set_self hlt] at he; cases he; exact .inl ⟨rfl, rfl⟩
    · rw [List.getElem?_set_ne (fun e => hii e.symm)] at he; exact .inr ⟨hii, he⟩
  have hlen : ∀ {i : Nat} {e : List AV}, es[i]? = some e → i * sz + sz ≤ c.size := by
    intro i e he
    have := (h.crel he).bnd
    rwa [h.len i e he] at this
  refine ⟨by simp [h.bnd], ?_, ?_, ?_⟩
  · intro i e he
    rcases hget i e he with ⟨_, rfl⟩ | ⟨_, h1⟩
    · rw [over_length]; exact hcs
    · exact h.len i e h1
  · intro i e j v he hj
    rcases hget i e he with ⟨_, rfl⟩ | ⟨_, h1⟩
    · have hjl : j < cs.length := by have := (List.getElem?_eq_some_iff.1 hj).1; rwa [over_length] at this
      rw [over_get cs vs off j hjl] at hj
      split at hj
      · exact hv.cell _ _ hj
      · exact h.cell idx cs j v hi hj
    · exact h.cell i e j v h1 hj
  · intro i e j v he hj
    rcases hget i e he with ⟨rfl, rfl⟩ | ⟨hne, h1⟩
    · have hjl : j < cs.length := by have := (List.getElem?_eq_some_iff.1 hj).1; rwa [over_length] at this
      rw [over_get cs vs off j hjl] at hj
      have hb2 := hlen hi
      rw [overC_get _ _ _ _ (by omega)]
      have hll : cv.toList.length = vs.length := by simp [hl]
      split at hj
      · rename_i hin
        rw [if_pos (by omega)]
        have := hv.val _ _ hj
        rw [show i * sz + j - (i * sz + off) = j - off from by omega]
        simpa [Array.getD_eq_getD_getElem?, List.getD_eq_getElem?_getD] using this
      · rename_i hin
        rw [if_neg (by omega)]
        exact h.val i cs j v hi hj
    · have hb2 := hlen h1
      have hjl : j < sz := by have := (List.getElem?_eq_some_iff.1 hj).1; rwa [h.len i e h1] at this
      have hll : cv.toList.length = vs.length := by simp [hl]
      rw [overC_get _ _ _ _ (by omega), if_neg]
      · exact h.val i e j v h1 hj
      · rintro ⟨h2, h3⟩
        rcases Nat.lt_or_gt_of_ne hne with hlt2 | hgt
        · have : (i + 1) * sz ≤ idx * sz := Nat.mul_le_mul_right _ hlt2
          rw [Nat.add_mul, Nat.one_mul] at this
          omega
        · have : (idx + 1) * sz ≤ i * sz := Nat.mul_le_mul_right _ hgt
          rw [Nat.add_mul, Nat.one_mul] at this
          omega

theorem CRel.plain {cs : List AV} {c : Array Value} (h : CRel σ F cs c 0) (hs : c.size = cs.length) : ∀ v ∈ c.toList, plainV v = true := by
  intro v hv
  obtain ⟨i, hi, rfl⟩ := List.getElem_of_mem hv
  have hi' : i < c.size := by simpa using hi
  have hx : cs[i]? = some cs[i] := List.getElem?_eq_getElem (by omega)
  have h1 := (h.val i _ hx).plain (h.cell i _ hx)
  simpa [Array.getD, hi'] using h1

def UOk (P : Program) (σ : Sg) (F : Fz) (H : AH) (w : World) (s : Sem Unit) (H' : AH) : Prop :=
  ∃ σ' F' w', Runs P s w () w' ∧ Post σ F H.get w H.next H'.next σ' F' H'.get w' ∧ LogOk H H'

def VOk (P : Program) (σ : Sg) (F : Fz) (H : AH) (w : World) (s : Sem Value) (v : AV) (H' : AH) : Prop :=
  ∃ cv σ' F' w', Runs P s w cv w' ∧ VRel σ' F' v cv ∧ Post σ F H.get w H.next H'.next σ' F' H'.get w' ∧ LogOk H H'

theorem VOk.pure {H : AH} {s : Sem Value} {v : AV} (hr : HR σ F H.get w) (h : ∃ cv, Runs P s w cv w ∧ VRel σ F v cv) : VOk P σ F H w s v H := by
  obtain ⟨cv, h1, h2⟩ := h
  exact ⟨cv, σ, F, w, h1, h2, Post.refl hr _, LogOk.refl _⟩

theorem storeA_ok {t : TypeId} {ti : TI} {a v : AV} {ca cv : Value} {H H' : AH} (ht : TIok P t ti) (h : storeA ti a v H = some H') (ha : VRel σ F a ca) (hv : VRel σ F v cv)
    (hr : HR σ F H.get w) : UOk P σ F H w (Instr.storeAt t ca cv) H' := by
  unfold storeA at h
  cases ha with
  | ptr hs =>
    rename_i id sz idx off b cs
    simp only at h
    cases hg : H.get id with
    | none => rw [hg] at h; cases h
    | some o =>
      rw [hg] at h
      cases o with
      | arr sz' es =>
        simp only at h
        cases hb : Nat.beq sz sz' with
        | false => rw [hb] at h; cases h
        | true =>
          rw [hb] at h
          have := Nat.eq_of_beq_eq_true hb
          subst this
          simp only [cond_true] at h
          cases he : es[idx]? with
          | none => rw [he] at h; cases h
          | some cells =>
            rw [he] at h
            simp only [Option.bind_some] at h
            cases hvc : v.cells with
            | none => rw [hvc] at h; cases h
            | some vs =>
              rw [hvc] at h
              simp only [Option.bind_some] at h
              cases hcond : (Nat.beq vs.length ti.size && Nat.ble (off + vs.length) cells.length) with
              | false => rw [hcond] at h; cases h
              | true =>
                rw [hcond] at h
                simp only [cond_true, Option.some.injEq] at h
                subst h
                simp only [Bool.and_eq_true] at hcond
                have h1 := Nat.eq_of_beq_eq_true hcond.1
                have h2 := Nat.le_of_ble_eq_true hcond.2
                obtain ⟨hsz, hcr⟩ := hv.cells hvc
                obtain ⟨b', c', hs', c, e, fr, g1, g2, g3, g4⟩ := hr.obj id _ hg
                rw [hs] at hs'; cases hs'
                have hrow := g4.crel he
                have hbn := hrow.bnd
                refine ⟨σ, F, setBlock w b (.cells (overC c (idx * sz + off) cv.cells.toList) e fr), ?_, ?_, LogOk.put⟩
                · refine Runs.bind (f := fun a => storeVar t a cv) (a := ⟨b, idx * sz + off, none⟩) (w1 := w) rfl ?_
                  unfold storeVar
                  refine Runs.bind ht.size_ ?_
                  rw [if_neg (by rw [hsz, h1]; simp)]
                  have := runs_storeCells (P := P) (o := idx * sz + off) cv.cells.toList c w 0 g1 (by simp; omega) g3 (hcr.plain hsz)
                  simpa using this
                · have hid := hr.bnd id _ hs
                  rw [AH.get_put hid]
                  refine Post.set hr hg hs ⟨_, e, fr, rfl, by simpa using g2, by simpa using g3, g4.over he hcr hsz h2⟩
      | map es => cases h
      | loop _ _ _ _ _ _ _ _ => cases h
      | defd => cases h
  | _ => cases h

end
end Go.VM

/- Addresses, indexes, equality, arithmetic. -/
namespace Go.VM
open Go

section
variable {P : Program} {σ : Sg} {F : Fz} {w : World}

abbrev POk (P : Program) (σ : Sg) (F : Fz) (w : World) (s : Sem Value) (v : AV) : Prop := ∃ cv, Runs P s w cv w ∧ VRel σ F v cv

theorem natOf_eq {i : AV} {n : Nat} (h : natOf i = some n) : ∃ k, i = .int k (n : Int) := by
  unfold natOf at h
  split at h
  · simp only [Option.some.injEq] at h; subst h; exact ⟨_, rfl⟩
  · cases h

theorem VRel.int_inv {k : IntKind} {n : Int} {c : Value} (h : VRel σ F (.int k n) c) : c = .int k n := by cases h; rfl
theorem VRel.str_inv {s : ByteArray} {c : Value} (h : VRel σ F (.str s) c) : c = .string s := by cases h; rfl
theorem VRel.bool_inv {b : Bool} {c : Value} (h : VRel σ F (.bool b) c) : c = .bool b := by cases h; rfl

theorem TIok.und_of {t : TypeId} {ti : TI} (h : TIok P t ti) : ∃ d, P.underlying t = some d ∧ UDok P ti.ud d := h.und

theorem TIok.und_slice {t e : TypeId} {ti : TI} (h : TIok P t ti) (hu : ti.ud = .slice e) : P.underlying t = some (.slice e) := by
  obtain ⟨d, h1, h2⟩ := h.und
  rw [hu] at h2
  cases d <;> simp [UDok] at h2
  subst h2; exact h1

theorem TIok.und_str {t : TypeId} {ti : TI} (h : TIok P t ti) (hu : ti.ud = .str) : P.underlying t = some .string := by
  obtain ⟨d, h1, h2⟩ := h.und
  rw [hu] at h2
  cases d <;> simp [UDok] at h2
  exact h1

theorem TIok.und_int {t : TypeId} {ti : TI} {k : IntKind} (h : TIok P t ti) (hu : ti.ud = .int k) : P.underlying t = some (.int k) := by
  obtain ⟨d, h1, h2⟩ := h.und
  rw [hu] at h2
  cases d <;> simp [UDok] at h2
  subst h2; exact h1

theorem TIok.und_arr {t e : TypeId} {n : Nat} {ti : TI} (h : TIok P t ti) (hu : ti.ud = .arr n e) : P.underlying t = some (.array n e) := by
  obtain ⟨d, h1, h2⟩ := h.und
  rw [hu] at h2
  cases d <;> simp [UDok] at h2
  obtain ⟨rfl, rfl⟩ := h2; exact h1

theorem TIok.und_map {t k e : TypeId} {ti : TI} (h : TIok P t ti) (hu : ti.ud = .map k e) : P.underlying t = some (.map k e) := by
  obtain ⟨d, h1, h2⟩ := h.und
  rw [hu] at h2
  cases d <;> simp [UDok] at h2
  obtain ⟨rfl, rfl⟩ := h2; exact h1

theorem TIok.und_ptr {t e : TypeId} {ti : TI} (h : TIok P t ti) (hu : ti.ud = .ptr e) : P.underlying t = some (.pointer e) := by
  obtain ⟨d, h1, h2⟩ := h.und
  rw [hu] at h2
  cases d <;> simp [UDok] at h2
  subst h2; exact h1

theorem TIok.und_struct {t : TypeId} {ti : TI} {fs : List (Nat × Nat × TypeId)} (h : TIok P t ti) (hu : ti.ud = .struct fs) :
    ∃ fields, P.underlying t = some (.struct fields) ∧ fields.size = fs.length ∧
      ∀ (i : Nat) q, fs[i]? = some q → ∃ f fi, fields[i]? = some f ∧ f.offset = q.1 ∧ f.type = q.2.2 ∧ P.info? f.type = some fi ∧ fi.size = q.2.1 := by
  obtain ⟨d, h1, h2⟩ := h.und
  rw [hu] at h2
  cases d <;> simp only [UDok] at h2
  exact ⟨_, h1, h2⟩

theorem fieldAddrA_ok {t : TypeId} {ti : TI} {x v : AV} {cx : Value} {f : Nat} (ht : TIok P t ti) (h : fieldAddrA ti x f = some v) (hx : VRel σ F x cx) :
    POk P σ F w (Instr.fieldAt t cx f) v := by
  unfold fieldAddrA at h
  split at h
  · rename_i fs hu
    obtain ⟨fields, hd, hsz, hf⟩ := ht.und_struct hu
    cases hq : fs[f]? with
    | none => rw [hq] at h; cases h
    | some q =>
      rw [hq] at h
      simp only [Option.bind_some] at h
      cases hz : Nat.beq q.2.1 0 with
      | true => rw [hz] at h; cases h
      | false =>
        rw [hz] at h
        simp only [cond_false] at h
        have hz' : q.2.1 ≠ 0 := fun e => by rw [e] at hz; cases hz
        obtain ⟨fd, fi, h1, h2, h3, h4, h5⟩ := hf f q hq
        have run : ∀ (b o : Nat), Runs P (Instr.fieldAt t (.pointer (some ⟨b, o, none⟩)) f) w (.pointer (some ⟨b, o + q.1, none⟩)) w := by
          intro b o
          unfold Instr.fieldAt
          refine Runs.bind (runs_underlying hd) ?_
          simp only [h1]
          refine Runs.bind (a := ⟨b, o, none⟩) (w1 := w) Runs.pure ?_
          refine Runs.bind (a := ⟨b, o + q.1, none⟩) (w1 := w) ?_ Runs.pure
          unfold fieldPlace
          refine Runs.bind (runs_sizeOf h4) ?_
          rw [if_neg (by rw [h5]; exact hz')]
          exact Runs.pure.of (by rw [add_spot, h2])
        cases hx with
        | ptr hs =>
          simp only [Option.some.injEq] at h; subst h
          exact ⟨_, run _ _, by rw [Nat.add_assoc]; exact .ptr hs⟩
        | lp hF hb hc hv =>
          rename_i cs b off cells
          simp only at h
          cases hle : Nat.ble q.1 cs.length with
          | false => rw [hle] at h; cases h
          | true =>
            rw [hle] at h
            simp only [cond_true, Option.some.injEq] at h; subst h
            have := CRel.drop (σ := σ) (F := F) ⟨hb, hc, hv⟩ (Nat.le_of_ble_eq_true hle)
            exact ⟨_, run _ _, .lp hF this.bnd this.cell this.val⟩
        | _ => cases h
  · cases h

theorem blt_iff {a b : Nat} : Nat.blt a b = true ↔ a < b := by
  unfold Nat.blt
  constructor
  · intro h; exact Nat.le_of_ble_eq_true h
  · intro h; exact Nat.ble_eq_true_of_le h

theorem indexAddrA_ok {tt : TT} (htt : TTok P tt) {t : TypeId} {ti : TI} {x i v : AV} {cx ci : Value} (ht : TIok P t ti) (h : indexAddrA tt ti x i = some v) (hx : VRel σ F x cx)
    (hi : VRel σ F i ci) : POk P σ F w (Instr.indexAt t cx ci) v := by
  unfold indexAddrA at h
  cases hn : natOf i with
  | none => rw [hn] at h; cases h
  | some n =>
    rw [hn] at h
    simp only [Option.bind_some] at h
    obtain ⟨k, rfl⟩ := natOf_eq hn
    have := hi.int_inv
    subst this
    have runA : ∀ {m e : Nat} {te : TI} {b o : Nat}, P.underlying t = some (.array m e) → TIok P e te → n < m →
        Runs P (Instr.indexAt t (.pointer (some ⟨b, o, none⟩)) (.int k (n : Int))) w (.pointer (some ⟨b, o + n * te.size, none⟩)) w := by
      intro m e te b o hu hte hlt
      unfold Instr.indexAt
      refine Runs.bind (a := (k, (n : Int))) (w1 := w) Runs.pure ?_
      refine Runs.bind (runs_underlying hu) ?_
      refine Runs.bind (a := (⟨b, o, none⟩ : Addr)) (w1 := w) Runs.pure ?_
      refine Runs.bind (a := ((some ⟨b, o, none⟩, m, e) : Option Addr × Nat × TypeId)) (w1 := w) Runs.pure ?_
      refine Runs.bind (a := TypeDesc.array m e) (w1 := w) (runs_underlying hu) ?_
      simp only []
      rw [if_pos (show (0 : Int) ≤ (n : Int) ∧ (n : Int) < (m : Int) from ⟨by omega, by omega⟩)]
      refine Runs.bind (hte.size_) ?_
      exact Runs.pure.of (by simp [add_spot])
    have runS : ∀ {m e : Nat} {te : TI} {b o c : Nat}, P.underlying t = some (.slice e) → TIok P e te → n < m →
        Runs P (Instr.indexAt t (.slice (some ⟨b, o, none⟩) m c) (.int k (n : Int))) w (.pointer (some ⟨b, o + n * te.size, none⟩)) w := by
      intro m e te b o c hu hte hlt
      unfold Instr.indexAt
      refine Runs.bind (a := (k, (n : Int))) (w1 := w) Runs.pure ?_
      refine Runs.bind (runs_underlying hu) ?_
      refine Runs.bind (a := ((some ⟨b, o, none⟩, m, e) : Option Addr × Nat × TypeId)) (w1 := w) Runs.pure ?_
      simp only []
      refine Runs.bind (a := TypeDesc.slice e) (w1 := w) (runs_underlying hu) ?_
      simp only []
      rw [if_pos (show (0 : Int) ≤ (n : Int) ∧ (n : Int) < (m : Int) from ⟨by omega, by omega⟩)]
      refine Runs.bind (hte.size_) ?_
      exact Runs.pure.of (by simp [add_spot])
    split at h
    · rename_i m e id sz idx off hu
      cases hte : tt.get e with
      | none => rw [hte] at h; cases h
      | some te =>
        rw [hte] at h
        simp only [Option.bind_some] at h
        cases hb : Nat.blt n m with
        | false => rw [hb] at h; cases h
        | true =>
          rw [hb] at h
          simp only [cond_true, Option.some.injEq] at h; subst h
          cases hx with
          | ptr hs => exact ⟨_, runA (ht.und_arr hu) (htt _ _ hte) (blt_iff.1 hb), by rw [Nat.add_assoc]; exact .ptr hs⟩
    · rename_i m e cs hu
      cases hte : tt.get e with
      | none => rw [hte] at h; cases h
      | some te =>
        rw [hte] at h
        simp only [Option.bind_some] at h
        cases hb : (Nat.blt n m && Nat.ble (n * te.size) cs.length) with
        | false => rw [hb] at h; cases h
        | true =>
          rw [hb] at h
          simp only [cond_true, Option.some.injEq] at h; subst h
          simp only [Bool.and_eq_true] at hb
          cases hx with
          | lp hF hbn hc hv =>
            have := CRel.drop (σ := σ) (F := F) ⟨hbn, hc, hv⟩ (Nat.le_of_ble_eq_true hb.2)
            exact ⟨_, runA (ht.und_arr hu) (htt _ _ hte) (blt_iff.1 hb.1), .lp hF this.bnd this.cell this.val⟩
    · rename_i e id sz st len cap ex hu
      cases hte : tt.get e with
      | none => rw [hte] at h; cases h
      | some te =>
        rw [hte] at h
        simp only [Option.bind_some] at h
        cases hz : Nat.beq te.size sz with
        | false => rw [hz] at h; cases h
        | true =>
          rw [hz] at h
          simp only [cond_true] at h
          cases hb : Nat.blt n len with
          | false => rw [hb] at h; cases h
          | true =>
            rw [hb] at h
            simp only [cond_true, Option.some.injEq] at h; subst h
            have hz' := Nat.eq_of_beq_eq_true hz
            cases hx with
            | slice hs h1 h2 h3 h4 =>
              refine ⟨_, runS (ht.und_slice hu) (htt _ _ hte) (blt_iff.1 hb), ?_⟩
              have := VRel.ptr (σ := σ) (F := F) (sz := sz) (idx := st + n) (off := 0) hs
              rw [hz', ← Nat.add_mul]; simpa using this
    · rename_i e sz es hu
      cases hte : tt.get e with
      | none => rw [hte] at h; cases h
      | some te =>
        rw [hte] at h
        simp only [Option.bind_some] at h
        cases hz : Nat.beq te.size sz with
        | false => rw [hz] at h; cases h
        | true =>
          rw [hz] at h
          simp only [cond_true] at h
          cases he : es[n]? with
          | none => rw [he] at h; cases h
          | some cs =>
            rw [he] at h
            simp only [Option.bind_some, Option.some.injEq] at h; subst h
            have hz' := Nat.eq_of_beq_eq_true hz
            cases hx with
            | listnil => simp at he
            | list hF hbn hl hc hv =>
              have hlt : n < es.length := (List.getElem?_eq_some_iff.1 he).1
              refine ⟨_, runS (ht.und_slice hu) (htt _ _ hte) hlt, ?_⟩
              have hlen := hl n cs he
              have hmul : (n + 1) * sz ≤ es.length * sz := Nat.mul_le_mul_right _ hlt
              rw [Nat.add_mul, Nat.one_mul] at hmul
              rw [hz']
              exact .lp hF (by omega) (fun j c hj => hc n cs j c he hj) (fun j c hj => by rw [Nat.add_assoc]; exact hv n cs j c he hj)
    · cases h

theorem indexA_ok {tt : TT} (htt : TTok P tt) {t : TypeId} {ti : TI} {x i v : AV} {cx ci : Value} (ht : TIok P t ti) (h : indexA tt ti x i = some v) (hx : VRel σ F x cx)
    (hi : VRel σ F i ci) : POk P σ F w (Instr.index t cx ci) v := by
  unfold indexA at h
  cases hn : natOf i with
  | none => rw [hn] at h; cases h
  | some n =>
    rw [hn] at h
    simp only [Option.bind_some] at h
    obtain ⟨k, rfl⟩ := natOf_eq hn
    have := hi.int_inv
    subst this
    split at h
    · rename_i m e cs hu
      cases hte : tt.get e with
      | none => rw [hte] at h; cases h
      | some te =>
        rw [hte] at h
        simp only [Option.bind_some] at h
        cases hb : Nat.blt n m with
        | false => rw [hb] at h; cases h
        | true =>
          rw [hb] at h
          simp only [cond_true] at h
          have hlt := blt_iff.1 hb
          cases hx with
          | agg hs hc hv =>
            rename_i cs'
            obtain ⟨cv, h1, h2⟩ := partA_part (w := w) (c := cs') (htt _ _ hte) h ⟨by simp [hs], hc, fun i x hx => by simpa using hv i x hx⟩
            refine ⟨cv, ?_, h2⟩
            unfold Instr.index
            refine Runs.bind (a := (k, (n : Int))) (w1 := w) Runs.pure ?_
            refine Runs.bind (runs_underlying (ht.und_arr hu)) ?_
            simp only []
            rw [if_pos (show (0 : Int) ≤ (n : Int) ∧ (n : Int) < (m : Int) from ⟨by omega, by omega⟩)]
            refine Runs.bind ((htt _ _ hte).size_) ?_
            simpa using h1
    · rename_i s hu
      have := hx.str_inv
      subst this
      cases hs : s[n]? with
      | none => rw [hs] at h; cases h
      | some b =>
        rw [hs] at h
        simp only [Option.bind_some, Option.some.injEq] at h; subst h
        refine ⟨_, ?_, .int _ _⟩
        unfold Instr.index
        refine Runs.bind (a := (k, (n : Int))) (w1 := w) Runs.pure ?_
        refine Runs.bind (runs_underlying (ht.und_str hu)) ?_
        simp only []
        rw [if_pos (by omega)]
        simp only [Int.toNat_natCast, hs]
        exact Runs.pure
    · cases h

end
end Go.VM

