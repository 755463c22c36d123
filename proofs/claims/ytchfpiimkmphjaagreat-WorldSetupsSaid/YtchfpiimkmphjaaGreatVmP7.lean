/- An abstract machine for the program form, with the proof that it is sound: part VmP7. No condition. -/
import Derived.Test.YtchfpiimkmphjaaGreatVmP6
import Derived.Below
import Derived.Laws.AppendOwn
/- Whole functions by their contracts. -/
namespace Go.VM
open Go

section
variable {P : Program} {σ : Sg} {F : Fz} {w w' : World}

/-- Nothing that was there has turned. -/
structure Old (w w' : World) : Prop where
  os : w'.os = w.os
  tape : w'.tape = w.tape
  output : w'.output = w.output
  size : w.heap.size ≤ w'.heap.size
  block : ∀ k, k < w.heap.size → w'.heap[k]? = w.heap[k]?

theorem Old.hr {g : Nat → Option AO} (hb : Old w w') (h : HR σ F g w) : HR σ F g w' := by
  refine ⟨?_, h.inj, h.sep, ?_, h.bnd⟩
  · intro i o hi
    obtain ⟨b, c, h1, h2⟩ := h.obj i o hi
    exact ⟨b, c, h1, by rw [hb.block b (h.lt hi h1)]; exact h2⟩
  · intro b c hf
    obtain ⟨e, fr, h1⟩ := h.frz b c hf
    have hlt : b < w.heap.size := (Array.getElem?_eq_some_iff.1 h1).1
    exact ⟨e, fr, by rw [hb.block b hlt]; exact h1⟩

theorem Post.grow {g : Nat → Option AO} (hb : Old w w') (h : HR σ F g w) (n : Nat) : Post σ F g w n n σ F g w' :=
  ⟨.refl _, .refl _, hb.hr h, hb.size, fun b hlt _ => hb.block b hlt, fun _ _ h => .inl h, fun i b c o h1 h2 _ => ⟨i, c, o, h1, h2⟩, fun _ _ h => .inl h, hb.os, hb.output, hb.tape, Nat.le_refl _⟩

theorem Post.newAt {g : Nat → Option AO} {n cs b0 : Nat} {o : AO} {x : Obj} (hw : Old w w') (h : HR σ F g w) (hn : σ n = none) (hb : n < 1099511627775) (hlo : w.heap.size ≤ b0) (hx : w'.heap[b0]? = some x)
    (ho : ORel (updσ σ n (b0, cs)) F o cs (some x)) : Post σ F g w n (n + 1) (updσ σ n (b0, cs)) F (upd g n (some o)) w' := by
  have hs := sub_updσ (x := (b0, cs)) hn
  have hr' := hw.hr h
  have hF : F b0 = none := by
    cases hf : F b0 with
    | none => rfl
    | some c =>
      obtain ⟨e, fr, h1⟩ := h.frz _ _ hf
      rw [Array.getElem?_eq_none hlo] at h1; cases h1
  have hat : ∀ {i : Nat}, i ≠ n → updσ σ n (b0, cs) i = σ i := fun hne => by simp [updσ, hne]
  have hat' : updσ σ n (b0, cs) n = some (b0, cs) := by simp [updσ]
  refine ⟨hs, .refl _, ⟨?_, ?_, ?_, hr'.frz, ?_⟩, hw.size, fun b hb _ => hw.block b hb, ?_, ?_, fun _ _ h => .inl h, hw.os, hw.output, hw.tape, by omega⟩
  · intro i o' hi
    unfold upd at hi
    by_cases hin : i = n
    · subst hin
      simp only [if_true, Option.some.injEq] at hi; subst hi
      exact ⟨_, _, hat', by rw [hx]; exact ho⟩
    · rw [if_neg hin] at hi
      obtain ⟨b, c, h1, h2⟩ := hr'.obj i o' hi
      exact ⟨b, c, hs _ _ h1, h2.mono hs (.refl _)⟩
  · intro i j b c c' o1 o2 hi hj hsi hsj
    unfold upd at hi hj
    by_cases hin : i = n
    · by_cases hjn : j = n
      · rw [hin, hjn]
      · rw [if_neg hjn] at hj
        subst hin
        rw [hat'] at hsi; cases hsi
        rw [hat hjn] at hsj
        exact absurd (h.lt hj hsj) (by omega)
    · rw [if_neg hin] at hi
      rw [hat hin] at hsi
      by_cases hjn : j = n
      · subst hjn
        rw [hat'] at hsj; cases hsj
        exact absurd (h.lt hi hsi) (by omega)
      · rw [if_neg hjn] at hj
        rw [hat hjn] at hsj
        exact h.inj i j b c c' o1 o2 hi hj hsi hsj
  · intro i b c o1 hi hsi
    unfold upd at hi
    by_cases hin : i = n
    · subst hin; rw [hat'] at hsi; cases hsi; exact hF
    · rw [if_neg hin] at hi; rw [hat hin] at hsi; exact h.sep i b c o1 hi hsi
  · intro i y hy
    by_cases hin : i = n
    · rw [hin]; exact hb
    · rw [hat hin] at hy; exact h.bnd i y hy
  · intro i y hy
    by_cases hin : i = n
    · exact .inr (by omega)
    · rw [hat hin] at hy; exact .inl hy
  · intro i b c o1 hi hsi hlt
    unfold upd at hi
    by_cases hin : i = n
    · subst hin; rw [hat'] at hsi; cases hsi; omega
    · rw [if_neg hin] at hi; rw [hat hin] at hsi; exact ⟨i, c, o1, hi, hsi⟩

/-- What slices.Sorted hands back over the iterator 'g' of maps.Keys, at a box 'B' that holds a map. -/
def IterOk (P : Program) (f g : FuncId) : Prop :=
  (∀ (B b clk : Nat) (en : Array MapEntry) (ns : List Int) (W : World), W.cell? ⟨B, 0, none⟩ = some (.map (some b)) → W.heap[b]? = some (.map en clk) → Stm en clk → en.toList.map (·.key) = ns.map (fun n => .int .i64 n) →
    ns.length ≤ 1000000 → ns.Nodup → (∀ n ∈ ns, -9223372036854775808 ≤ n ∧ n ≤ 9223372036854775807) →
    CallsIn Fence.wide 0 P f #[.func (.func g) #[] #[.pointer (some ⟨B, 0, none⟩)]] W fun e w' => ∃ v t, e = .returned v ∧ w'.ownsRow W.heap.size t 1 v ns.length ((sortI ns).map fun n => .int .i64 n) ∧ (v = .slice none 0 0 ↔ ns = []) ∧ Old W w') ∧
  (∀ (B : Nat) (W : World), W.cell? ⟨B, 0, none⟩ = some (.map none) →
    CallsIn Fence.wide 0 P f #[.func (.func g) #[] #[.pointer (some ⟨B, 0, none⟩)]] W fun e w' => e = .returned (.slice none 0 0) ∧ Old W w')

def SumOk (P : Program) (f : FuncId) (g : SumF) : Prop := ∀ args H cs v H', g args H = some (cs, v, H') → allB cs = true → LogOk H H' ∧ ∀ σ F w cargs, ARel σ F args cargs → HR σ F H.get w →
  (∀ i, H.next ≤ i → i < H'.next → σ i = none) → CallsIn Fence.wide 0 P f cargs w (Done σ F H w v H')

def HasText (P : Program) (f : FuncId) : Prop := ∃ fn c, P.funcs[f]? = some fn ∧ (fn.name == "runtime.NumGoroutine") = false ∧ fn.body = some c

def OTok (P : Program) (ot : OT) : Prop := ∀ f g, ot.get f = some g → HasText P f ∧ SumOk P f g

theorem intKeys_len : ∀ {es : List (AV × AV)} {ns : List Int}, intKeys es = some ns → es.map (·.1) = ns.map (fun n => AV.int .i64 n) := by
  intro es
  induction es with
  | nil => intro ns h; simp only [intKeys, Option.some.injEq] at h; subst h; rfl
  | cons p es ih =>
    intro ns h
    unfold intKeys at h
    split at h
    · rename_i e; cases e
    · rename_i n v es' e
      cases e
      obtain ⟨ms, h1, h2⟩ := bindSome h
      simp only [Option.some.injEq] at h2; subst h2
      simp [ih h1]
    · cases h

theorem memI_iff {x : Int} : ∀ {l : List Int}, memI x l = true ↔ x ∈ l := by
  intro l
  induction l with
  | nil => simp [memI]
  | cons y ys ih =>
    unfold memI
    by_cases h : x = y
    · simp [h]
    · simp [h, ih]

theorem keysI_ok : ∀ {l : List Int}, keysI l = true → l.Nodup ∧ ∀ n ∈ l, -9223372036854775808 ≤ n ∧ n ≤ 9223372036854775807 := by
  intro l
  induction l with
  | nil => intro _; simp
  | cons x xs ih =>
    intro h
    unfold keysI at h
    cases hc : (!memI x xs && decide (-9223372036854775808 ≤ x) && decide (x ≤ 9223372036854775807)) with
    | false => rw [hc] at h; cases h
    | true =>
      rw [hc, cond_true] at h
      rw [Bool.and_eq_true, Bool.and_eq_true, decide_eq_true_eq, decide_eq_true_eq] at hc
      obtain ⟨⟨h1, h2⟩, h3⟩ := hc
      obtain ⟨k1, k2⟩ := ih h
      refine ⟨List.nodup_cons.2 ⟨fun hm => (by rw [memI_iff.2 hm] at h1; cases h1), k1⟩, ?_⟩
      intro n hn
      rcases List.mem_cons.1 hn with rfl | hn
      · exact ⟨h2, h3⟩
      · exact k2 n hn

theorem insI_len (x : Int) : ∀ l : List Int, (insI x l).length = l.length + 1 := by
  intro l
  induction l with
  | nil => rfl
  | cons y ys ih =>
    unfold insI
    by_cases h : x ≤ y
    · simp [h]
    · simp [h, ih]

theorem sortI_len : ∀ l : List Int, (sortI l).length = l.length := by
  intro l
  induction l with
  | nil => rfl
  | cons x xs ih => simp [sortI, insI_len, ih]

theorem rowI_eq : ∀ l : List Int, rowI l = l.map fun n => [AV.int .i64 n] := by
  intro l
  induction l with
  | nil => rfl
  | cons x xs ih => simp [rowI, ih]

theorem orA_log {q : List FuncId} {args : List AV} {H H' : AH} {v : AV} (h : orA q args H = some (v, H')) : LogOk H H' := by
  unfold orA at h
  split at h
  · obtain ⟨_, h⟩ := condSome h
    split at h
    · split at h
      · obtain ⟨ns, _, h2⟩ := bindSome h
        obtain ⟨_, h3⟩ := condSome h2
        cases hb : Nat.beq ns.length 0 with
        | true =>
          rw [hb, cond_true] at h3
          simp only [Option.some.injEq, Prod.mk.injEq] at h3
          rw [← h3.2]; exact .refl _
        | false =>
          rw [hb, cond_false] at h3
          obtain ⟨r, h4, h5⟩ := bindSome h3
          simp only [Option.some.injEq, Prod.mk.injEq] at h5
          exact new_log h4 h5.2
      · cases h
    · simp only [Option.some.injEq, Prod.mk.injEq] at h
      rw [← h.2]; exact .refl _
    · cases h
  · cases h

theorem box_cell {H : AH} {id b cs : Nat} {v : AV} (hr : HR σ F H.get w) (hg : H.get id = some (.arr 1 [[v]])) (hs : σ id = some (b, cs)) : ∃ c, w.cell? ⟨b, 0, none⟩ = some c ∧ VRel σ F v c := by
  obtain ⟨b2, c2, hs2, ho⟩ := hr.obj _ _ hg
  rw [hs] at hs2; cases hs2
  obtain ⟨c, e, fr, h1, h2, h3, h4⟩ := ho
  have hb : 1 ≤ c.size := by have := h4.bnd; simpa using this
  have hv := h4.val 0 [v] 0 v rfl rfl
  refine ⟨c.getD 0 undef, ?_, by simpa using hv⟩
  rw [cell_of h1]
  simp [Array.getD, show 0 < c.size by omega]

theorem orA_ok {f : FuncId} {q : List FuncId} (hit : ∀ g ∈ q, IterOk P f g) {args : List AV} {cargs : Array Value} {H H' : AH} {v : AV} (h : orA q args H = some (v, H'))
    (ha : ARel σ F args cargs) (hr : HR σ F H.get w) (hfr : ∀ i, H.next ≤ i → i < H'.next → σ i = none) : CallsIn Fence.wide 0 P f cargs w (Done σ F H w v H') := by
  unfold orA at h
  split at h
  · rename_i g id
    obtain ⟨hg, h⟩ := condSome h
    obtain ⟨hit1, hit2⟩ := hit g (memN_iff.1 hg)
    obtain ⟨x, rfl, a1⟩ := one_arel ha
    cases a1 with
    | func hs hv =>
    rename_i caps'
    have hc0 := hv 0 _ rfl
    obtain ⟨y, rfl⟩ : ∃ y, caps' = #[y] := by
      match caps', hs with
      | ⟨[y]⟩, _ => exact ⟨y, rfl⟩
    have hc0 : VRel σ F (.ptr id 1 0 0) y := hc0
    cases hc0 with
    | ptr hσ =>
    rename_i B csB
    have e0 : (0 * 1 + 0 : Nat) = 0 := rfl
    split at h
    · rename_i m hbox
      obtain ⟨cv, hcell, hcv⟩ := box_cell hr hbox hσ
      cases hcv with
      | map hm =>
      rename_i b csm
      split at h
      · rename_i es hmap
        obtain ⟨ns, hns, h2⟩ := bindSome h
        obtain ⟨hck, h3⟩ := condSome h2
        rw [Bool.and_eq_true] at hck
        have hlen := Nat.le_of_ble_eq_true hck.1
        obtain ⟨hnd, hrng⟩ := keysI_ok hck.2
        obtain ⟨b2, c2, hs2, ho⟩ := hr.obj _ _ hmap
        rw [hm] at hs2; cases hs2
        obtain ⟨en, clk, k1, k2, k3, k4⟩ := ho
        have hkeys := intKeys_len hns
        have hlen2 : es.length = ns.length := by have := congrArg List.length hkeys; simpa using this
        have hek : en.toList.map (·.key) = ns.map (fun n => .int .i64 n) := by
          apply List.ext_getElem?
          intro i
          rw [List.getElem?_map, List.getElem?_map]
          rcases Nat.lt_or_ge i ns.length with hlt | hge
          · have h1 : i < es.length := by omega
            have h2' : i < en.size := by omega
            have := (k3 i es[i] (List.getElem?_eq_getElem h1)).1
            have hk : es[i].1 = .int .i64 ns[i] := by
              have := congrArg (·[i]?) hkeys
              simp only [List.getElem?_map] at this
              rw [List.getElem?_eq_getElem h1, List.getElem?_eq_getElem hlt] at this
              simpa using this
            rw [hk] at this
            have e1 : en.getD i default = en[i] := by simp [Array.getD, h2']
            rw [e1] at this
            have := this.int_inv
            rw [Array.getElem?_toList, Array.getElem?_eq_getElem h2', List.getElem?_eq_getElem hlt]
            simp [this]
          · rw [List.getElem?_eq_none (by simp; omega), List.getElem?_eq_none hge]; rfl
        have hcall := hit1 B b clk en ns w hcell k1 k4 hek hlen hnd hrng
        refine CallsIn.mono hcall ?_
        rintro e w2 ⟨v2, t2, rfl, hrow, hnil, hold⟩
        cases hb0 : Nat.beq ns.length 0 with
        | true =>
          rw [hb0, cond_true] at h3
          simp only [Option.some.injEq, Prod.mk.injEq] at h3
          obtain ⟨rfl, rfl⟩ := h3
          have hz : ns = [] := List.length_eq_zero_iff.1 (Nat.eq_of_beq_eq_true hb0)
          have := hnil.2 hz
          subst this
          exact ⟨_, σ, F, rfl, .nils, Post.grow hold hr _⟩
        | false =>
          rw [hb0, cond_false] at h3
          obtain ⟨r, h4, h5⟩ := bindSome h3
          simp only [Option.some.injEq, Prod.mk.injEq] at h5
          obtain ⟨rfl, rfl⟩ := h5
          obtain ⟨r1, R1⟩ := r
          obtain ⟨rfl, n2, n3, n4, n5⟩ := AH.new_eq h4
          have hne : ns ≠ [] := by intro hc; subst hc; simp at hb0
          rcases hrow.2 with ⟨hv2, _⟩ | ⟨gb, cap, cur, rfl, hlo, hgb, hcap, hmax, hcur, htake⟩
          · exact absurd (hnil.1 hv2) hne
          · have hsz : (sortI ns).length = ns.length := sortI_len ns
            have hcur' : cur.size = cap := by omega
            have hrowR : Row (updσ σ H.next (gb, cur.size)) F 1 (rowI (sortI ns)) cur := by
              rw [rowI_eq]
              refine ⟨by simp [hsz]; omega, ?_, ?_, ?_⟩
              · intro i e he; rw [List.getElem?_map] at he; cases h6 : (sortI ns)[i]? with
                | none => rw [h6] at he; cases he
                | some z => rw [h6] at he; cases he; rfl
              · intro i e j u he hu; rw [List.getElem?_map] at he; cases h6 : (sortI ns)[i]? with
                | none => rw [h6] at he; cases he
                | some z =>
                  rw [h6] at he; cases he
                  cases j with
                  | zero => cases hu; rfl
                  | succ j => simp at hu
              · intro i e j u he hu; rw [List.getElem?_map] at he; cases h6 : (sortI ns)[i]? with
                | none => rw [h6] at he; cases he
                | some z =>
                  rw [h6] at he; cases he
                  cases j with
                  | succ j => simp at hu
                  | zero =>
                    cases hu
                    have hi := (List.getElem?_eq_some_iff.1 h6).1
                    have h7 : (cur.toList.take (ns.length * 1))[i]? = some (.int .i64 z) := by rw [htake, List.getElem?_map, h6]; rfl
                    rw [List.getElem?_take, if_pos (by omega), Array.getElem?_toList] at h7
                    have h8 : cur.getD (i * 1 + 0) undef = .int .i64 z := by
                      rw [Array.getD_eq_getD_getElem?, show i * 1 + 0 = i by omega, h7]; rfl
                    rw [h8]; exact .int _ _
            have hp := Post.newAt (x := .cells cur t2 (0, 0)) (cs := cur.size) (o := .arr 1 (rowI (sortI ns))) hold hr (hfr _ (Nat.le_refl _) (by show H.next < R1.next; omega)) n3 hlo hgb
              ⟨cur, t2, (0, 0), rfl, rfl, .inl rfl, hrowR⟩
            rw [← n2, ← n4] at hp
            refine ⟨_, _, F, rfl, ?_, hp⟩
            have := VRel.slice (σ := updσ σ H.next (gb, cur.size)) (F := F) (id := H.next) (sz := 1) (st := 0) (len := ns.length) (cap := ns.length) (ex := false) (b := gb) (cs := cur.size) (cap' := cap)
              (by unfold updσ; rw [if_pos rfl]) (by omega) (fun hc => by cases hc) (by omega) (Nat.le_refl _)
            simpa using this
      · cases h
    · rename_i hbox
      simp only [Option.some.injEq, Prod.mk.injEq] at h
      obtain ⟨rfl, rfl⟩ := h
      obtain ⟨cv, hcell, hcv⟩ := box_cell hr hbox hσ
      cases hcv with
      | nilm =>
      refine CallsIn.mono (hit2 B w hcell) ?_
      rintro e w2 ⟨rfl, hold⟩
      exact ⟨_, σ, F, rfl, .nils, Post.grow hold hr _⟩
    · cases h
  · cases h

theorem orS_ok {f : FuncId} {q : List FuncId} (hit : ∀ g ∈ q, IterOk P f g) : SumOk P f (orS q) := by
  intro args H cs v H' h _
  unfold orS at h
  obtain ⟨⟨u, K⟩, h1, h2⟩ := bindSome h
  simp only [Option.some.injEq, Prod.mk.injEq] at h2
  obtain ⟨_, rfl, rfl⟩ := h2
  exact ⟨orA_log h1, fun σ F w cargs ha hr hfr => orA_ok hit h1 ha hr hfr⟩

end
end Go.VM

/- Functions and rounds: the whole machine is sound. -/
namespace Go.VM
open Go

section
variable {P : Program} {σ : Sg} {F : Fz} {w : World} {tt : TT} {nt : NT} {call : CallF}

theorem Post.setKill {g : Nat → Option AO} {i b cs n : Nat} {o : AO} {x : Obj} (h : HR σ F g w) (hi : g i = some o) (hs : σ i = some (b, cs)) :
    Post σ F g w n n σ F (upd g i none) (setBlock w b x) := by
  have hlt := h.lt hi hs
  have hold : ∀ {j : Nat} {o1 : AO} {b' c' : Nat}, j ≠ i → g j = some o1 → σ j = some (b', c') → (setBlock w b x).heap[b']? = w.heap[b']? := by
    intro j o1 b' c' hne hj hsj
    refine setBlock_other fun e => hne ?_
    subst e
    exact h.inj j i b c' cs o1 o hj hi hsj hs
  have up : ∀ {m : Nat} {o3 : AO}, upd g i none m = some o3 → m ≠ i ∧ g m = some o3 := by
    intro m o3 hm
    unfold upd at hm
    by_cases hmi : m = i
    · rw [if_pos hmi] at hm; cases hm
    · rw [if_neg hmi] at hm; exact ⟨hmi, hm⟩
  refine ⟨.refl _, .refl _, ⟨?_, ?_, ?_, ?_, h.bnd⟩, by simp [setBlock], ?_, fun _ _ h => .inl h, ?_, fun _ _ h => .inl h, rfl, rfl, rfl, Nat.le_refl _⟩
  · intro j o1 hj
    obtain ⟨h1, h2⟩ := up hj
    obtain ⟨b', c', h3, h4⟩ := h.obj j o1 h2
    exact ⟨b', c', h3, by rw [hold h1 h2 h3]; exact h4⟩
  · intro j k b' c c' o1 o2 hj hk
    exact h.inj j k b' c c' o1 o2 (up hj).2 (up hk).2
  · intro j b' c o1 hj
    exact h.sep j b' c o1 (up hj).2
  · intro b' c hf
    obtain ⟨e, fr, h1⟩ := h.frz b' c hf
    refine ⟨e, fr, ?_⟩
    rw [setBlock_other]
    · exact h1
    · intro e; subst e; have := h.sep i b cs o hi hs; rw [this] at hf; cases hf
  · intro b' _ hn
    refine setBlock_other fun e => ?_
    subst e
    exact hn i o cs hi hs
  · intro j b' c o1 hj hsj _
    exact ⟨j, c, o1, (up hj).2, hsj⟩

theorem closeA_ok {fn : Func} {tmps : Array Value} {R : Ending → World → Prop} : ∀ (ds : List Nat) (fs : List Deferred) (H H2 : AH) (w : World), closeA ds H = some H2 → DefR σ ds fs → HR σ F H.get w →
    (∀ w2, Post σ F H.get w H.next H2.next σ F H2.get w2 → LeavesInM Fence.wide 0 P fn tmps R [] .returning w2) → LeavesInM Fence.wide 0 P fn tmps R fs .returning w := by
  intro ds
  induction ds with
  | nil =>
    intro fs H H2 w h hd hr hk
    cases hd
    simp only [closeA, Option.some.injEq] at h
    subst h
    exact hk w (.refl hr _)
  | cons d ds ih =>
    intro fs H H2 w h hd hr hk
    cases hd with
    | cons hs ht =>
      rename_i b cs fs
      simp only [closeA] at h
      split at h
      · rename_i hg
        obtain ⟨b2, c2, hs2, ho⟩ := hr.obj _ _ hg
        rw [hs] at hs2; cases hs2
        have hp := Post.setKill (x := .deferred none) (n := H.next) hr hg hs
        have hg' : (H.put d none).get = upd H.get d none := AH.get_put (by have := hr.bnd d _ hs; omega)
        rw [← hg'] at hp
        refine ⟨by simp, .inl ⟨b, _, rfl, rn_take ho, ?_⟩⟩
        refine ih fs (H.put d none) H2 _ h ht hp.hr ?_
        intro w2 hp2
        exact hk w2 (hp.trans hp2)
      · cases h

theorem closeA_log : ∀ (ds : List Nat) (H H2 : AH), closeA ds H = some H2 → LogOk H H2 := by
  intro ds
  induction ds with
  | nil => intro H H2 h; simp only [closeA, Option.some.injEq] at h; subst h; exact .refl _
  | cons d ds ih =>
    intro H H2 h
    simp only [closeA] at h
    split at h
    · exact LogOk.put.trans (ih _ _ h)
    · cases h

theorem closeA_next : ∀ (ds : List Nat) (H H2 : AH), closeA ds H = some H2 → H2.next = H.next := by
  intro ds
  induction ds with
  | nil => intro H H2 h; simp only [closeA, Option.some.injEq] at h; subst h; rfl
  | cons d ds ih =>
    intro H H2 h
    simp only [closeA] at h
    split at h
    · exact ih (H.put d none) H2 h
    · cases h

theorem loadCell_ok {t : TypeId} {ti : TI} {a v : AV} {ca : Value} {H : AH} (ht : TIok P t ti) (h : loadA ti a H = some v) (ha : VRel σ F a ca) (hr : HR σ F H.get w) :
    ∃ cv, Runs P (do loadVar t (← asAddr ca)) w cv w ∧ VRel σ F v cv := by
  obtain ⟨cv, h1, h2⟩ := loadA_ok ht h ha hr
  refine ⟨cv, ?_, h2⟩
  cases ha <;> first | exact h1 | (simp only [loadA] at h; cases h)

/-- The values of a list, beside those of the model. -/
inductive AllR (σ : Sg) (F : Fz) : List AV → List Value → Prop
  | nil : AllR σ F [] []
  | cons {v : AV} {c : Value} {vs : List AV} {cs : List Value} (h : VRel σ F v c) (t : AllR σ F vs cs) : AllR σ F (v :: vs) (c :: cs)

theorem AllR.len {vs : List AV} {cs : List Value} (h : AllR σ F vs cs) : cs.length = vs.length := by
  induction h with
  | nil => rfl
  | cons _ _ ih => simp [ih]

theorem AllR.at_ {vs : List AV} {cs : List Value} (h : AllR σ F vs cs) : ∀ (i : Nat) (v : AV), vs[i]? = some v → VRel σ F v (cs.getD i undef) := by
  induction h with
  | nil => intro i v hi; simp at hi
  | cons h _ ih =>
    intro i v hi
    cases i with
    | zero => simp only [List.getElem?_cons_zero, Option.some.injEq] at hi; subst hi; exact h
    | succ i => simp only [List.getElem?_cons_succ] at hi; simpa using ih i v hi

theorem resA_ok (htt : TTok P tt) {fr : AF} {a : Act} {H : AH} (hf : FRT σ F fr.sz fr.tmps a) (hr : HR σ F H.get w) : ∀ (rs : List ResultVar) (vs : List AV), resA tt fr H rs = some vs →
    ∃ cs, Runs P (rs.mapM fun | .tmp t => pure (a.tmps.getD t undef) | .cell ad t => do loadVar t (← asAddr (a.tmps.getD ad undef))) w cs w ∧ AllR σ F vs cs := by
  intro rs
  induction rs with
  | nil => intro vs h; simp only [resA, Option.some.injEq] at h; subst h; exact ⟨[], Runs.pure, .nil⟩
  | cons r rs ih =>
    intro vs h
    cases r with
    | tmp t =>
      simp only [resA] at h
      obtain ⟨v, h1, h2⟩ := bindSome h
      obtain ⟨us, h3, h4⟩ := bindSome h2
      simp only [Option.some.injEq] at h4; subst h4
      obtain ⟨cs, k1, k2⟩ := ih us h3
      refine ⟨a.tmps.getD t undef :: cs, ?_, .cons (hf.val t v h1) k2⟩
      rw [List.mapM_cons]
      exact Runs.bind Runs.pure (Runs.bind k1 Runs.pure)
    | cell ad t =>
      simp only [resA] at h
      obtain ⟨p, h1, h2⟩ := bindSome h
      obtain ⟨ti, h3, h4⟩ := bindSome h2
      obtain ⟨v, h5, h6⟩ := bindSome h4
      obtain ⟨us, h7, h8⟩ := bindSome h6
      simp only [Option.some.injEq] at h8; subst h8
      obtain ⟨cs, k1, k2⟩ := ih us h7
      obtain ⟨cv, q1, q2⟩ := loadCell_ok (htt _ _ h3) h5 (hf.val ad p h1) hr
      refine ⟨cv :: cs, ?_, .cons q2 k2⟩
      rw [List.mapM_cons]
      exact Runs.bind q1 (Runs.bind k1 Runs.pure)

theorem tupA_ok {vs : List AV} {cs : List Value} (h : AllR σ F vs cs) : VRel σ F (tupA vs) (if h : cs.toArray.size = 1 then cs.toArray[0] else .tuple cs.toArray) := by
  have tup : ∀ {vs : List AV} {cs : List Value}, AllR σ F vs cs → VRel σ F (.tup vs) (.tuple cs.toArray) := by
    intro vs cs h
    refine .tup (by simpa using h.len) ?_
    intro i c hi
    have := h.at_ i c hi
    simpa using this
  cases h with
  | nil => exact tup .nil
  | cons h t =>
    cases t with
    | nil => simpa [tupA] using h
    | cons h2 t2 =>
      have := tup (.cons h (.cons h2 t2))
      simpa [tupA] using this

theorem argT_get : ∀ {base : Tr AV}, (∀ i, base.get i = none) → ∀ (args : List AV) (i t : Nat) (v : AV), (argT base args i).get t = some v → i ≤ t ∧ args[t - i]? = some v := by
  intro base hbase args
  induction args with
  | nil => intro i t v h; simp [argT, hbase] at h
  | cons x xs ih =>
    intro i t v h
    simp only [argT] at h
    rcases Tr.get_set_any 40 (argT base xs (i + 1)) i t (some x) with k | ⟨rfl, k⟩
    · rw [k] at h
      obtain ⟨h1, h2⟩ := ih (i + 1) t v h
      refine ⟨by omega, ?_⟩
      rw [show t - i = (t - (i + 1)) + 1 by omega]
      simpa using h2
    · rw [k] at h
      simp only [Option.some.injEq] at h; subst h
      exact ⟨Nat.le_refl _, by simp⟩

/-- The table of functions is the program's. -/
def FTok (P : Program) (ft : Tr FI) : Prop := ∀ f fi, ft.get f = some fi → ∃ fn, P.funcs[f]? = some fn ∧ fn.body = some fi.body ∧ fi.ntmps = fn.ntmps ∧ fi.results = fn.results.toList ∧
  (fn.name == "runtime.NumGoroutine") = false ∧ chk fi.body = true ∧ ∀ i, fi.init.get i = none

theorem runA_log (hcall : CallLog call) {lf : Nat} {fi : FI} {args : List AV} {H H' : AH} {v : AV} (h : runA tt nt call lf fi args H = some (v, H')) : LogOk H H' := by
  unfold runA at h
  obtain ⟨hc, hA⟩ := condSome h
  rw [Bool.and_eq_true] at hc
  have hc1 := Nat.le_of_ble_eq_true hc.2
  split at hA
  · rename_i fr K hcode
    obtain ⟨K2, h1, h2⟩ := bindSome hA
    obtain ⟨vs, h3, h4⟩ := bindSome h2
    simp only [Option.some.injEq, Prod.mk.injEq] at h4
    obtain ⟨rfl, rfl⟩ := h4
    exact (codeA_fr hcall _ _ _ _ _ _ hcode hc1).2.2.trans (closeA_log _ _ _ h1)
  · rename_i fr K hcode
    obtain ⟨K2, h1, h2⟩ := bindSome hA
    obtain ⟨vs, h3, h4⟩ := bindSome h2
    simp only [Option.some.injEq, Prod.mk.injEq] at h4
    obtain ⟨rfl, rfl⟩ := h4
    exact (codeA_fr hcall _ _ _ _ _ _ hcode hc1).2.2.trans (closeA_log _ _ _ h1)
  · cases hA

theorem runA_ok (hmx : P.follows .mixedOrders = true) (htt : TTok P tt) (hnt : NTok P nt) (hcall : CallOk P call) {lf : Nat} {fi : FI} {f : FuncId} {fn : Func} (hfn : P.funcs[f]? = some fn) (hbody : fn.body = some fi.body)
    (hnum : fi.ntmps = fn.ntmps) (hres : fi.results = fn.results.toList) (hchk : chk fi.body = true) (hini : ∀ i, fi.init.get i = none) {args : List AV} {cargs : Array Value} {H H' : AH} {v : AV} (h : runA tt nt call lf fi args H = some (v, H'))
    (ha : ARel σ F args cargs) (hr : HR σ F H.get w) (hfr : ∀ i, H.next ≤ i → i < H'.next → σ i = none) : CallsIn Fence.wide 0 P f cargs w (Done σ F H w v H') := by
  unfold runA at h
  obtain ⟨hc, hA⟩ := condSome h
  rw [Bool.and_eq_true] at hc
  have hc1 := Nat.le_of_ble_eq_true hc.1
  have hc2 := Nat.le_of_ble_eq_true hc.2
  refine callsIn_of_wp_marks hfn hbody trivial ?_ rfl
  have hcs : cargs.size ≤ fn.ntmps := by rw [ha.1, ← hnum]; exact hc1
  have hfr0 : FrR σ F { tmps := argT fi.init args 0, sz := fi.ntmps, marks := [], rnd := none } none { tmps := cargs ++ Array.replicate (fn.ntmps - cargs.size) undef, defers := [] } := by
    refine ⟨⟨by simp [hnum]; omega, hc2, ?_, ?_⟩, fun _ => .nil, trivial⟩
    · intro t u ht
      obtain ⟨_, h2⟩ := argT_get hini _ _ _ _ ht
      have := (List.getElem?_eq_some_iff.1 h2).1
      show t < fi.ntmps
      omega
    · intro t u ht
      obtain ⟨_, h2⟩ := argT_get hini _ _ _ _ ht
      have h3 := (List.getElem?_eq_some_iff.1 h2).1
      have h4 := ha.2 _ u h2
      have h5 : t < cargs.size := by rw [ha.1]; omega
      have h6 : (cargs ++ Array.replicate (fn.ntmps - cargs.size) undef).getD t undef = cargs.getD t undef := by
        simp only [Array.getD_eq_getD_getElem?]
        rw [Array.getElem?_append_left h5]
      show VRel σ F u ((cargs ++ Array.replicate (fn.ntmps - cargs.size) undef).getD t undef)
      rw [h6]
      simpa using h4
  have fin : ∀ {e : Ex} {fr : AF} {K : AH}, codeA tt nt call lf fi.trim fi.body { tmps := argT fi.init args 0, sz := fi.ntmps, marks := [], rnd := none } H = some (e, fr, K) → (e = .norm ∨ e = .ret) →
      ((closeA fr.marks K).bind fun H2 => (resA tt fr H2 fi.results).bind fun vs => some (tupA vs, H2)) = some (v, H') →
      fi.body.wpIn Fence.wide 0 P (bodyPostM Fence.wide 0 P fn (Done σ F H w v H')) { tmps := cargs ++ Array.replicate (fn.ntmps - cargs.size) undef, defers := [] } w := by
    intro e fr K hcode he hA
    obtain ⟨K2, h1, h2⟩ := bindSome hA
    obtain ⟨vs, h3, h4⟩ := bindSome h2
    simp only [Option.some.injEq, Prod.mk.injEq] at h4
    obtain ⟨rfl, rfl⟩ := h4
    have hnx := closeA_next _ _ _ h1
    obtain ⟨g1, g2, g3⟩ := codeA_fr hcall.log _ _ _ _ _ _ hcode hc2
    refine codeA_ok hmx htt hnt hcall fi.body hchk _ _ _ _ _ none hcode σ F _ w _ hfr0 hr (fun i k1 k2 => hfr i k1 (by omega)) ?_
    intro a' w' σ' F' hf' hp
    have done : LeavesInM Fence.wide 0 P fn a'.tmps (Done σ F H w (tupA vs) K2) a'.defers .returning w' := by
      refine closeA_ok fr.marks a'.defers K K2 w' h1 (hf'.d g2) hp.hr ?_
      intro w2 hp2
      have hp3 := hp.trans hp2
      obtain ⟨cs, k1, k2⟩ := resA_ok htt hf'.t hp2.hr _ _ h3
      refine ⟨_, ?_, _, σ', F', rfl, tupA_ok k2, hp3⟩
      have k1' : Runs P (fn.results.mapM fun | .tmp t => pure (a'.tmps.getD t undef) | .cell ad t => do loadVar t (← asAddr (a'.tmps.getD ad undef))) w2 cs.toArray w2 := by
        rw [Array.mapM_eq_mapM_toList, ← hres]
        exact Runs.bind k1 Runs.pure
      exact Runs.bind k1' Runs.pure
    rcases he with rfl | rfl
    · exact done
    · exact done
  split at hA
  · rename_i fr K hcode
    exact fin hcode (.inl rfl) hA
  · rename_i fr K hcode
    exact fin hcode (.inr rfl) hA
  · cases hA

theorem putsT_ok {sz : Nat} : ∀ (ps : List Nat) (tmps tmps' : Tr AV) (args : List AV) (cargs : List Value) (ct : Array Value), putsT sz tmps ps args = some tmps' → AllR σ F args cargs →
    FRT σ F sz tmps { tmps := ct, defers := [] } → cargs.length = ps.length ∧ FRT σ F sz tmps' { tmps := (ps.zip cargs).foldl (fun tmps (t, a) => tmps.setIfInBounds t a) ct, defers := [] } := by
  intro ps
  induction ps with
  | nil =>
    intro tmps tmps' args cargs ct h ha hf
    cases args with
    | nil => cases ha; simp only [putsT, Option.some.injEq] at h; subst h; exact ⟨rfl, hf⟩
    | cons _ _ => simp only [putsT] at h; cases h
  | cons p ps ih =>
    intro tmps tmps' args cargs ct h ha hf
    cases args with
    | nil => simp only [putsT] at h; cases h
    | cons v vs =>
      cases ha with
      | cons hv ht =>
        rename_i c cs
        simp only [putsT] at h
        obtain ⟨hlt, h2⟩ := condSome h
        have hput : putT sz tmps (some p) v = some (tmps.set 40 p (some v)) := by unfold putT; simp only; rw [hlt]; rfl
        have hf2 := putT_ok hput hf hv
        obtain ⟨k1, k2⟩ := ih _ _ _ _ _ h2 ht hf2
        exact ⟨by simp [k1], k2⟩

theorem ARel.all {args : List AV} {cargs : Array Value} (h : ARel σ F args cargs) : AllR σ F args cargs.toList := by
  obtain ⟨h1, h2⟩ := h
  have key : ∀ (args : List AV) (cs : List Value), cs.length = args.length → (∀ (i : Nat) v, args[i]? = some v → VRel σ F v (cs.getD i undef)) → AllR σ F args cs := by
    intro args
    induction args with
    | nil => intro cs h _; cases cs with | nil => exact .nil | cons _ _ => simp at h
    | cons v vs ih =>
      intro cs h h2
      cases cs with
      | nil => simp at h
      | cons c cs =>
        refine .cons (by simpa using h2 0 v rfl) (ih cs (by simpa using h) fun i u hi => ?_)
        simpa using h2 (i + 1) u (by simpa using hi)
  refine key args cargs.toList (by simpa using h1) ?_
  intro i v hi
  have := h2 i v hi
  simpa using this

theorem roundA_log (hcall : CallLog call) {lf l : Nat} {args : List AV} {H H' : AH} {v : AV} (h : roundA tt nt call lf l args H = some (v, H')) : LogOk H H' := by
  unfold roundA at h
  split at h
  · rename_i tmps sz ps assign body d hg
    obtain ⟨hz, h⟩ := condSome h
    have hz := Nat.le_of_ble_eq_true hz
    obtain ⟨t', h1, h2⟩ := bindSome h
    split at h2
    · rename_i fr1 H1 hc1
      have l1 := (codeA_fr hcall _ _ _ _ _ _ hc1 hz)
      split at h2
      · split at h2
        · rename_i e fr3 H3 hc2
          have l2 := codeA_fr hcall _ _ _ _ _ _ hc2 (by show fr1.sz ≤ _; rw [l1.1]; exact hz)
          have l3 := l1.2.2.trans (LogOk.put.trans l2.2.2)
          split at h2
          · split at h2
            all_goals
              simp only [Option.some.injEq, Prod.mk.injEq] at h2
              obtain ⟨_, rfl⟩ := h2
              exact l3.trans .put
          · cases h2
        · cases h2
      · cases h2
    · cases h2
  · cases h

/-- One round. -/
theorem roundA_ok (hmx : P.follows .mixedOrders = true) (htt : TTok P tt) (hnt : NTok P nt) (hcall : CallOk P call) {lf l : Nat} {args : List AV} {cargs : Array Value} {H H' : AH} {v : AV}
    (h : roundA tt nt call lf l args H = some (v, H')) (ha : ARel σ F args cargs) (hr : HR σ F H.get w) (hfr : ∀ i, H.next ≤ i → i < H'.next → σ i = none) {b cs : Nat} (hs : σ l = some (b, cs)) :
    ∃ fn tm assign body, Runs P (Instr.yield b cargs) w (.round b fn tm assign body) w ∧ RoundIn Fence.wide 0 P b fn tm assign body w (Done σ F H w v H') := by
  unfold roundA at h
  split at h
  · rename_i tmps sz ps assign body d hg
    obtain ⟨hz, h⟩ := condSome h
    have hz := Nat.le_of_ble_eq_true hz
    obtain ⟨t', h1, h2⟩ := bindSome h
    obtain ⟨b2, c2, hs2, ho⟩ := hr.obj _ _ hg
    rw [hs] at hs2; cases hs2
    obtain ⟨L, q1, q2, q3, q4, q5, q6, q7, q8, ⟨q9, q10, q11⟩, csd, q12⟩ := ho
    have hf0 : FRT σ F sz tmps { tmps := L.tmps, defers := [] } := ⟨q4, q9, fun t u ht => (q5 t u ht).1, fun t u ht => (q5 t u ht).2⟩
    obtain ⟨hlen, hf1⟩ := putsT_ok ps tmps t' args cargs.toList L.tmps h1 ha.all hf0
    refine ⟨L.fn, (L.params.zip cargs).foldl (fun tmps (t, a) => tmps.setIfInBounds t a) L.tmps, assign, body, ?_, roundIn_of_wpIn trivial ?_⟩
    · unfold Instr.yield
      refine Runs.bind (rn_getLoop q1) ?_
      have hsz : cargs.size = L.params.size := by
        have := hlen
        rw [← q6] at this
        simpa using this
      simp only [hsz, ne_eq, not_true_eq_false, if_false, q7, q8]
      exact Runs.pure
    · have e1 : (L.params.zip cargs).foldl (fun tmps (t, a) => tmps.setIfInBounds t a) L.tmps = (ps.zip cargs.toList).foldl (fun tmps (t, a) => tmps.setIfInBounds t a) L.tmps := by
        rw [← Array.foldl_toList, Array.toList_zip, q6]
      rw [e1]
      split at h2
      · rename_i fr1 H1 hc1
        obtain ⟨g1, g2, g3⟩ := codeA_fr hcall.log _ _ _ _ _ _ hc1 hz
        split at h2
        · rename_i t1 z1 p1 a1 b1 d1 hg1
          split at h2
          · rename_i e fr3 H3 hc2
            obtain ⟨k1, k2, k3⟩ := codeA_fr hcall.log _ _ _ _ _ _ hc2 (by show fr1.sz ≤ _; rw [g1]; exact hz)
            split at h2
            · rename_i t3 z3 p3 a3 b3 d3 hg3
              have hH' : ∃ st : LoopState, v = .bool e.jump.isNone ∧ H' = H3.put l (some (.loop st e.jump t3 z3 p3 a3 b3 d3)) ∧ st = (if e.jump.isNone then LoopState.ready else LoopState.done) := by
                clear hc2
                cases e <;> simp only [Option.some.injEq, Prod.mk.injEq] at h2
                · exact ⟨.ready, h2.1.symm, h2.2.symm, rfl⟩
                · exact ⟨.done, h2.1.symm, h2.2.symm, rfl⟩
                · exact ⟨.done, h2.1.symm, h2.2.symm, rfl⟩
              obtain ⟨st, rfl, rfl, hst0⟩ := hH'
              clear h2 h
              have hn31 : H1.next ≤ H3.next := k3.le
              have hlb : ∀ i x, σ i = some x → i < 1099511627775 := hr.bnd
              have hl := hlb l _ hs
              refine codeA_ok hmx htt hnt hcall assign q10 _ _ _ _ _ (some b) hc1 σ F _ w _ ⟨hf1, fun hn => (by cases hn), ⟨cs, hs⟩⟩ hr (fun i k1 k2 => hfr i k1 (by show i < H3.next; omega)) ?_
              intro a1' w1 σ1 F1 hf2 hp1
              have hs1 := hp1.sub _ _ hs
              obtain ⟨b4, c4, hs4, ho4⟩ := hp1.hr.obj _ _ hg1
              rw [hs1] at hs4; cases hs4
              obtain ⟨L1, r1, r2, r3, r4, r5, r6, r7, r8, r9, csd1, r12⟩ := ho4
              refine ⟨_, rn_beginRound r1 r2, ?_⟩
              have hp2 := Post.set (n := H1.next) (x := .loop { L1 with state := .busy }) (o' := .loop .busy none t1 z1 p1 a1 b1 d1) hp1.hr hg1 hs1 ⟨{ L1 with state := .busy }, rfl, rfl, r3, r4, r5, r6, r7, r8, r9, csd1, r12⟩
              have hgp : (H1.put l (some (.loop .busy none t1 z1 p1 a1 b1 d1))).get = upd H1.get l (some (.loop .busy none t1 z1 p1 a1 b1 d1)) := AH.get_put hl
              rw [← hgp] at hp2
              have hp12 := hp1.trans hp2
              refine codeA_ok hmx htt hnt hcall body q11 _ _ _ _ _ (some b) hc2 σ1 F1 a1' _ _ ⟨⟨hf2.t.size, hf2.t.le, hf2.t.lt, hf2.t.val⟩, fun hn => (by have hn : fr1.rnd = none := hn; rw [g2] at hn; cases hn), hf2.r⟩ hp2.hr
                (hp12.fresh (fun i k1 k2 => hfr i k1 k2)) ?_
              intro a3' w3 σ3 F3 hf3 hp3
              have hp13 := hp12.trans hp3
              have hs3 := hp3.sub _ _ hs1
              obtain ⟨b5, c5, hs5, ho5⟩ := hp3.hr.obj _ _ hg3
              rw [hs3] at hs5; cases hs5
              obtain ⟨L3, s1, s2, s3, s4, s5, s6, s7, s8, s9, csd3, s12⟩ := ho5
              have finish : ∃ cv w', (Instr.endRound b e.jump).run P w3 = .ok cv w' ∧ Done σ F H w (.bool e.jump.isNone) (H3.put l (some (.loop st e.jump t3 z3 p3 a3 b3 d3))) (.returned cv) w' := by
                have hend := rn_endRound (P := P) (j := e.jump) s1
                have hp4 := Post.set (n := H3.next) (x := .loop { L3 with state := if e.jump.isNone then .ready else .done, pending := e.jump }) (o' := .loop st e.jump t3 z3 p3 a3 b3 d3) hp3.hr hg3 hs3
                  ⟨{ L3 with state := if e.jump.isNone then .ready else .done, pending := e.jump }, rfl, hst0.symm, rfl, s4, s5, s6, s7, s8, s9, csd3, s12⟩
                have hgp3 : (H3.put l (some (.loop st e.jump t3 z3 p3 a3 b3 d3))).get = upd H3.get l (some (.loop st e.jump t3 z3 p3 a3 b3 d3)) := AH.get_put hl
                rw [← hgp3] at hp4
                exact ⟨_, _, hend, _, _, _, rfl, .bool _, hp13.trans hp4⟩
              clear hc2
              cases e with
              | norm => exact finish
              | exit id => exact finish
              | ret => exact finish
            · cases h2
          · cases h2
        · cases h2
      · cases h2
  · cases h

theorem run_enter {f : FuncId} {fn : Func} {c : Code} (hf : P.funcs[f]? = some fn) (hn : (fn.name == "runtime.NumGoroutine") = false) (hb : fn.body = some c) (args : Array Value) (w : World) :
    Runs P (callFunc f args) w (.enter f args) w := by
  have h1 : fn.name ≠ "runtime.NumGoroutine" := by simpa using hn
  unfold Runs
  simp [callFunc, hf, h1, hb, Sem.run]

/-- **The machine is sound.** -/
theorem funA_ok (hmx : P.follows .mixedOrders = true) {ft : Tr FI} (hft : FTok P ft) (htt : TTok P tt) (hnt : NTok P nt) {ot : OT} (hot : OTok P ot) {lf : Nat} : ∀ n, CallOk P (funA ft tt nt ot lf n) := by
  intro n
  induction n with
  | zero => intro c args H v H' h; simp only [funA] at h; cases h
  | succ n ih =>
    intro c args H v H' h
    cases c with
    | fn f =>
      simp only [funA] at h
      cases hq : ot.get f with
      | some g =>
        rw [hq] at h
        obtain ⟨cs, h, hcs⟩ := sumA_some h
        obtain ⟨⟨fn, c, k1, k2, k3⟩, hg⟩ := hot f g hq
        obtain ⟨hlog, hg⟩ := hg _ _ _ _ _ h hcs
        refine ⟨hlog, ?_⟩
        intro σ F w cargs ha hr hfr
        exact ⟨fun w => run_enter k1 k2 k3 cargs w, hg σ F w cargs ha hr hfr⟩
      | none =>
      rw [hq] at h
      obtain ⟨fi, h1, h2⟩ := bindSome h
      obtain ⟨fn, k1, k2, k3, k4, k5, k6, k7⟩ := hft f fi h1
      refine ⟨runA_log ih.log h2, ?_⟩
      intro σ F w cargs ha hr hfr
      exact ⟨fun w => run_enter k1 k5 k2 cargs w, runA_ok hmx htt hnt ih k1 k2 k3 k4 k6 k7 h2 ha hr hfr⟩
    | rd l =>
      simp only [funA] at h
      refine ⟨roundA_log ih.log h, ?_⟩
      intro σ F w cargs ha hr hfr b cs hs
      exact roundA_ok hmx htt hnt ih h ha hr hfr hs

end
end Go.VM

/- Tables checked by running, and a law's call. -/
namespace Go.VM
open Go
noncomputable section

def avB : AV → AV → Bool
  | .bool a, .bool b => a == b
  | .int k n, .int k' n' => decide (k = k') && decide (n = n')
  | .str a, .str b => Nat.beq a.size 0 && Nat.beq b.size 0
  | .nilp, .nilp => true
  | .nils, .nils => true
  | .nilm, .nilm => true
  | .nilf, .nilf => true
  | .nili, .nili => true
  | _, _ => false

theorem emptyB {a : ByteArray} (h : a.size = 0) : a = ByteArray.empty := by
  apply ByteArray.ext
  apply Array.eq_empty_of_size_eq_zero
  exact h

theorem avB_eq {a b : AV} (h : avB a b = true) : a = b := by
  unfold avB at h
  split at h <;> first | cases h | skip
  all_goals try rfl
  · rename_i a b; have := eq_of_beq h; rw [this]
  · rename_i k n k' n'
    rw [Bool.and_eq_true] at h
    rw [of_decide_eq_true h.1, of_decide_eq_true h.2]
  · rename_i a b
    rw [Bool.and_eq_true] at h
    rw [emptyB (Nat.eq_of_beq_eq_true h.1), emptyB (Nat.eq_of_beq_eq_true h.2)]

def avsB : List AV → List AV → Bool
  | [], [] => true
  | a :: as, b :: bs => cond (avB a b) (avsB as bs) false
  | _, _ => false

theorem avsB_eq : ∀ {as bs : List AV}, avsB as bs = true → as = bs := by
  intro as
  induction as with
  | nil => intro bs h; cases bs with | nil => rfl | cons _ _ => cases h
  | cons a as ih =>
    intro bs h
    cases bs with
    | nil => cases h
    | cons b bs =>
      simp only [avsB] at h
      cases hb : avB a b with
      | false => rw [hb] at h; cases h
      | true => rw [hb] at h; rw [avB_eq hb, ih h]

def fieldsB (P : Program) : List (Nat × Nat × TypeId) → List Field → Bool
  | [], [] => true
  | q :: qs, f :: fs => cond (Nat.beq f.offset q.1 && Nat.beq f.type q.2.2 && (match P.info? f.type with | some fi => Nat.beq fi.size q.2.1 | none => false)) (fieldsB P qs fs) false
  | _, _ => false

theorem fieldsB_ok {P : Program} : ∀ {qs : List (Nat × Nat × TypeId)} {fs : List Field}, fieldsB P qs fs = true →
    fs.length = qs.length ∧ ∀ (i : Nat) q, qs[i]? = some q → ∃ f fi, fs[i]? = some f ∧ f.offset = q.1 ∧ f.type = q.2.2 ∧ P.info? f.type = some fi ∧ fi.size = q.2.1 := by
  intro qs
  induction qs with
  | nil => intro fs h; cases fs with | nil => exact ⟨rfl, by simp⟩ | cons _ _ => cases h
  | cons q qs ih =>
    intro fs h
    cases fs with
    | nil => cases h
    | cons f fs =>
      simp only [fieldsB] at h
      obtain ⟨hc, hr⟩ : (Nat.beq f.offset q.1 && Nat.beq f.type q.2.2 && (match P.info? f.type with | some fi => Nat.beq fi.size q.2.1 | none => false)) = true ∧ fieldsB P qs fs = true := by
        cases hc : (Nat.beq f.offset q.1 && Nat.beq f.type q.2.2 && (match P.info? f.type with | some fi => Nat.beq fi.size q.2.1 | none => false)) with
        | false => rw [hc] at h; cases h
        | true => rw [hc] at h; exact ⟨rfl, h⟩
      rw [Bool.and_eq_true, Bool.and_eq_true] at hc
      obtain ⟨⟨h1, h2⟩, h3⟩ := hc
      obtain ⟨k1, k2⟩ := ih hr
      refine ⟨by simp [k1], fun i q' hq => ?_⟩
      cases i with
      | zero =>
        simp only [List.getElem?_cons_zero, Option.some.injEq] at hq
        subst hq
        split at h3
        · rename_i fi hfi
          exact ⟨f, fi, rfl, Nat.eq_of_beq_eq_true h1, Nat.eq_of_beq_eq_true h2, hfi, Nat.eq_of_beq_eq_true h3⟩
        · cases h3
      | succ i => simpa using k2 i q' (by simpa using hq)

def udB (P : Program) : UD → TypeDesc → Bool
  | .bool, .bool => true
  | .int k, .int k' => decide (k = k')
  | .str, .string => true
  | .ptr e, .pointer e' => Nat.beq e e'
  | .slice e, .slice e' => Nat.beq e e'
  | .arr n e, .array n' e' => Nat.beq n n' && Nat.beq e e'
  | .struct fs, .struct fields => fieldsB P fs fields.toList
  | .map k e, .map k' e' => Nat.beq k k' && Nat.beq e e'
  | .iface, .interface _ => true
  | .func, .func _ _ _ => true
  | _, _ => false

theorem udB_ok {P : Program} {u : UD} {d : TypeDesc} (h : udB P u d = true) : UDok P u d := by
  unfold udB at h
  split at h <;> first | cases h | skip
  all_goals simp only [UDok]
  · exact of_decide_eq_true h
  · exact Nat.eq_of_beq_eq_true h
  · exact Nat.eq_of_beq_eq_true h
  · rw [Bool.and_eq_true] at h; exact ⟨Nat.eq_of_beq_eq_true h.1, Nat.eq_of_beq_eq_true h.2⟩
  · rename_i fs fields
    obtain ⟨h1, h2⟩ := fieldsB_ok h
    refine ⟨by simpa using h1, fun i q hq => ?_⟩
    obtain ⟨f, fi, k1, k2⟩ := h2 i q hq
    exact ⟨f, fi, by simpa using k1, k2⟩
  · rw [Bool.and_eq_true] at h; exact ⟨Nat.eq_of_beq_eq_true h.1, Nat.eq_of_beq_eq_true h.2⟩

def methsB (i : TypeInfo) : List (String × FuncId) → Bool
  | [] => true
  | (n, f) :: r => cond (match i.methods.find? (·.name == n) with
      | some m => m.path.isEmpty && (match m.func with | some (g, false) => Nat.beq g f | _ => false)
      | none => false) (methsB i r) false

theorem methsB_ok {i : TypeInfo} : ∀ {ms : List (String × FuncId)}, methsB i ms = true → ∀ n f, findM n ms = some f → ∃ m, i.methods.find? (·.name == n) = some m ∧ m.path = #[] ∧ m.func = some (f, false) := by
  intro ms
  induction ms with
  | nil => intro _ n f h; cases h
  | cons p r ih =>
    obtain ⟨n0, f0⟩ := p
    intro h n f hf
    simp only [methsB] at h
    simp only [findM] at hf
    cases hc : (match i.methods.find? (·.name == n0) with
      | some m => m.path.isEmpty && (match m.func with | some (g, false) => Nat.beq g f0 | _ => false)
      | none => false) with
    | false => rw [hc] at h; cases h
    | true =>
      rw [hc, cond_true] at h
      cases hn : (n0 == n) with
      | false => rw [hn] at hf; exact ih h n f hf
      | true =>
        rw [hn] at hf
        simp only [cond_true, Option.some.injEq] at hf
        have := eq_of_beq hn
        subst this; subst hf
        split at hc
        · rename_i m hm
          rw [Bool.and_eq_true] at hc
          obtain ⟨h1, h2⟩ := hc
          refine ⟨m, hm, by simpa using h1, ?_⟩
          split at h2
          · rename_i g hg
            rw [hg, Nat.eq_of_beq_eq_true h2]
          · cases h2
        · cases hc

def zeroB (ti : TI) (z : Value) : Bool :=
  (match ofCells z.cells.toList with | some cs => avsB cs ti.zero | none => false) &&
  cond ti.ud.isAgg (match z with | .agg _ => true | _ => false) (match ti.zero with | [v] => (match ofCell z with | some u => avB u v | none => false) | _ => true)

def tiB (P : Program) (t : TypeId) (ti : TI) : Bool :=
  match P.underlying t with
  | none => false
  | some d => udB P ti.ud d &&
    (match P.info? t with
    | none => false
    | some i => Nat.beq i.size ti.size && Nat.beq i.bytes ti.bytes && (match i.zero with | none => false | some z => zeroB ti z) &&
      cond ti.eqok (!P.stoodInHeld t && !P.eqGuardType P.depth t && (match d with | .struct fields => fields.all (fun f => f.name != "_") | _ => true)) true &&
      (match ti.meths with | [] => true | _ => methsB i ti.meths && (match d with | .pointer _ => false | _ => true)))

theorem tiB_ok {P : Program} {t : TypeId} {ti : TI} (h : tiB P t ti = true) : TIok P t ti := by
  unfold tiB at h
  split at h
  · cases h
  · rename_i d hd
    rw [Bool.and_eq_true] at h
    obtain ⟨h1, h2⟩ := h
    split at h2
    · cases h2
    · rename_i i hi
      rw [Bool.and_eq_true, Bool.and_eq_true, Bool.and_eq_true, Bool.and_eq_true] at h2
      obtain ⟨⟨⟨⟨h3, h4⟩, h5⟩, h6⟩, h7⟩ := h2
      refine ⟨⟨d, hd, udB_ok h1⟩, ?_, ?_, ?_⟩
      · split at h5
        · cases h5
        · rename_i z hz
          unfold zeroB at h5
          rw [Bool.and_eq_true] at h5
          obtain ⟨k1, k2⟩ := h5
          refine ⟨i, z, hi, Nat.eq_of_beq_eq_true h3, Nat.eq_of_beq_eq_true h4, hz, ?_, ?_, ?_⟩
          · split at k1
            · rename_i cs hcs; rw [hcs, avsB_eq k1]
            · cases k1
          · intro ha
            rw [ha, cond_true] at k2
            split at k2
            · exact ⟨_, rfl⟩
            · cases k2
          · intro ha v hv
            rw [ha, cond_false, hv] at k2
            simp only at k2
            split at k2
            · rename_i u hu; rw [hu, avB_eq k2]
            · cases k2
      · intro he
        rw [he, cond_true, Bool.and_eq_true, Bool.and_eq_true, Bool.not_eq_true', Bool.not_eq_true'] at h6
        obtain ⟨⟨k1, k2⟩, k3⟩ := h6
        refine ⟨k1, k2, ?_⟩
        intro fields hf f hfm
        rw [hd] at hf
        cases hf
        have := (Array.all_eq_true_iff_forall_mem.1 k3) f hfm
        simpa using this
      · intro n f hf
        split at h7
        · rename_i hm; rw [hm] at hf; cases hf
        · rw [Bool.and_eq_true] at h7
          obtain ⟨m, k1, k2, k3⟩ := methsB_ok h7.1 n f hf
          refine ⟨i, m, hi, k1, k2, k3, ?_⟩
          intro e he
          rw [hd] at he
          cases he
          exact absurd h7.2 (by simp)

/-- Every row of a tree. -/
def Tr.allB {α : Type} (p : Nat → α → Bool) : Tr α → Nat → Nat → Bool
  | .nil, _, _ => true
  | .node l v r, m, a => (match v with | some x => p a x | none => true) && l.allB p (2 * m) (m + a) && r.allB p (2 * m) (2 * m + a)

theorem Tr.allB_get {α : Type} {p : Nat → α → Bool} : ∀ (t : Tr α) (m a i : Nat) (x : α), t.allB p m a = true → t.get i = some x → p (m * i + a) x = true := by
  intro t
  induction t with
  | nil => intro m a i x _ h; simp [Tr.get_nil] at h
  | node l v r ihl ihr =>
    intro m a i x h hg
    simp only [Tr.allB, Bool.and_eq_true] at h
    obtain ⟨⟨h1, h2⟩, h3⟩ := h
    have hb : ∀ k : Nat, (Nat.beq k 0) = decide (k = 0) := fun k => by cases k <;> simp [Nat.beq]
    have hc : ∀ k : Nat, (Nat.beq (k % 2) 1) = decide (k % 2 = 1) := fun k => by
      rcases Nat.mod_two_eq_zero_or_one k with h | h <;> simp [h, Nat.beq]
    simp only [Tr.get_nil, Tr.get_node, hb, hc] at hg
    by_cases h0 : i = 0
    · subst h0
      simp only [decide_true, cond_true] at hg
      rw [hg] at h1
      simpa using h1
    · by_cases h1' : i % 2 = 1
      · simp only [h0, h1', decide_true, decide_false, cond_true, cond_false] at hg
        have := ihl _ _ _ _ h2 hg
        have e : 2 * m * (i / 2) + (m + a) = m * i + a := by
          have : i = 2 * (i / 2) + 1 := by omega
          generalize i / 2 = k at this
          subst this
          rw [Nat.mul_add, Nat.mul_comm 2 m, Nat.mul_assoc]; omega
        rw [e] at this; exact this
      · simp only [h0, h1', decide_false, cond_false] at hg
        have := ihr _ _ _ _ h3 hg
        have e : 2 * m * (i / 2 - 1) + (2 * m + a) = m * i + a := by
          have : i = 2 * (i / 2 - 1) + 2 := by omega
          generalize i / 2 - 1 = k at this
          subst this
          rw [Nat.mul_add, Nat.mul_comm 2 m, Nat.mul_assoc]; omega
        rw [e] at this; exact this

theorem ttok_of {P : Program} {tt : TT} (h : tt.allB (tiB P) 1 0 = true) : TTok P tt := by
  intro t ti ht
  have := Tr.allB_get _ _ _ _ _ h ht
  rw [Nat.one_mul, Nat.add_zero] at this
  exact tiB_ok this

def fiOf (fn : Func) : FI := { ntmps := fn.ntmps, results := fn.results.toList, body := fn.body.getD .skip }

/-- A tree out of a list. -/
def evens {α : Type} : List α → List α
  | [] => []
  | [x] => [x]
  | x :: _ :: xs => x :: evens xs

def odds {α : Type} : List α → List α
  | [] => []
  | [_] => []
  | _ :: y :: xs => y :: odds xs

def treeOf : Nat → List Func → Tr FI
  | 0, _ => .nil
  | _ + 1, [] => .nil
  | n + 1, f :: fs => .node (treeOf n (evens fs)) (match f.body with | some _ => cond (f.name == "runtime.NumGoroutine") none (some (fiOf f)) | none => none) (treeOf n (odds fs))

theorem evens_get {α : Type} : ∀ (l : List α) (i : Nat), (evens l)[i]? = l[2 * i]? := by
  intro l
  induction l using evens.induct with
  | case1 => intro i; simp [evens]
  | case2 x => intro i; cases i <;> simp [evens]
  | case3 x y xs ih =>
    intro i
    cases i with
    | zero => simp [evens]
    | succ i => simp only [evens, List.getElem?_cons_succ, ih]; rw [show 2 * (i + 1) = 2 * i + 1 + 1 by omega]; simp

theorem odds_get {α : Type} : ∀ (l : List α) (i : Nat), (odds l)[i]? = l[2 * i + 1]? := by
  intro l
  induction l using odds.induct with
  | case1 => intro i; simp [odds]
  | case2 x => intro i; simp [odds]
  | case3 x y xs ih =>
    intro i
    cases i with
    | zero => simp [odds]
    | succ i => rw [show 2 * (i + 1) + 1 = 2 * i + 1 + 1 + 1 by omega, List.getElem?_cons_succ, List.getElem?_cons_succ]; simp only [odds, List.getElem?_cons_succ, ih]

theorem treeOf_get : ∀ (n : Nat) (l : List Func) (i : Nat) (fi : FI), (treeOf n l).get i = some fi → ∃ fn, l[i]? = some fn ∧ fi = fiOf fn ∧ fn.body = some fi.body ∧ (fn.name == "runtime.NumGoroutine") = false := by
  intro n
  induction n with
  | zero => intro l i fi h; simp [treeOf, Tr.get_nil] at h
  | succ n ih =>
    intro l i fi h
    cases l with
    | nil => simp [treeOf, Tr.get_nil] at h
    | cons f fs =>
      have hb : ∀ k : Nat, (Nat.beq k 0) = decide (k = 0) := fun k => by cases k <;> simp [Nat.beq]
      have hc : ∀ k : Nat, (Nat.beq (k % 2) 1) = decide (k % 2 = 1) := fun k => by
        rcases Nat.mod_two_eq_zero_or_one k with h | h <;> simp [h, Nat.beq]
      simp only [treeOf, Tr.get_nil, Tr.get_node, hb, hc] at h
      by_cases h0 : i = 0
      · subst h0
        simp only [decide_true, cond_true] at h
        refine ⟨f, rfl, ?_⟩
        cases hbd : f.body with
        | none => rw [hbd] at h; cases h
        | some c =>
          rw [hbd] at h
          simp only at h
          cases hn : (f.name == "runtime.NumGoroutine") with
          | true => rw [hn] at h; cases h
          | false =>
            rw [hn] at h
            simp only [cond_false, Option.some.injEq] at h
            subst h
            exact ⟨rfl, by simp [fiOf, hbd], rfl⟩
      · by_cases h1 : i % 2 = 1
        · simp only [h0, h1, decide_true, decide_false, cond_true, cond_false] at h
          obtain ⟨fn, k1, k2⟩ := ih _ _ _ h
          refine ⟨fn, ?_, k2⟩
          rw [evens_get] at k1
          have : i = 2 * (i / 2) + 1 := by omega
          rw [this]; simpa using k1
        · simp only [h0, h1, decide_false, cond_false] at h
          obtain ⟨fn, k1, k2⟩ := ih _ _ _ h
          refine ⟨fn, ?_, k2⟩
          rw [odds_get] at k1
          have : i = 2 * (i / 2 - 1) + 1 + 1 := by omega
          rw [this]; simpa using k1

def chkAll : List Func → Bool
  | [] => true
  | f :: fs => cond (match f.body with | some c => chk c | none => true) (chkAll fs) false

theorem chkAll_ok : ∀ {l : List Func}, chkAll l = true → ∀ f ∈ l, ∀ c, f.body = some c → chk c = true := by
  intro l
  induction l with
  | nil => intro _ f hf; cases hf
  | cons g gs ih =>
    intro h f hf c hc
    simp only [chkAll] at h
    cases hg : (match g.body with | some c => chk c | none => true) with
    | false => rw [hg] at h; cases h
    | true =>
      rw [hg] at h
      rcases List.mem_cons.1 hf with rfl | hf
      · rw [hc] at hg; exact hg
      · exact ih h f hf c hc

theorem ftok_of {P : Program} {ft : Tr FI} {n : Nat} (h : treeOf n P.funcs.toList = ft) (hc : chkAll P.funcs.toList = true) : FTok P ft := by
  subst h
  intro f fi hf
  obtain ⟨fn, h1, h2, h3, h4⟩ := treeOf_get _ _ _ _ hf
  have h1' : P.funcs[f]? = some fn := by simpa using h1
  refine ⟨fn, h1', h3, by rw [h2]; rfl, by rw [h2]; rfl, h4, chkAll_ok hc fn (List.mem_of_getElem? h1) _ h3, fun i => by rw [h2]; rfl⟩

/-- A call of a law: what the arguments stand for is only read. -/
theorem law_calls {P : Program} (hmx : P.follows .mixedOrders = true) {ft : Tr FI} (hft : FTok P ft) {tt : TT} (htt : TTok P tt) {nt : NT} (hnt : NTok P nt) {ot : OT} (hot : OTok P ot) {lf n k : Nat} {args : List AV} {v : AV} {H' : AH}
    (h : funA ft tt nt ot lf n (.fn k) args { next := 0, tr := .nil, log := [] } = some (v, H')) {F : Fz} {W : World} (hF : ∀ b c, F b = some c → ∃ e fr, W.heap[b]? = some (.cells c e fr)) {cargs : Array Value}
    (ha : ARel (fun _ => none) F args cargs) : Calls P k cargs W (fun e w' => ∃ cv σ' F', e = .returned cv ∧ VRel σ' F' v cv ∧ RowKit.Below W.heap.size W w') := by
  have hr : HR (fun _ => none) F ({ next := 0, tr := .nil, log := [] } : AH).get W :=
    ⟨fun i o hi => by simp [AH.get, Tr.get_nil] at hi, fun i j b c c' o o' hi => by simp [AH.get, Tr.get_nil] at hi, fun i b c o hi => by simp [AH.get, Tr.get_nil] at hi, hF, fun i x hx => by cases hx⟩
  have := ((funA_ok hmx hft htt hnt hot n) _ _ _ _ _ h).2 (fun _ => none) F W cargs ha hr (fun _ _ _ => rfl)
  refine callsIn_wide.1 (CallsIn.mono this.2 ?_)
  rintro e w' ⟨cv, σ', F', rfl, hv, hp⟩
  refine ⟨cv, σ', F', rfl, hv, hp.os, hp.tape, hp.out, hp.size, fun b hb => ?_⟩
  refine hp.frame b hb fun i o c hi _ => ?_
  simp [AH.get, Tr.get_nil] at hi

end
end Go.VM

