/- A logic of abstract states, part 2: the state, what it says of a frame and a world, and how it may be weakened. Conditions: none; over any program. -/
import Derived.Test.YtekogadikjbgcaaGreatDoorA1
namespace Go.Abs
open Go.RowKit (Below)
set_option linter.unusedVariables false

/-- the cells that a box lists: one by one, or published contents (and m cells of which nothing is said behind them): of these no object is spoken -/
inductive Cells where
  | l (cs : List AV)
  | r (xs : List IV) (m : Nat)
def Cells.list : Cells → List AV
  | .l cs => cs
  | .r xs m => xs.map .iv ++ List.replicate m .any
instance : Coe (List AV) Cells := ⟨.l⟩
structure Box where
  ty : TypeId
  c : Cells
def Box.cs (b : Box) : List AV := b.c.list
@[simp] theorem Box.cs_l (ty : TypeId) (cs : List AV) : (Box.mk ty (.l cs)).cs = cs := rfl
@[simp] theorem Box.cs_r (ty : TypeId) (xs : List IV) (m : Nat) : (Box.mk ty (.r xs m)).cs = xs.map .iv ++ List.replicate m .any := rfl
/-- does it speak of object id? -/
def Box.ment (id : Nat) (b : Box) : Bool :=
  match b.c with
  | .l cs => AV.ments id cs
  | .r _ _ => false
theorem ments_app {id : Nat} : ∀ {l m : List AV}, AV.ments id l = false → AV.ments id m = false → AV.ments id (l ++ m) = false
  | [], m, _, h => h
  | x :: l, m, h, h' => by
    simp only [AV.ments, Bool.or_eq_false_iff] at h
    simp only [List.cons_append, AV.ments, Bool.or_eq_false_iff]
    exact ⟨h.1, ments_app h.2 h'⟩
theorem ments_iv (id : Nat) : ∀ xs : List IV, AV.ments id (xs.map .iv) = false
  | [] => rfl
  | x :: xs => by simp [AV.ments, AV.ment, ments_iv id xs]
theorem ments_any (id : Nat) : ∀ m : Nat, AV.ments id (List.replicate m .any) = false
  | 0 => rfl
  | m + 1 => by simp [List.replicate_succ, AV.ments, AV.ment, ments_any id m]
theorem Box.ment_eq (id : Nat) (b : Box) : b.ment id = AV.ments id b.cs := by
  obtain ⟨ty, c⟩ := b
  cases c with
  | l cs => rfl
  | r xs m => exact (ments_app (ments_iv id xs) (ments_any id m)).symm
structure Tok where
  ty : TypeId
  k : Nat
structure St where
  fr : List (Nat × AV)
  bx : List (Nat × Box)
  tk : List (Nat × Tok)

/-- what stays over a whole activation: the number of slots, the world and the environment at the call, the boxes that were handed in -/
structure Ctx where
  nt : Nat
  w0 : World
  E0 : Env
  ins : List Nat
/-- the blocks of the boxes that were handed in -/
def Ctx.M (c : Ctx) (g : Nat) : Prop := ∃ id ∈ c.ins, c.E0.ρ id = g ∧ c.E0.φ g = 0

def BoxOk (E : Env) (w : World) (id : Nat) (b : Box) : Prop :=
  E.φ (E.ρ id) = 0 ∧ ∃ arr : List Value, w.heap[E.ρ id]? = some (.cells arr.toArray b.ty (0, 0)) ∧ b.cs.length ≤ arr.length ∧ (∀ u ∈ arr, u.oneCell' = true) ∧
    (∀ (i : Nat) (c : AV) (u : Value), b.cs[i]? = some c → arr[i]? = some u → RepA E w c u) ∧ ∀ k cap, E.η id = capV k cap → cap * k ≤ arr.length

def TokOk (E : Env) (w : World) (id : Nat) (t : Tok) : Prop :=
  E.η id = .slice none 0 0 ∨
  ∃ (g n cap : Nat) (cur : Array Value), E.η id = .slice (some ⟨g, 0, none⟩) n cap ∧ w.heap[g]? = some (.cells cur t.ty (0, 0)) ∧ n ≤ cap ∧ cap ≤ maxLen ∧
    cur.size = cap * t.k ∧ E.φ g ≤ n * t.k

structure KeptBut (M : Nat → Prop) (w w' : World) : Prop where
  os : w'.os = w.os
  tape : w'.tape = w.tape
  output : w'.output = w.output
  size : w.heap.size ≤ w'.heap.size
  block : ∀ k, k < w.heap.size → ¬ M k → w'.heap[k]? = w.heap[k]?

theorem KeptBut.refl (M : Nat → Prop) (w : World) : KeptBut M w w := ⟨rfl, rfl, rfl, Nat.le_refl _, fun _ _ _ => rfl⟩
theorem KeptBut.below {w w' : World} (h : KeptBut (fun _ => False) w w') : Below w.heap.size w w' := ⟨h.os, h.tape, h.output, h.size, fun k hk => h.block k hk id⟩
theorem KeptBut.ofBelow {M : Nat → Prop} {w w' : World} (h : Below w.heap.size w w') : KeptBut M w w' := ⟨h.os, h.tape, h.output, h.size, fun k hk _ => h.block k hk⟩
theorem KeptBut.next {M : Nat → Prop} {w0 w w' : World} (h : KeptBut M w0 w) (os : w'.os = w.os) (tape : w'.tape = w.tape) (output : w'.output = w.output) (size : w.heap.size ≤ w'.heap.size)
    (block : ∀ k, k < w0.heap.size → ¬ M k → w'.heap[k]? = w.heap[k]?) : KeptBut M w0 w' :=
  ⟨os.trans h.os, tape.trans h.tape, output.trans h.output, Nat.le_trans h.size size, fun k hk hm => (block k hk hm).trans (h.block k hk hm)⟩

/-- the world's part -/
structure HInv (c : Ctx) (E : Env) (bx : List (Nat × Box)) (tk : List (Nat × Tok)) (w : World) : Prop where
  box : ∀ (id : Nat) (b : Box), bx.lookup id = some b → b.cs ≠ [] → BoxOk E w id b
  tok : ∀ (id : Nat) (t : Tok), tk.lookup id = some t → TokOk E w id t
  bb : ∀ (i j : Nat) (b b' : Box), bx.lookup i = some b → bx.lookup j = some b' → b.cs ≠ [] → b'.cs ≠ [] → E.ρ i = E.ρ j → i = j
  tt : ∀ (i j : Nat) (t t' : Tok) (g : Nat), tk.lookup i = some t → tk.lookup j = some t' → (E.η i).ownBlock = some g → (E.η j).ownBlock = some g → i = j
  bt : ∀ (i j : Nat) (b : Box) (t : Tok), bx.lookup i = some b → b.cs ≠ [] → tk.lookup j = some t → (E.η j).ownBlock ≠ some (E.ρ i)
  own : ∀ (i : Nat) (b : Box), bx.lookup i = some b → b.cs ≠ [] → c.w0.heap.size ≤ E.ρ i ∨ c.M (E.ρ i)
  ownt : ∀ (j : Nat) (t : Tok) (g : Nat), tk.lookup j = some t → (E.η j).ownBlock = some g → c.w0.heap.size ≤ g
  new : ∀ b, w.heap.size ≤ b → E.φ b = 0
  old : ∀ b, b < c.w0.heap.size → E.φ b = c.E0.φ b
  ins : ∀ id ∈ c.ins, E.ρ id = c.E0.ρ id ∧ E.η id = c.E0.η id ∧ (bx.lookup id).isSome = true
  kept : KeptBut c.M c.w0 w

structure Inv (c : Ctx) (E : Env) (st : St) (a : Act) (w : World) : Prop where
  defers : a.defers = []
  size : a.tmps.size = c.nt
  slot : ∀ (s : Nat) (v : AV), st.fr.lookup s = some v → RepA E w v (a.tmps.getD s undef)
  heap : HInv c E st.bx st.tk w

def R (c : Ctx) (st : St) (a : Act) (w : World) : Prop := ∃ E, Inv c E st a w

/-- from every frame and world of which st speaks, X -/
def L (c : Ctx) (st : St) (X : Act → World → Prop) : Prop := ∀ a w, R c st a w → X a w

/-! ### weakening -/
def Sub (v v' : AV) : Prop := ∀ (E : Env) (w : World) (u : Value), RepA E w v u → RepA E w v' u
theorem Sub.refl (v : AV) : Sub v v := fun _ _ _ h => h
theorem Sub.any (v : AV) : Sub v .any := fun _ _ _ _ => .any
theorem Sub.row (id : Nat) (es : List (List IV)) : Sub (.row id es) (.iv (.sl es)) := fun _ _ _ h => by cases h with | row hu h => exact .iv h
theorem Sub.nils : Sub .nils (.iv (.sl [])) := fun _ _ _ h => by cases h; exact .iv .nil
theorem Sub.trans {a b c : AV} (h : Sub a b) (k : Sub b c) : Sub a c := fun E w u x => k E w u (h E w u x)

def Subs (l l' : List AV) : Prop := l'.length = l.length ∧ ∀ (i : Nat) (x y : AV), l[i]? = some x → l'[i]? = some y → Sub x y
theorem Subs.nil : Subs [] [] := ⟨rfl, fun i x y h => by simp at h⟩
theorem Subs.cons {x y : AV} {l l' : List AV} (h : Sub x y) (t : Subs l l') : Subs (x :: l) (y :: l') :=
  ⟨by simp [t.1], fun i a b ha hb => by
    cases i with
    | zero => simp at ha hb; subst ha; subst hb; exact h
    | succ i => exact t.2 i a b (by simpa using ha) (by simpa using hb)⟩
theorem Subs.refl (l : List AV) : Subs l l := ⟨rfl, fun i x y h1 h2 => by rw [h1] at h2; cases h2; exact Sub.refl _⟩
theorem Subs.ne {l l' : List AV} (h : Subs l l') (hn : l' ≠ []) : l ≠ [] := fun e => by
  have := h.1; rw [e] at this; exact hn (List.eq_nil_of_length_eq_zero (by simpa using this))
theorem Sub.agg {l l' : List AV} (h : Subs l l') : Sub (.agg l) (.agg l') := fun E w u x => by
  cases x with
  | agg hl h1 hr =>
    refine .agg (by rw [hl, h.1]) h1 (fun i c u hc hu => ?_)
    have hi : i < l.length := by
      have := (List.getElem?_eq_some_iff.1 hc).1
      rw [h.1] at this; exact this
    exact h.2 i _ _ (List.getElem?_eq_getElem hi) hc E w u (hr i _ u (List.getElem?_eq_getElem hi) hu)
theorem Sub.tup {l l' : List AV} (h : Subs l l') : Sub (.tup l) (.tup l') := fun E w u x => by
  cases x with
  | tup hl hr =>
    refine .tup (by rw [hl, h.1]) (fun i c u hc hu => ?_)
    have hi : i < l.length := by
      have := (List.getElem?_eq_some_iff.1 hc).1
      rw [h.1] at this; exact this
    exact h.2 i _ _ (List.getElem?_eq_getElem hi) hc E w u (hr i _ u (List.getElem?_eq_getElem hi) hu)

/-- as a plain published value, where it can be one -/
def AV.pub : AV → AV
  | .row _ es => .iv (.sl es)
  | .nils => .iv (.sl [])
  | .agg cs => .agg (pubs cs)
  | v => v
 where pubs : List AV → List AV
  | [] => []
  | c :: cs => AV.pub c :: pubs cs

mutual
theorem Sub.pub : ∀ v : AV, Sub v v.pub
  | .row id es => Sub.row id es
  | .nils => Sub.nils
  | .agg cs => Sub.agg (Subs.pubs cs)
  | .any => Sub.refl _
  | .iv _ => Sub.refl _
  | .ptr _ _ => Sub.refl _
  | .bsl _ _ _ _ => Sub.refl _
  | .bsh _ _ _ _ => Sub.refl _
  | .el _ => Sub.refl _
  | .tup _ => Sub.refl _
  | .fn _ _ => Sub.refl _
  | .opt _ _ => Sub.refl _
theorem Subs.pubs : ∀ l : List AV, Subs l (AV.pub.pubs l)
  | [] => Subs.nil
  | c :: cs => Subs.cons (Sub.pub c) (Subs.pubs cs)
end

structure Wk (c : Ctx) (st st' : St) : Prop where
  ins : ∀ id ∈ c.ins, (st'.bx.lookup id).isSome = true
  fr : ∀ (s : Nat) (v : AV), st'.fr.lookup s = some v → ∃ v0, st.fr.lookup s = some v0 ∧ Sub v0 v
  bx : ∀ (id : Nat) (b : Box), st'.bx.lookup id = some b → ∃ b0, st.bx.lookup id = some b0 ∧ b0.ty = b.ty ∧ Subs b0.cs b.cs
  tk : ∀ (id : Nat) (t : Tok), st'.tk.lookup id = some t → st.tk.lookup id = some t

theorem BoxOk.sub {E : Env} {w : World} {id : Nat} {b b' : Box} (h : BoxOk E w id b) (ht : b.ty = b'.ty) (hs : Subs b.cs b'.cs) : BoxOk E w id b' := by
  obtain ⟨h0, arr, ha, hl, h1, hr, hη⟩ := h
  refine ⟨h0, arr, by rw [← ht]; exact ha, by rw [hs.1]; exact hl, h1, fun i c u hc hu => ?_, hη⟩
  have hi : i < b.cs.length := by
    have := (List.getElem?_eq_some_iff.1 hc).1
    rw [hs.1] at this; exact this
  exact hs.2 i _ _ (List.getElem?_eq_getElem hi) hc E w u (hr i _ u (List.getElem?_eq_getElem hi) hu)

theorem HInv.wk {c : Ctx} {E : Env} {w : World} {st st' : St} (h : HInv c E st.bx st.tk w) (hw : Wk c st st') : HInv c E st'.bx st'.tk w where
  box id b hb hn := by obtain ⟨b0, h0, ht, hs⟩ := hw.bx id b hb; exact (h.box id b0 h0 (hs.ne hn)).sub ht hs
  tok id t ht := h.tok id t (hw.tk id t ht)
  bb i j b b' hi hj hn hn' he := by
    obtain ⟨b0, h0, _, hs⟩ := hw.bx i b hi
    obtain ⟨b1, h1, _, hs'⟩ := hw.bx j b' hj
    exact h.bb i j b0 b1 h0 h1 (hs.ne hn) (hs'.ne hn') he
  tt i j t t' g hi hj := h.tt i j t t' g (hw.tk i t hi) (hw.tk j t' hj)
  bt i j b t hi hn hj := by
    obtain ⟨b0, h0, _, hs⟩ := hw.bx i b hi
    exact h.bt i j b0 t h0 (hs.ne hn) (hw.tk j t hj)
  own i b hi hn := by obtain ⟨b0, h0, _, hs⟩ := hw.bx i b hi; exact h.own i b0 h0 (hs.ne hn)
  ownt j t g hj := h.ownt j t g (hw.tk j t hj)
  new := h.new
  old := h.old
  ins id hid := ⟨(h.ins id hid).1, (h.ins id hid).2.1, hw.ins id hid⟩
  kept := h.kept

theorem R.wk {c : Ctx} {st st' : St} {a : Act} {w : World} (h : R c st a w) (hw : Wk c st st') : R c st' a w := by
  obtain ⟨E, hi⟩ := h
  exact ⟨E, hi.defers, hi.size, fun s v hv => by obtain ⟨v0, h0, hs⟩ := hw.fr s v hv; exact hs E w _ (hi.slot s v0 h0), hi.heap.wk hw⟩

theorem L.wk {c : Ctx} {st st' : St} {X : Act → World → Prop} (hw : Wk c st st') (h : L c st' X) : L c st X := fun a w hr => h a w (hr.wk hw)
theorem L.mono {c : Ctx} {st : St} {X Y : Act → World → Prop} (h : L c st X) (hxy : ∀ a w, X a w → Y a w) : L c st Y := fun a w hr => hxy a w (h a w hr)

/-- entry by entry -/
inductive WkF (fr : List (Nat × AV)) : List (Nat × AV) → Prop
  | nil : WkF fr []
  | cons {s : Nat} {v v0 : AV} {r : List (Nat × AV)} (h : fr.lookup s = some v0) (hs : Sub v0 v) (t : WkF fr r) : WkF fr ((s, v) :: r)
inductive WkB (bx : List (Nat × Box)) : List (Nat × Box) → Prop
  | nil : WkB bx []
  | cons {id : Nat} {b : Box} {b0 : Box} {r : List (Nat × Box)} (h : bx.lookup id = some b0) (ht : b0.ty = b.ty) (hs : Subs b0.cs b.cs) (t : WkB bx r) : WkB bx ((id, b) :: r)
inductive WkT (tk : List (Nat × Tok)) : List (Nat × Tok) → Prop
  | nil : WkT tk []
  | cons {id : Nat} {t : Tok} {r : List (Nat × Tok)} (h : tk.lookup id = some t) (l : WkT tk r) : WkT tk ((id, t) :: r)

theorem WkF.get {fr fr' : List (Nat × AV)} (h : WkF fr fr') : ∀ (s : Nat) (v : AV), fr'.lookup s = some v → ∃ v0, fr.lookup s = some v0 ∧ Sub v0 v := by
  induction h with
  | nil => intro s v h; simp at h
  | @cons s0 v1 v0 r h hs _ ih =>
    intro s v hl
    by_cases e : s = s0
    · subst e; simp [List.lookup] at hl; subst hl; exact ⟨v0, h, hs⟩
    · have e' : (s == s0) = false := by simpa using e
      exact ih s v (by simpa [List.lookup, e'] using hl)
theorem WkB.get {bx bx' : List (Nat × Box)} (h : WkB bx bx') : ∀ (s : Nat) (v : Box), bx'.lookup s = some v → ∃ v0, bx.lookup s = some v0 ∧ v0.ty = v.ty ∧ Subs v0.cs v.cs := by
  induction h with
  | nil => intro s v h; simp at h
  | @cons s0 v1 v0 r h ht hs _ ih =>
    intro s v hl
    by_cases e : s = s0
    · subst e; simp [List.lookup] at hl; subst hl; exact ⟨v0, h, ht, hs⟩
    · have e' : (s == s0) = false := by simpa using e
      exact ih s v (by simpa [List.lookup, e'] using hl)
theorem WkT.get {tk tk' : List (Nat × Tok)} (h : WkT tk tk') : ∀ (s : Nat) (v : Tok), tk'.lookup s = some v → tk.lookup s = some v := by
  induction h with
  | nil => intro s v h; simp at h
  | @cons s0 v1 r h _ ih =>
    intro s v hl
    by_cases e : s = s0
    · subst e; simp [List.lookup] at hl; subst hl; exact h
    · have e' : (s == s0) = false := by simpa using e
      exact ih s v (by simpa [List.lookup, e'] using hl)

theorem Wk.mk' {c : Ctx} {st : St} {fr : List (Nat × AV)} {bx : List (Nat × Box)} {tk : List (Nat × Tok)} (h0 : ∀ id ∈ c.ins, (bx.lookup id).isSome = true) (h1 : WkF st.fr fr) (h2 : WkB st.bx bx) (h3 : WkT st.tk tk) : Wk c st ⟨fr, bx, tk⟩ :=
  ⟨h0, h1.get, h2.get, h3.get⟩

/-! ### which slots are kept: 'keep' -/
def St.keep (l : List Nat) (st : St) : St := { st with fr := st.fr.filter (fun p => l.contains p.1) }
theorem lookup_filter_key {β : Type} (p : Nat → Bool) : ∀ (l : List (Nat × β)) (s : Nat) (v : β), (l.filter (fun q => p q.1)).lookup s = some v → l.lookup s = some v
  | [], s, v, h => by simp at h
  | (t, u) :: l, s, v, h => by
    by_cases e : s = t
    · subst e
      by_cases hp : p s = true
      · simpa [List.filter_cons, hp, List.lookup] using h
      · simp only [Bool.not_eq_true] at hp
        exfalso
        have : (List.filter (fun q => p q.1) ((s, u) :: l)) = List.filter (fun q => p q.1) l := by simp [hp]
        rw [this] at h
        have hmem : ∀ (m : List (Nat × β)), (m.filter (fun q => p q.1)).lookup s = some v → p s = true := by
          intro m
          induction m with
          | nil => intro h; simp at h
          | cons x m ih =>
            intro h
            by_cases hx : p x.1 = true
            · by_cases e : s = x.1
              · rw [e]; exact hx
              · have e' : (s == x.1) = false := by simpa using e
                obtain ⟨x1, x2⟩ := x
                simp only at hx e'
                exact ih (by simpa [List.filter_cons, hx, List.lookup, e'] using h)
            · simp only [Bool.not_eq_true] at hx
              exact ih (by simpa [List.filter_cons, hx] using h)
        rw [hmem l h] at hp; cases hp
    · have e' : (s == t) = false := by simpa using e
      by_cases hp : p t = true
      · simp only [List.filter_cons, hp, if_true, List.lookup, e'] at h ⊢
        exact lookup_filter_key p l s v h
      · simp only [Bool.not_eq_true] at hp
        simp only [List.filter_cons, hp, List.lookup, e'] at h ⊢
        exact lookup_filter_key p l s v (by simpa using h)
theorem R.keep (l : List Nat) {c : Ctx} {st : St} {a : Act} {w : World} (h : R c st a w) : R c (st.keep l) a w := by
  obtain ⟨E, hi⟩ := h
  exact ⟨E, hi.defers, hi.size, fun s v hv => hi.slot s v (lookup_filter_key (fun n => l.contains n) st.fr s v hv), hi.heap⟩
theorem L.keep (l : List Nat) {c : Ctx} {st : St} {X : Act → World → Prop} (h : L c (st.keep l) X) : L c st X := fun a w hr => h a w (hr.keep l)

end Go.Abs
