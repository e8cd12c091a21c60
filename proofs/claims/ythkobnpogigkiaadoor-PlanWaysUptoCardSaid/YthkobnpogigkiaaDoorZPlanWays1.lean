/- Several texts in one, each with its own sentence ahead of it. Conditions: each one says its own. -/
import Derived.WalkKit
import Derived.Orders
import Derived.Below
import Derived.Deep.DeepAppendWide
/- A logic of abstract states, part 1: what values stand for (published contents, addresses of own blocks, rows that grow). Conditions: none; definitions and lemmas over any world. -/
namespace Go.Abs
open Go.RowKit (Below)
set_option linter.unusedVariables false
inductive IV where
  | im (v : Value)
  | sl (es : List (List IV))
inductive RepI (φ : Nat → Nat) (w : World) : IV → Value → Prop
  | im {v : Value} (h : v.oneCell' = true) : RepI φ w (.im v) v
  | emp {a : Option Addr} {cap : Nat} (hn : a = none → cap = 0) (hm : cap ≤ maxLen) : RepI φ w (.sl []) (.slice a 0 cap)
  | sl {es : List (List IV)} {b o cap k : Nat} (f : Nat → Nat → Value) (hc : es.length ≤ cap) (hm : cap ≤ maxLen)
      (hk : ∀ (i : Nat) (e : List IV), es[i]? = some e → e.length = k)
      (hφ : ∀ (i : Nat) (e : List IV) (j : Nat) (x : IV), es[i]? = some e → e[j]? = some x → o + i * k + j < φ b)
      (hcell : ∀ (i : Nat) (e : List IV) (j : Nat) (x : IV), es[i]? = some e → e[j]? = some x → w.cell? ⟨b, o + i * k + j, none⟩ = some (f i j))
      (hrep : ∀ (i : Nat) (e : List IV) (j : Nat) (x : IV), es[i]? = some e → e[j]? = some x → RepI φ w x (f i j)) :
      RepI φ w (.sl es) (.slice (some ⟨b, o, none⟩) es.length cap)
theorem RepI.nil {φ : Nat → Nat} {w : World} : RepI φ w (.sl []) (.slice none 0 0) := .emp (fun _ => rfl) (Nat.zero_le _)
theorem RepI.oneCell {φ : Nat → Nat} {w : World} {x : IV} {v : Value} (h : RepI φ w x v) : v.oneCell' = true := by
  cases h <;> first | assumption | rfl
theorem RepI.im_eq {φ : Nat → Nat} {w : World} {v u : Value} (h : RepI φ w (.im v) u) : u = v := by
  cases h; rfl
def Keeps (φ : Nat → Nat) (w w' : World) : Prop := ∀ b o, o < φ b → w'.cell? ⟨b, o, none⟩ = w.cell? ⟨b, o, none⟩
theorem RepI.mono {φ φ' : Nat → Nat} {w w' : World} (hk : Keeps φ w w') (hφ : ∀ b, φ b ≤ φ' b) {x : IV} {v : Value} (h : RepI φ w x v) : RepI φ' w' x v := by
  induction h with
  | im h => exact .im h
  | emp hn hm => exact .emp hn hm
  | sl f hc hm hkk hph hcell _ ih =>
    exact .sl f hc hm hkk (fun i e j x h1 h2 => Nat.lt_of_lt_of_le (hph i e j x h1 h2) (hφ _))
      (fun i e j x h1 h2 => (hk _ _ (hph i e j x h1 h2)).trans (hcell i e j x h1 h2)) ih
inductive AV where
  | any
  | iv (x : IV)
  | nils
  | emp
  | row (id : Nat) (es : List (List IV))
  | ptr (id off : Nat)
  | bsl (id off n cap : Nat)
  | bsh (id off n k : Nat)
  | el (cs : List IV)
  | agg (cs : List AV)
  | tup (vs : List AV)
  | fn (f : FuncId) (caps : List AV)
  | opt (c : Bool) (v : AV)
def capV (k cap : Nat) : Value := .tuple #[.int .i64 k, .int .i64 cap]
theorem capV_inj {k cap k' cap' : Nat} (h : capV k cap = capV k' cap') : k = k' ∧ cap = cap' := by
  simp only [capV, Value.tuple.injEq, Array.mk.injEq, List.cons.injEq, Value.int.injEq, true_and, and_true] at h
  omega
structure Env where
  φ : Nat → Nat
  ρ : Nat → Nat
  η : Nat → Value
inductive RepA (E : Env) (w : World) : AV → Value → Prop
  | any {u : Value} : RepA E w .any u
  | iv {x : IV} {u : Value} (h : RepI E.φ w x u) : RepA E w (.iv x) u
  | nils : RepA E w .nils (.slice none 0 0)
  | emp {a : Option Addr} {u : Value} (hu : u = .slice a 0 0) : RepA E w .emp u
  | row {id : Nat} {es : List (List IV)} {u : Value} (hu : u = E.η id) (h : RepI E.φ w (.sl es) u) : RepA E w (.row id es) u
  | ptr {id off : Nat} {u : Value} (hu : u = .pointer (some ⟨E.ρ id, off, none⟩)) : RepA E w (.ptr id off) u
  | bsl {id off n cap o : Nat} {u : Value} (hn : n ≤ cap) (hm : cap ≤ maxLen) (ho : cap ≠ 0 → o = off) (hu : u = .slice (some ⟨E.ρ id, o, none⟩) n cap) : RepA E w (.bsl id off n cap) u
  | bsh {id off n k cap o : Nat} {u : Value} (hn : off + n ≤ cap) (hm : cap ≤ maxLen) (he : E.η id = capV k cap) (ho : cap - off ≠ 0 → o = off * k) (hu : u = .slice (some ⟨E.ρ id, o, none⟩) n (cap - off)) : RepA E w (.bsh id off n k) u
  | el {cs : List IV} {b o : Nat} (f : Nat → Value) (hc : ∀ (j : Nat) (x : IV), cs[j]? = some x → o + j < E.φ b ∧ w.cell? ⟨b, o + j, none⟩ = some (f j))
      (hr : ∀ (j : Nat) (x : IV), cs[j]? = some x → RepI E.φ w x (f j)) : RepA E w (.el cs) (.pointer (some ⟨b, o, none⟩))
  | agg {cs : List AV} {us : List Value} (hl : us.length = cs.length) (h1 : ∀ u ∈ us, u.oneCell' = true)
      (h : ∀ (i : Nat) (c : AV) (u : Value), cs[i]? = some c → us[i]? = some u → RepA E w c u) : RepA E w (.agg cs) (.agg us.toArray)
  | tup {cs : List AV} {us : List Value} (hl : us.length = cs.length)
      (h : ∀ (i : Nat) (c : AV) (u : Value), cs[i]? = some c → us[i]? = some u → RepA E w c u) : RepA E w (.tup cs) (.tuple us.toArray)
  | fn {f : FuncId} {caps : List AV} {us : List Value} (hl : us.length = caps.length)
      (h : ∀ (i : Nat) (c : AV) (u : Value), caps[i]? = some c → us[i]? = some u → RepA E w c u) : RepA E w (.fn f caps) (.func (.func f) #[] us.toArray)
  | optT {v : AV} {u : Value} (h : RepA E w v u) : RepA E w (.opt true v) u
  | optF {v : AV} : RepA E w (.opt false v) undef
mutual
def AV.ment (id : Nat) : AV → Bool
  | .any | .iv _ | .nils | .emp | .el _ => false
  | .row i _ => i == id
  | .ptr i _ => i == id
  | .bsl i _ _ _ => i == id
  | .bsh i _ _ _ => i == id
  | .agg cs => AV.ments id cs
  | .tup cs => AV.ments id cs
  | .fn _ cs => AV.ments id cs
  | .opt _ v => AV.ment id v
def AV.ments (id : Nat) : List AV → Bool
  | [] => false
  | c :: cs => AV.ment id c || AV.ments id cs
end
theorem AV.ments_false {id : Nat} : ∀ {cs : List AV}, AV.ments id cs = false → ∀ (i : Nat) (c : AV), cs[i]? = some c → AV.ment id c = false
  | [], _, i, c, h => by simp at h
  | d :: cs, hm, 0, c, h => by
    simp only [AV.ments, Bool.or_eq_false_iff] at hm
    simp at h; subst h; exact hm.1
  | d :: cs, hm, i + 1, c, h => by
    simp only [AV.ments, Bool.or_eq_false_iff] at hm
    exact AV.ments_false hm.2 i c (by simpa using h)
theorem RepA.mono {E E' : Env} {w w' : World} (hk : Keeps E.φ w w') (hφ : ∀ b, E.φ b ≤ E'.φ b) {v : AV} {u : Value} (h : RepA E w v u) :
    (∀ id, AV.ment id v = true → E'.ρ id = E.ρ id ∧ E'.η id = E.η id) → RepA E' w' v u := by
  induction h with
  | any => exact fun _ => .any
  | iv h => exact fun _ => .iv (h.mono hk hφ)
  | nils => exact fun _ => .nils
  | emp hu => exact fun _ => .emp hu
  | row hu h => exact fun hm => .row (by rw [hu]; exact (hm _ (by simp [AV.ment])).2.symm) (h.mono hk hφ)
  | ptr hu => exact fun hm => .ptr (by rw [hu, (hm _ (by simp [AV.ment])).1])
  | bsl hn hx ho hu => exact fun hm => .bsl hn hx ho (by rw [hu, (hm _ (by simp [AV.ment])).1])
  | bsh hn hx he ho hu => exact fun hm => .bsh hn hx (by rw [(hm _ (by simp [AV.ment])).2]; exact he) ho (by rw [hu, (hm _ (by simp [AV.ment])).1])
  | el f hc hr => exact fun _ => .el f (fun j x hx => ⟨Nat.lt_of_lt_of_le (hc j x hx).1 (hφ _), (hk _ _ (hc j x hx).1).trans (hc j x hx).2⟩) (fun j x hx => (hr j x hx).mono hk hφ)
  | agg hl h1 _ ih =>
    refine fun hm => .agg hl h1 (fun i c u hc hu => ih i c u hc hu (fun id hid => hm id ?_))
    cases hq : AV.ment id (.agg _) with
    | true => rfl
    | false => simp only [AV.ment] at hq; rw [AV.ments_false hq i c hc] at hid; cases hid
  | tup hl _ ih =>
    refine fun hm => .tup hl (fun i c u hc hu => ih i c u hc hu (fun id hid => hm id ?_))
    cases hq : AV.ment id (.tup _) with
    | true => rfl
    | false => simp only [AV.ment] at hq; rw [AV.ments_false hq i c hc] at hid; cases hid
  | fn hl _ ih =>
    refine fun hm => .fn hl (fun i c u hc hu => ih i c u hc hu (fun id hid => hm id ?_))
    cases hq : AV.ment id (.fn _ _) with
    | true => rfl
    | false => simp only [AV.ment] at hq; rw [AV.ments_false hq i c hc] at hid; cases hid
  | optT h ih => exact fun hm => .optT (ih (fun id hid => hm id (by simpa [AV.ment] using hid)))
  | optF => exact fun _ => .optF
theorem RepA.keep {E : Env} {w w' : World} (hk : Keeps E.φ w w') {v : AV} {u : Value} (h : RepA E w v u) : RepA E w' v u :=
  h.mono hk (fun _ => Nat.le_refl _) (fun _ _ => ⟨rfl, rfl⟩)
theorem RepA.iv_im {E : Env} {w : World} {v u : Value} (h : RepA E w (.iv (.im v)) u) : u = v := by
  cases h with | iv h => exact h.im_eq
theorem RepA.iv_inv {E : Env} {w : World} {x : IV} {u : Value} (h : RepA E w (.iv x) u) : RepI E.φ w x u := by
  cases h with | iv h => exact h
theorem RepA.bsl_inv {E : Env} {w : World} {id off n cap : Nat} {u : Value} (h : RepA E w (.bsl id off n cap) u) : ∃ o, u = .slice (some ⟨E.ρ id, o, none⟩) n cap ∧ n ≤ cap ∧ cap ≤ maxLen ∧ (cap ≠ 0 → o = off) := by
  cases h with | bsl hn hm ho h => exact ⟨_, h, hn, hm, ho⟩
theorem RepA.bsh_inv {E : Env} {w : World} {id off n k : Nat} {u : Value} (h : RepA E w (.bsh id off n k) u) : ∃ cap o, u = .slice (some ⟨E.ρ id, o, none⟩) n (cap - off) ∧ off + n ≤ cap ∧ cap ≤ maxLen ∧ E.η id = capV k cap ∧ (cap - off ≠ 0 → o = off * k) := by
  cases h with | bsh hn hm he ho h => exact ⟨_, _, h, hn, hm, he, ho⟩
theorem RepA.ptr_inv {E : Env} {w : World} {id off : Nat} {u : Value} (h : RepA E w (.ptr id off) u) : u = .pointer (some ⟨E.ρ id, off, none⟩) := by
  cases h with | ptr h => exact h
def AV.one : AV → Bool
  | .agg _ | .tup _ | .any | .opt _ _ => false
  | _ => true
theorem RepA.oneCell {E : Env} {w : World} {v : AV} {u : Value} (h : RepA E w v u) (h1 : v.one = true) : u.oneCell' = true := by
  cases h with
  | iv h => exact h.oneCell
  | nils => rfl
  | emp hu => subst hu; rfl
  | row hu h => exact h.oneCell
  | ptr hu => subst hu; rfl
  | bsl hn hx ho hu => subst hu; rfl
  | bsh hn hx he ho hu => subst hu; rfl
  | el => rfl
  | fn => rfl
  | _ => simp [AV.one] at h1
def AV.cells : AV → List AV
  | .agg cs => cs
  | v => [v]
theorem RepA.cells {E : Env} {w : World} {v : AV} {u : Value} (h : RepA E w v u) (h1 : v.one = true ∨ ∃ cs, v = .agg cs) :
    u.cells.toList.length = v.cells.length ∧ (∀ x ∈ u.cells.toList, x.oneCell' = true) ∧
      ∀ (i : Nat) (c : AV) (x : Value), v.cells[i]? = some c → u.cells.toList[i]? = some x → RepA E w c x := by
  rcases h1 with h1 | ⟨cs, rfl⟩
  · have ho := h.oneCell h1
    have e1 : u.cells = #[u] := by cases u <;> first | rfl | simp [Value.oneCell'] at ho
    have e2 : v.cells = [v] := by cases v <;> first | rfl | simp [AV.one] at h1
    rw [e1, e2]
    refine ⟨by simp, by simpa using ho, fun i c x hc hx => ?_⟩
    cases i with
    | zero => simp at hc hx; subst hc; subst hx; exact h
    | succ i => simp at hc
  · cases h with
    | agg hl h1 h => exact ⟨by simpa [AV.cells, Value.cells] using hl, by simpa [Value.cells] using h1, fun i c x hc hx => h i c x hc (by simpa [Value.cells] using hx)⟩
end Go.Abs
/- A logic of abstract states, part 2: the state, what it says of a frame and a world, and how it may be weakened. Conditions: none; over any program. -/
namespace Go.Abs
open Go.RowKit (Below)
set_option linter.unusedVariables false
inductive Cells where
  | l (cs : List AV)
  | r (xs : List IV) (m : Nat)
def Cells.list : Cells → List AV
  | .l cs => cs
  | .r xs m => xs.map .iv ++ List.replicate m .any
instance : Coe (List AV) Cells := ⟨.l⟩
structure Box where
  ty : TypeId
  c : Cells
def Box.cs (b : Box) : List AV := b.c.list
@[simp] theorem Box.cs_l (ty : TypeId) (cs : List AV) : (Box.mk ty (.l cs)).cs = cs := rfl
@[simp] theorem Box.cs_r (ty : TypeId) (xs : List IV) (m : Nat) : (Box.mk ty (.r xs m)).cs = xs.map .iv ++ List.replicate m .any := rfl
def Box.ment (id : Nat) (b : Box) : Bool :=
  match b.c with
  | .l cs => AV.ments id cs
  | .r _ _ => false
theorem ments_app {id : Nat} : ∀ {l m : List AV}, AV.ments id l = false → AV.ments id m = false → AV.ments id (l ++ m) = false
  | [], m, _, h => h
  | x :: l, m, h, h' => by
    simp only [AV.ments, Bool.or_eq_false_iff] at h
    simp only [List.cons_append, AV.ments, Bool.or_eq_false_iff]
    exact ⟨h.1, ments_app h.2 h'⟩
theorem ments_iv (id : Nat) : ∀ xs : List IV, AV.ments id (xs.map .iv) = false
  | [] => rfl
  | x :: xs => by simp [AV.ments, AV.ment, ments_iv id xs]
theorem ments_any (id : Nat) : ∀ m : Nat, AV.ments id (List.replicate m .any) = false
  | 0 => rfl
  | m + 1 => by simp [List.replicate_succ, AV.ments, AV.ment, ments_any id m]
theorem Box.ment_eq (id : Nat) (b : Box) : b.ment id = AV.ments id b.cs := by
  obtain ⟨ty, c⟩ := b
  cases c with
  | l cs => rfl
  | r xs m => exact (ments_app (ments_iv id xs) (ments_any id m)).symm
structure Tok where
  ty : TypeId
  k : Nat
structure St where
  fr : List (Nat × AV)
  bx : List (Nat × Box)
  tk : List (Nat × Tok)
structure Ctx where
  nt : Nat
  w0 : World
  E0 : Env
  ins : List Nat
def Ctx.M (c : Ctx) (g : Nat) : Prop := ∃ id ∈ c.ins, c.E0.ρ id = g ∧ c.E0.φ g = 0
def BoxOk (E : Env) (w : World) (id : Nat) (b : Box) : Prop :=
  E.φ (E.ρ id) = 0 ∧ ∃ arr : List Value, w.heap[E.ρ id]? = some (.cells arr.toArray b.ty (0, 0)) ∧ b.cs.length ≤ arr.length ∧ (∀ u ∈ arr, u.oneCell' = true) ∧
    (∀ (i : Nat) (c : AV) (u : Value), b.cs[i]? = some c → arr[i]? = some u → RepA E w c u) ∧ ∀ k cap, E.η id = capV k cap → cap * k ≤ arr.length
def TokOk (E : Env) (w : World) (id : Nat) (t : Tok) : Prop :=
  E.η id = .slice none 0 0 ∨
  ∃ (g n cap : Nat) (cur : Array Value), E.η id = .slice (some ⟨g, 0, none⟩) n cap ∧ w.heap[g]? = some (.cells cur t.ty (0, 0)) ∧ n ≤ cap ∧ cap ≤ maxLen ∧
    cap * t.k ≤ cur.size ∧ E.φ g ≤ n * t.k
structure KeptBut (M : Nat → Prop) (w w' : World) : Prop where
  os : w'.os = w.os
  tape : w'.tape = w.tape
  output : w'.output = w.output
  size : w.heap.size ≤ w'.heap.size
  block : ∀ k, k < w.heap.size → ¬ M k → w'.heap[k]? = w.heap[k]?
theorem KeptBut.refl (M : Nat → Prop) (w : World) : KeptBut M w w := ⟨rfl, rfl, rfl, Nat.le_refl _, fun _ _ _ => rfl⟩
theorem KeptBut.next {M : Nat → Prop} {w0 w w' : World} (h : KeptBut M w0 w) (os : w'.os = w.os) (tape : w'.tape = w.tape) (output : w'.output = w.output) (size : w.heap.size ≤ w'.heap.size)
    (block : ∀ k, k < w0.heap.size → ¬ M k → w'.heap[k]? = w.heap[k]?) : KeptBut M w0 w' :=
  ⟨os.trans h.os, tape.trans h.tape, output.trans h.output, Nat.le_trans h.size size, fun k hk hm => (block k hk hm).trans (h.block k hk hm)⟩
structure HInv (c : Ctx) (E : Env) (bx : List (Nat × Box)) (tk : List (Nat × Tok)) (w : World) : Prop where
  box : ∀ (id : Nat) (b : Box), bx.lookup id = some b → b.cs ≠ [] → BoxOk E w id b
  tok : ∀ (id : Nat) (t : Tok), tk.lookup id = some t → TokOk E w id t
  bb : ∀ (i j : Nat) (b b' : Box), bx.lookup i = some b → bx.lookup j = some b' → b.cs ≠ [] → b'.cs ≠ [] → E.ρ i = E.ρ j → i = j
  tt : ∀ (i j : Nat) (t t' : Tok) (g : Nat), tk.lookup i = some t → tk.lookup j = some t' → (E.η i).ownBlock = some g → (E.η j).ownBlock = some g → i = j
  bt : ∀ (i j : Nat) (b : Box) (t : Tok), bx.lookup i = some b → b.cs ≠ [] → tk.lookup j = some t → (E.η j).ownBlock ≠ some (E.ρ i)
  own : ∀ (i : Nat) (b : Box), bx.lookup i = some b → b.cs ≠ [] → c.w0.heap.size ≤ E.ρ i ∨ c.M (E.ρ i)
  ownt : ∀ (j : Nat) (t : Tok) (g : Nat), tk.lookup j = some t → (E.η j).ownBlock = some g → c.w0.heap.size ≤ g
  new : ∀ b, w.heap.size ≤ b → E.φ b = 0
  old : ∀ b, b < c.w0.heap.size → E.φ b = c.E0.φ b
  ins : ∀ id ∈ c.ins, E.ρ id = c.E0.ρ id ∧ E.η id = c.E0.η id ∧ (bx.lookup id).isSome = true
  kept : KeptBut c.M c.w0 w
structure Inv (c : Ctx) (E : Env) (st : St) (a : Act) (w : World) : Prop where
  defers : a.defers = []
  size : a.tmps.size = c.nt
  slot : ∀ (s : Nat) (v : AV), st.fr.lookup s = some v → RepA E w v (a.tmps.getD s undef)
  heap : HInv c E st.bx st.tk w
def R (c : Ctx) (st : St) (a : Act) (w : World) : Prop := ∃ E, Inv c E st a w
def L (c : Ctx) (st : St) (X : Act → World → Prop) : Prop := ∀ a w, R c st a w → X a w
def Sub (v v' : AV) : Prop := ∀ (E : Env) (w : World) (u : Value), RepA E w v u → RepA E w v' u
theorem Sub.refl (v : AV) : Sub v v := fun _ _ _ h => h
theorem Sub.row (id : Nat) (es : List (List IV)) : Sub (.row id es) (.iv (.sl es)) := fun _ _ _ h => by cases h with | row hu h => exact .iv h
theorem Sub.nils : Sub .nils (.iv (.sl [])) := fun _ _ _ h => by cases h; exact .iv .nil
theorem Sub.emp : Sub .emp (.iv (.sl [])) := fun _ _ _ h => by
  cases h with
  | emp hu => subst hu; exact .iv (.emp (fun _ => rfl) (Nat.zero_le _))
def Subs (l l' : List AV) : Prop := l'.length = l.length ∧ ∀ (i : Nat) (x y : AV), l[i]? = some x → l'[i]? = some y → Sub x y
theorem Subs.nil : Subs [] [] := ⟨rfl, fun i x y h => by simp at h⟩
theorem Subs.cons {x y : AV} {l l' : List AV} (h : Sub x y) (t : Subs l l') : Subs (x :: l) (y :: l') :=
  ⟨by simp [t.1], fun i a b ha hb => by
    cases i with
    | zero => simp at ha hb; subst ha; subst hb; exact h
    | succ i => exact t.2 i a b (by simpa using ha) (by simpa using hb)⟩
theorem Subs.refl (l : List AV) : Subs l l := ⟨rfl, fun i x y h1 h2 => by rw [h1] at h2; cases h2; exact Sub.refl _⟩
theorem Subs.ne {l l' : List AV} (h : Subs l l') (hn : l' ≠ []) : l ≠ [] := fun e => by
  have := h.1; rw [e] at this; exact hn (List.eq_nil_of_length_eq_zero (by simpa using this))
theorem Sub.agg {l l' : List AV} (h : Subs l l') : Sub (.agg l) (.agg l') := fun E w u x => by
  cases x with
  | agg hl h1 hr =>
    refine .agg (by rw [hl, h.1]) h1 (fun i c u hc hu => ?_)
    have hi : i < l.length := by
      have := (List.getElem?_eq_some_iff.1 hc).1
      rw [h.1] at this; exact this
    exact h.2 i _ _ (List.getElem?_eq_getElem hi) hc E w u (hr i _ u (List.getElem?_eq_getElem hi) hu)
theorem Sub.tup {l l' : List AV} (h : Subs l l') : Sub (.tup l) (.tup l') := fun E w u x => by
  cases x with
  | tup hl hr =>
    refine .tup (by rw [hl, h.1]) (fun i c u hc hu => ?_)
    have hi : i < l.length := by
      have := (List.getElem?_eq_some_iff.1 hc).1
      rw [h.1] at this; exact this
    exact h.2 i _ _ (List.getElem?_eq_getElem hi) hc E w u (hr i _ u (List.getElem?_eq_getElem hi) hu)
def AV.pub : AV → AV
  | .row _ es => .iv (.sl es)
  | .nils => .iv (.sl [])
  | .emp => .iv (.sl [])
  | .agg cs => .agg (pubs cs)
  | v => v
 where pubs : List AV → List AV
  | [] => []
  | c :: cs => AV.pub c :: pubs cs
mutual
theorem Sub.pub : ∀ v : AV, Sub v v.pub
  | .row id es => Sub.row id es
  | .nils => Sub.nils
  | .emp => Sub.emp
  | .agg cs => Sub.agg (Subs.pubs cs)
  | .any => Sub.refl _
  | .iv _ => Sub.refl _
  | .ptr _ _ => Sub.refl _
  | .bsl _ _ _ _ => Sub.refl _
  | .bsh _ _ _ _ => Sub.refl _
  | .el _ => Sub.refl _
  | .tup _ => Sub.refl _
  | .fn _ _ => Sub.refl _
  | .opt _ _ => Sub.refl _
theorem Subs.pubs : ∀ l : List AV, Subs l (AV.pub.pubs l)
  | [] => Subs.nil
  | c :: cs => Subs.cons (Sub.pub c) (Subs.pubs cs)
end
structure Wk (c : Ctx) (st st' : St) : Prop where
  ins : ∀ id ∈ c.ins, (st'.bx.lookup id).isSome = true
  fr : ∀ (s : Nat) (v : AV), st'.fr.lookup s = some v → ∃ v0, st.fr.lookup s = some v0 ∧ Sub v0 v
  bx : ∀ (id : Nat) (b : Box), st'.bx.lookup id = some b → ∃ b0, st.bx.lookup id = some b0 ∧ b0.ty = b.ty ∧ Subs b0.cs b.cs
  tk : ∀ (id : Nat) (t : Tok), st'.tk.lookup id = some t → st.tk.lookup id = some t
theorem BoxOk.sub {E : Env} {w : World} {id : Nat} {b b' : Box} (h : BoxOk E w id b) (ht : b.ty = b'.ty) (hs : Subs b.cs b'.cs) : BoxOk E w id b' := by
  obtain ⟨h0, arr, ha, hl, h1, hr, hη⟩ := h
  refine ⟨h0, arr, by rw [← ht]; exact ha, by rw [hs.1]; exact hl, h1, fun i c u hc hu => ?_, hη⟩
  have hi : i < b.cs.length := by
    have := (List.getElem?_eq_some_iff.1 hc).1
    rw [hs.1] at this; exact this
  exact hs.2 i _ _ (List.getElem?_eq_getElem hi) hc E w u (hr i _ u (List.getElem?_eq_getElem hi) hu)
theorem HInv.wk {c : Ctx} {E : Env} {w : World} {st st' : St} (h : HInv c E st.bx st.tk w) (hw : Wk c st st') : HInv c E st'.bx st'.tk w where
  box id b hb hn := by obtain ⟨b0, h0, ht, hs⟩ := hw.bx id b hb; exact (h.box id b0 h0 (hs.ne hn)).sub ht hs
  tok id t ht := h.tok id t (hw.tk id t ht)
  bb i j b b' hi hj hn hn' he := by
    obtain ⟨b0, h0, _, hs⟩ := hw.bx i b hi
    obtain ⟨b1, h1, _, hs'⟩ := hw.bx j b' hj
    exact h.bb i j b0 b1 h0 h1 (hs.ne hn) (hs'.ne hn') he
  tt i j t t' g hi hj := h.tt i j t t' g (hw.tk i t hi) (hw.tk j t' hj)
  bt i j b t hi hn hj := by
    obtain ⟨b0, h0, _, hs⟩ := hw.bx i b hi
    exact h.bt i j b0 t h0 (hs.ne hn) (hw.tk j t hj)
  own i b hi hn := by obtain ⟨b0, h0, _, hs⟩ := hw.bx i b hi; exact h.own i b0 h0 (hs.ne hn)
  ownt j t g hj := h.ownt j t g (hw.tk j t hj)
  new := h.new
  old := h.old
  ins id hid := ⟨(h.ins id hid).1, (h.ins id hid).2.1, hw.ins id hid⟩
  kept := h.kept
theorem R.wk {c : Ctx} {st st' : St} {a : Act} {w : World} (h : R c st a w) (hw : Wk c st st') : R c st' a w := by
  obtain ⟨E, hi⟩ := h
  exact ⟨E, hi.defers, hi.size, fun s v hv => by obtain ⟨v0, h0, hs⟩ := hw.fr s v hv; exact hs E w _ (hi.slot s v0 h0), hi.heap.wk hw⟩
theorem L.wk {c : Ctx} {st st' : St} {X : Act → World → Prop} (hw : Wk c st st') (h : L c st' X) : L c st X := fun a w hr => h a w (hr.wk hw)
inductive WkF (fr : List (Nat × AV)) : List (Nat × AV) → Prop
  | nil : WkF fr []
  | cons {s : Nat} {v v0 : AV} {r : List (Nat × AV)} (h : fr.lookup s = some v0) (hs : Sub v0 v) (t : WkF fr r) : WkF fr ((s, v) :: r)
inductive WkB (bx : List (Nat × Box)) : List (Nat × Box) → Prop
  | nil : WkB bx []
  | cons {id : Nat} {b : Box} {b0 : Box} {r : List (Nat × Box)} (h : bx.lookup id = some b0) (ht : b0.ty = b.ty) (hs : Subs b0.cs b.cs) (t : WkB bx r) : WkB bx ((id, b) :: r)
inductive WkT (tk : List (Nat × Tok)) : List (Nat × Tok) → Prop
  | nil : WkT tk []
  | cons {id : Nat} {t : Tok} {r : List (Nat × Tok)} (h : tk.lookup id = some t) (l : WkT tk r) : WkT tk ((id, t) :: r)
theorem WkF.get {fr fr' : List (Nat × AV)} (h : WkF fr fr') : ∀ (s : Nat) (v : AV), fr'.lookup s = some v → ∃ v0, fr.lookup s = some v0 ∧ Sub v0 v := by
  induction h with
  | nil => intro s v h; simp at h
  | @cons s0 v1 v0 r h hs _ ih =>
    intro s v hl
    by_cases e : s = s0
    · subst e; simp [List.lookup] at hl; subst hl; exact ⟨v0, h, hs⟩
    · have e' : (s == s0) = false := by simpa using e
      exact ih s v (by simpa [List.lookup, e'] using hl)
theorem WkB.get {bx bx' : List (Nat × Box)} (h : WkB bx bx') : ∀ (s : Nat) (v : Box), bx'.lookup s = some v → ∃ v0, bx.lookup s = some v0 ∧ v0.ty = v.ty ∧ Subs v0.cs v.cs := by
  induction h with
  | nil => intro s v h; simp at h
  | @cons s0 v1 v0 r h ht hs _ ih =>
    intro s v hl
    by_cases e : s = s0
    · subst e; simp [List.lookup] at hl; subst hl; exact ⟨v0, h, ht, hs⟩
    · have e' : (s == s0) = false := by simpa using e
      exact ih s v (by simpa [List.lookup, e'] using hl)
theorem WkT.get {tk tk' : List (Nat × Tok)} (h : WkT tk tk') : ∀ (s : Nat) (v : Tok), tk'.lookup s = some v → tk.lookup s = some v := by
  induction h with
  | nil => intro s v h; simp at h
  | @cons s0 v1 r h _ ih =>
    intro s v hl
    by_cases e : s = s0
    · subst e; simp [List.lookup] at hl; subst hl; exact h
    · have e' : (s == s0) = false := by simpa using e
      exact ih s v (by simpa [List.lookup, e'] using hl)
theorem Wk.mk' {c : Ctx} {st : St} {fr : List (Nat × AV)} {bx : List (Nat × Box)} {tk : List (Nat × Tok)} (h0 : ∀ id ∈ c.ins, (bx.lookup id).isSome = true) (h1 : WkF st.fr fr) (h2 : WkB st.bx bx) (h3 : WkT st.tk tk) : Wk c st ⟨fr, bx, tk⟩ :=
  ⟨h0, h1.get, h2.get, h3.get⟩
theorem lookup_filter_key {β : Type} (p : Nat → Bool) : ∀ (l : List (Nat × β)) (s : Nat) (v : β), (l.filter (fun q => p q.1)).lookup s = some v → l.lookup s = some v
  | [], s, v, h => by simp at h
  | (t, u) :: l, s, v, h => by
    by_cases e : s = t
    · subst e
      by_cases hp : p s = true
      · simpa [List.filter_cons, hp, List.lookup] using h
      · simp only [Bool.not_eq_true] at hp
        exfalso
        have : (List.filter (fun q => p q.1) ((s, u) :: l)) = List.filter (fun q => p q.1) l := by simp [hp]
        rw [this] at h
        have hmem : ∀ (m : List (Nat × β)), (m.filter (fun q => p q.1)).lookup s = some v → p s = true := by
          intro m
          induction m with
          | nil => intro h; simp at h
          | cons x m ih =>
            intro h
            by_cases hx : p x.1 = true
            · by_cases e : s = x.1
              · rw [e]; exact hx
              · have e' : (s == x.1) = false := by simpa using e
                obtain ⟨x1, x2⟩ := x
                simp only at hx e'
                exact ih (by simpa [List.filter_cons, hx, List.lookup, e'] using h)
            · simp only [Bool.not_eq_true] at hx
              exact ih (by simpa [List.filter_cons, hx] using h)
        rw [hmem l h] at hp; cases hp
    · have e' : (s == t) = false := by simpa using e
      by_cases hp : p t = true
      · simp only [List.filter_cons, hp, if_true, List.lookup, e'] at h ⊢
        exact lookup_filter_key p l s v h
      · simp only [Bool.not_eq_true] at hp
        simp only [List.filter_cons, hp, List.lookup, e'] at h ⊢
        exact lookup_filter_key p l s v (by simpa using h)
end Go.Abs
/- A logic of abstract states, part 3: operations that hand back a value and leave the world alone. Conditions: each rule's own premises; over any program. -/
namespace Go.Abs
open Go.RowKit (Below)
set_option linter.unusedVariables false
abbrev S (l : List UInt8) : IV := .im (.string ⟨l.toArray⟩)
abbrev I (n : Int) : IV := .im (.int .i64 n)
abbrev B (b : Bool) : IV := .im (.bool b)
abbrev aS (l : List UInt8) : AV := .iv (.im (.string ⟨l.toArray⟩))
abbrev aI (n : Int) : AV := .iv (.im (.int .i64 n))
abbrev aB (b : Bool) : AV := .iv (.im (.bool b))
def constCell : Value → AV
  | .slice none 0 0 => .nils
  | v => .iv (.im v)
def constAV : Value → AV
  | .slice none 0 0 => .nils
  | .agg cs => if cs.toList.all (·.oneCell') then .agg (cs.toList.map constCell) else .any
  | .tuple _ => .any
  | v => .iv (.im v)
theorem constCell_rep (E : Env) (w : World) (v : Value) (h : v.oneCell' = true) : RepA E w (constCell v) v := by
  unfold constCell; split
  · exact .nils
  · exact .iv (.im h)
theorem constAV_rep (E : Env) (w : World) (v : Value) : RepA E w (constAV v) v := by
  unfold constAV; split
  · exact .nils
  · rename_i cs
    split
    · rename_i hall
      have : (Value.agg cs) = .agg cs.toList.toArray := by simp
      rw [this]
      refine .agg (by simp) (fun u hu => by simpa using List.all_eq_true.1 hall u hu) (fun i c u hc hu => ?_)
      simp only [List.getElem?_map] at hc
      rw [hu] at hc
      simp at hc; subst hc
      exact constCell_rep E w u (List.all_eq_true.1 hall u (List.mem_of_getElem? hu))
    · exact .any
  · exact .any
  · rename_i h1 h2 h3
    exact .iv (.im (by cases v <;> first | rfl | (exact (h2 _ rfl).elim) | (exact (h3 _ rfl).elim)))
def AV.strip : AV → AV
  | .opt true v => v.strip
  | v => v
theorem RepA.strip {E : Env} {w : World} : ∀ {v : AV} {u : Value}, RepA E w v u → RepA E w v.strip u
  | .opt true v, u, h => by cases h with | optT h => exact RepA.strip (v := v) h
  | .opt false v, u, h => h
  | .any, u, h => h
  | .iv _, u, h => h
  | .nils, u, h => h
  | .emp, u, h => h
  | .row _ _, u, h => h
  | .ptr _ _, u, h => h
  | .bsl _ _ _ _, u, h => h
  | .bsh _ _ _ _, u, h => h
  | .el _, u, h => h
  | .agg _, u, h => h
  | .tup _, u, h => h
  | .fn _ _, u, h => h
def St.ev (st : St) : Operand → AV
  | .tmp t => match st.fr.lookup t with
    | some v => v.strip
    | none => .any
  | .const v => constAV v
  | .func f => .fn f []
  | .global _ => .any
theorem Inv.ev {c : Ctx} {E : Env} {st : St} {a : Act} {w : World} (h : Inv c E st a w) (x : Operand) : RepA E w (st.ev x) (a.eval x) := by
  cases x with
  | tmp t =>
    simp only [St.ev, Act.eval]
    split
    · rename_i v hv; exact (h.slot t v hv).strip
    · exact .any
  | const v => exact constAV_rep E w v
  | global g => exact .any
  | func f => exact .fn (us := []) rfl (fun i c u hc hu => by simp at hc)
theorem Inv.put {c : Ctx} {E : Env} {st : St} {a : Act} {w : World} (h : Inv c E st a w) {d : Nat} (hd : d < c.nt) {v : AV} {u : Value} (hr : RepA E w v u) :
    Inv c E ⟨(d, v) :: st.fr, st.bx, st.tk⟩ (a.put (some d) u) w := by
  refine ⟨h.defers, by simpa [Act.put] using h.size, fun s v' hv => ?_, h.heap⟩
  by_cases e : s = d
  · subst e
    simp [List.lookup] at hv; subst hv
    have : s < a.tmps.size := by rw [h.size]; exact hd
    simpa [Act.put, this] using hr
  · have e' : (s == d) = false := by simpa using e
    have := h.slot s v' (by simpa [List.lookup, e'] using hv)
    have hne : d ≠ s := fun x => e x.symm
    simpa [Act.put, Array.getElem?_setIfInBounds_ne hne] using this
section
variable {P : Program} {c : Ctx} {st : St} {ops : Array Oper} {Q : Exit → Act → World → Prop} {rest : List Oper} {o : Oper}
def Yields (P : Program) (c : Ctx) (st : St) (o : Oper) (v : AV) : Prop :=
  ∀ (E : Env) (a : Act) (w : World), Inv c E st a w → ∃ u, (execOp a.eval o).run P w = .ok (.value u) w ∧ RepA E w v u
theorem Oper.wp_value {a : Act} {w w' : World} {K : Act → World → Prop} {u : Value} (hr : (execOp a.eval o).run P w = .ok (.value u) w') (h : K (a.put o.dst u) w') : o.wp P a w K Q := by
  unfold Oper.wp; rw [hr]; exact h
theorem L.val {d : Nat} {v : AV} (hg : o.guard = none) (hd : o.dst = some d) (hlt : Nat.ble (d + 1) c.nt = true) (hy : Yields P c st o v)
    (h : L c ⟨(d, v) :: st.fr, st.bx, st.tk⟩ (wpList P ops Q rest)) : L c st (wpList P ops Q (o :: rest)) := by
  rintro a w ⟨E, hi⟩
  obtain ⟨u, hr, hv⟩ := hy E a w hi
  refine wpList_plain hg (fun K hK => Oper.wp_value hr (hK _ _ ?_))
  rw [hd]
  exact h _ _ ⟨E, hi.put (Nat.le_of_ble_eq_true hlt) hv⟩
theorem L.nil (h : L c st (Q .normal)) : L c st (wpList P ops Q []) := h
theorem L.guardDo {dst : Option Tmp} {op : Op} {ty : TypeId} {pos : String} {after : Array Edge} {j s : Nat} {b : Bool}
    (hj : (ops[j]?).bind (·.dst) = some s) (hb : st.ev (.tmp s) = aB b)
    (h : L c st (wpList P ops Q (⟨dst, op, ty, pos, after, none⟩ :: rest))) : L c st (wpList P ops Q (⟨dst, op, ty, pos, after, some (j, b)⟩ :: rest)) := by
  rintro a w hr
  have h' := h a w hr
  obtain ⟨E, hi⟩ := hr
  have hv := (hi.ev (.tmp s))
  rw [hb] at hv
  have hq := hv.iv_im
  have hy : yielded ops a.tmps j = some b := by
    simp only [yielded, hj, Option.bind_some]
    simp only [Act.eval, Array.getD_eq_getD_getElem?] at hq
    cases hx : a.tmps[s]? with
    | none => rw [hx] at hq; simp [undef] at hq
    | some x => rw [hx] at hq; simp at hq; subst hq; rfl
  unfold wpList at h' ⊢
  simp only [Region.wanted, if_true, hy] at h' ⊢
  rw [if_pos (by simp)]
  exact h'
theorem L.guardSkip {d : Nat} {op : Op} {ty : TypeId} {pos : String} {after : Array Edge} {j s : Nat} {b b' : Bool} (hlt : Nat.ble (d + 1) c.nt = true)
    (hj : (ops[j]?).bind (·.dst) = some s) (hb : st.ev (.tmp s) = aB b') (hne : b' ≠ b)
    (h : L c ⟨(d, .opt false .any) :: st.fr, st.bx, st.tk⟩ (wpList P ops Q rest)) : L c st (wpList P ops Q (⟨some d, op, ty, pos, after, some (j, b)⟩ :: rest)) := by
  rintro a w ⟨E, hi⟩
  have hv := (hi.ev (.tmp s))
  rw [hb] at hv
  have hq := hv.iv_im
  have hy : yielded ops a.tmps j = some b' := by
    simp only [yielded, hj, Option.bind_some]
    simp only [Act.eval, Array.getD_eq_getD_getElem?] at hq
    cases hx : a.tmps[s]? with
    | none => rw [hx] at hq; simp [undef] at hq
    | some x => rw [hx] at hq; simp at hq; subst hq; rfl
  unfold wpList
  simp only [Region.wanted, hy]
  rw [if_neg (by simpa using hne)]
  exact h _ _ ⟨E, hi.put (Nat.le_of_ble_eq_true hlt) .optF⟩
theorem L.guardSkipU {d : Nat} {op : Op} {ty : TypeId} {pos : String} {after : Array Edge} {j s : Nat} {b : Bool} (hlt : Nat.ble (d + 1) c.nt = true)
    (hj : (ops[j]?).bind (·.dst) = some s) (hb : st.ev (.tmp s) = .opt false .any)
    (h : L c ⟨(d, .opt false .any) :: st.fr, st.bx, st.tk⟩ (wpList P ops Q rest)) : L c st (wpList P ops Q (⟨some d, op, ty, pos, after, some (j, b)⟩ :: rest)) := by
  rintro a w ⟨E, hi⟩
  have hv := (hi.ev (.tmp s))
  rw [hb] at hv
  have hq : a.eval (.tmp s) = undef := by generalize a.eval (.tmp s) = u at hv; cases hv; rfl
  have hy : yielded ops a.tmps j = none := by
    simp only [yielded, hj, Option.bind_some]
    simp only [Act.eval, Array.getD_eq_getD_getElem?] at hq
    cases hx : a.tmps[s]? with
    | none => rfl
    | some x => rw [hx] at hq; simp at hq; subst hq; rfl
  unfold wpList
  simp only [Region.wanted, hy]
  rw [if_neg (by simp)]
  exact h _ _ ⟨E, hi.put (Nat.le_of_ble_eq_true hlt) .optF⟩
theorem Yields.of_eval {x : Operand} (h : ∀ a : Act, (execOp a.eval o) = pure (.value (a.eval x))) : Yields P c st o (st.ev x) :=
  fun E a w hi => ⟨_, by rw [h a]; rfl, hi.ev x⟩
theorem Yields.move {x : Operand} (ho : o.op = .move x) : Yields P c st o (st.ev x) := .of_eval fun a => by simp [execOp, ho]
theorem Yields.assign {x : Operand} (ho : o.op = .assign x) : Yields P c st o (st.ev x) := .of_eval fun a => by simp [execOp, ho]
theorem Yields.pickT {x y z : Operand} (ho : o.op = .pick x y z) (hx : st.ev x = aB true) : Yields P c st o (st.ev y) := fun E a w hi => by
  have h := hi.ev x; rw [hx] at h
  exact ⟨_, by simp [execOp, ho, h.iv_im, asBool], hi.ev y⟩
theorem Yields.pickF {x y z : Operand} (ho : o.op = .pick x y z) (hx : st.ev x = aB false) : Yields P c st o (st.ev z) := fun E a w hi => by
  have h := hi.ev x; rw [hx] at h
  exact ⟨_, by simp [execOp, ho, h.iv_im, asBool], hi.ev z⟩
theorem Yields.im {u : Value} (h1 : u.oneCell' = true) (h : ∀ (E : Env) (a : Act) (w : World), Inv c E st a w → (execOp a.eval o).run P w = .ok (.value u) w) : Yields P c st o (.iv (.im u)) :=
  fun E a w hi => ⟨u, h E a w hi, .iv (.im h1)⟩
theorem Inv.im {E : Env} {a : Act} {w : World} (hi : Inv c E st a w) {x : Operand} {u : Value} (hx : st.ev x = .iv (.im u)) : a.eval x = u := by
  have h := hi.ev x; rw [hx] at h; exact h.iv_im
theorem Yields.addI {x y : Operand} {t t' : TypeId} {m n : Int} (ho : o.op = .binOp .add t x y t') (hx : st.ev x = aI m) (hy : st.ev y = aI n)
    (hlo : -9223372036854775808 ≤ m + n) (hhi : m + n ≤ 9223372036854775807) : Yields P c st o (aI (m + n)) :=
  .im rfl fun E a w hi => by
    have : IntKind.i64.wrap (m + n) = m + n := IntWalk.i64_in _ ⟨hlo, hhi⟩
    simp [execOp, ho, hi.im hx, hi.im hy, eqGuard, binOp, Op.intArith, this]
theorem Yields.subI {x y : Operand} {t t' : TypeId} {m n : Int} (ho : o.op = .binOp .sub t x y t') (hx : st.ev x = aI m) (hy : st.ev y = aI n)
    (hlo : -9223372036854775808 ≤ m - n) (hhi : m - n ≤ 9223372036854775807) : Yields P c st o (aI (m - n)) :=
  .im rfl fun E a w hi => by
    have : IntKind.i64.wrap (m - n) = m - n := IntWalk.i64_in _ ⟨hlo, hhi⟩
    simp [execOp, ho, hi.im hx, hi.im hy, eqGuard, binOp, Op.intArith, this]
theorem Yields.eqlI {x y : Operand} {t t' : TypeId} {k : IntKind} {m n : Int} (ho : o.op = .binOp .eql t x y t') (hx : st.ev x = .iv (.im (.int k m))) (hy : st.ev y = .iv (.im (.int k n))) : Yields P c st o (aB (m == n)) :=
  .im rfl fun E a w hi => by simp [execOp, ho, hi.im hx, hi.im hy, eqGuard, binOp, Op.intCmp]
theorem Yields.neqI {x y : Operand} {t t' : TypeId} {k : IntKind} {m n : Int} (ho : o.op = .binOp .neq t x y t') (hx : st.ev x = .iv (.im (.int k m))) (hy : st.ev y = .iv (.im (.int k n))) : Yields P c st o (aB (m != n)) :=
  .im rfl fun E a w hi => by simp [execOp, ho, hi.im hx, hi.im hy, eqGuard, binOp, Op.intCmp]
theorem Yields.lssI {x y : Operand} {t t' : TypeId} {k : IntKind} {m n : Int} (ho : o.op = .binOp .lss t x y t') (hx : st.ev x = .iv (.im (.int k m))) (hy : st.ev y = .iv (.im (.int k n))) : Yields P c st o (aB (decide (m < n))) :=
  .im rfl fun E a w hi => by simp [execOp, ho, hi.im hx, hi.im hy, eqGuard, binOp, Op.intCmp]
theorem Yields.leqI {x y : Operand} {t t' : TypeId} {k : IntKind} {m n : Int} (ho : o.op = .binOp .leq t x y t') (hx : st.ev x = .iv (.im (.int k m))) (hy : st.ev y = .iv (.im (.int k n))) : Yields P c st o (aB (decide (m ≤ n))) :=
  .im rfl fun E a w hi => by simp [execOp, ho, hi.im hx, hi.im hy, eqGuard, binOp, Op.intCmp]
theorem Yields.gtrI {x y : Operand} {t t' : TypeId} {k : IntKind} {m n : Int} (ho : o.op = .binOp .gtr t x y t') (hx : st.ev x = .iv (.im (.int k m))) (hy : st.ev y = .iv (.im (.int k n))) : Yields P c st o (aB (decide (n < m))) :=
  .im rfl fun E a w hi => by simp [execOp, ho, hi.im hx, hi.im hy, eqGuard, binOp, Op.intCmp]
theorem Yields.geqI {x y : Operand} {t t' : TypeId} {k : IntKind} {m n : Int} (ho : o.op = .binOp .geq t x y t') (hx : st.ev x = .iv (.im (.int k m))) (hy : st.ev y = .iv (.im (.int k n))) : Yields P c st o (aB (decide (n ≤ m))) :=
  .im rfl fun E a w hi => by simp [execOp, ho, hi.im hx, hi.im hy, eqGuard, binOp, Op.intCmp]
theorem Yields.arith {x y : Operand} {t t' : TypeId} {op : BinOp} {k : IntKind} {m n r : Int} (ho : o.op = .binOp op t x y t') (hx : st.ev x = .iv (.im (.int k m))) (hy : st.ev y = .iv (.im (.int k n)))
    (hr : ∀ w, (binOp op t (.int k m) (.int k n)).run P w = .ok (.int k r) w) (hq : ∀ w, (eqGuard op t x y (.int k m) (.int k n)).run P w = .ok () w) : Yields P c st o (.iv (.im (.int k r))) :=
  .im rfl fun E a w hi => by simp [execOp, ho, hi.im hx, hi.im hy, hr, hq]
theorem Yields.conv {x : Operand} {s t : TypeId} {k k' : IntKind} {m : Int} (ho : o.op = .convert s t x) (hx : st.ev x = .iv (.im (.int k m)))
    (ht : P.underlying t = some (.int k')) (hs : (P.underlying s).isSome = true) : Yields P c st o (.iv (.im (.int k' (k'.wrap m)))) :=
  .im rfl fun E a w hi => by
    obtain ⟨d, hd⟩ := Option.isSome_iff_exists.1 hs
    simp [execOp, ho, hi.im hx, convert, run_underlying hd, run_underlying ht, Conv.intToInt]
theorem Yields.not {x : Operand} {t : TypeId} {b : Bool} (ho : o.op = .unOp .not t x) (hx : st.ev x = aB b) : Yields P c st o (aB (!b)) :=
  .im rfl fun E a w hi => by simp [execOp, ho, hi.im hx, Op.unary]
theorem Yields.eqlS {x y : Operand} {t t' : TypeId} {m n : List UInt8} (ho : o.op = .binOp .eql t x y t') (hx : st.ev x = aS m) (hy : st.ev y = aS n) : Yields P c st o (aB (m == n)) :=
  .im rfl fun E a w hi => by simp [execOp, ho, hi.im hx, hi.im hy, eqGuard, binOp, Op.stringOp]
theorem Yields.neqS {x y : Operand} {t t' : TypeId} {m n : List UInt8} (ho : o.op = .binOp .neq t x y t') (hx : st.ev x = aS m) (hy : st.ev y = aS n) : Yields P c st o (aB (!(m == n))) :=
  .im rfl fun E a w hi => by simp [execOp, ho, hi.im hx, hi.im hy, eqGuard, binOp, Op.stringOp]
theorem Yields.lssS {x y : Operand} {t t' : TypeId} {m n : List UInt8} (ho : o.op = .binOp .lss t x y t') (hx : st.ev x = aS m) (hy : st.ev y = aS n) : Yields P c st o (aB (Op.bytesLess m n)) :=
  .im rfl fun E a w hi => by simp [execOp, ho, hi.im hx, hi.im hy, eqGuard, binOp, Op.stringOp]
theorem Yields.leqS {x y : Operand} {t t' : TypeId} {m n : List UInt8} (ho : o.op = .binOp .leq t x y t') (hx : st.ev x = aS m) (hy : st.ev y = aS n) : Yields P c st o (aB (Op.bytesLess m n || m == n)) :=
  .im rfl fun E a w hi => by simp [execOp, ho, hi.im hx, hi.im hy, eqGuard, binOp, Op.stringOp]
theorem Yields.gtrS {x y : Operand} {t t' : TypeId} {m n : List UInt8} (ho : o.op = .binOp .gtr t x y t') (hx : st.ev x = aS m) (hy : st.ev y = aS n) : Yields P c st o (aB (!(Op.bytesLess m n || m == n))) :=
  .im rfl fun E a w hi => by simp [execOp, ho, hi.im hx, hi.im hy, eqGuard, binOp, Op.stringOp]
theorem Yields.geqS {x y : Operand} {t t' : TypeId} {m n : List UInt8} (ho : o.op = .binOp .geq t x y t') (hx : st.ev x = aS m) (hy : st.ev y = aS n) : Yields P c st o (aB (!(Op.bytesLess m n))) :=
  .im rfl fun E a w hi => by simp [execOp, ho, hi.im hx, hi.im hy, eqGuard, binOp, Op.stringOp]
theorem Yields.addS {x y : Operand} {t t' : TypeId} {m n : List UInt8} (ho : o.op = .binOp .add t x y t') (hx : st.ev x = aS m) (hy : st.ev y = aS n) (hl : m.length + n.length ≤ 9223372036854775807) : Yields P c st o (aS (m ++ n)) :=
  .im rfl fun E a w hi => by
    have h1 : ¬ (((m.length + n.length : Nat) : Int) > IntKind.i64.max) := by simp [IntKind.max, IntKind.signed, IntKind.bits]; omega
    have h2 : ((ByteArray.mk m.toArray) ++ (ByteArray.mk n.toArray)) = ByteArray.mk (m ++ n).toArray := by
      apply ByteArray.ext; simp
    simp only [execOp, ho, hi.im hx, hi.im hy, eqGuard, binOp, Op.stringOp, ByteArray.size, List.size_toArray, h1, if_false, h2]
    simp
theorem Yields.lenS {x : Operand} {t : TypeId} {m : List UInt8} (ho : o.op = .call { callee := .builtin .len, args := #[x], argTypes := #[t] }) (hx : st.ev x = aS m)
    (ht : P.underlying t = some .string) : Yields P c st o (aI m.length) :=
  .im rfl fun E a w hi => by simp [execOp, ho, resolve, invoke, builtin, hi.im hx, run_len_string w t _ _ ht, goInt, ByteArray.size]
theorem Yields.indexS {x i : Operand} {t : TypeId} {m : List UInt8} {k : IntKind} {n : Int} {b : UInt8} (ho : o.op = .index t x i) (hx : st.ev x = aS m) (hi' : st.ev i = .iv (.im (.int k n)))
    (ht : P.underlying t = some .string) (h0 : 0 ≤ n) (hb : m[n.toNat]? = some b) : Yields P c st o (.iv (.im (.int .u8 b.toNat))) :=
  .im rfl fun E a w hi => by
    have : (ByteArray.mk m.toArray)[n.toNat]? = some b := by
      have hlt := (List.getElem?_eq_some_iff.1 hb).1
      rw [ByteArray.getElem?_lt' _ _ (by simpa [ByteArray.size] using hlt)]
      rw [← hb]
      simp [hlt]
      rfl
    simp [execOp, ho, hi.im hx, hi.im hi', Instr.index, asIntOf, run_underlying ht, h0, this]
end
end Go.Abs
/- A logic of abstract states, part 4: memory: addresses, loads, stores, new blocks, literals of structs and slices. Conditions: each rule's own premises; over any program. -/
namespace Go.Abs
open Go.RowKit (Below)
set_option linter.unusedVariables false
def RelL (E : Env) (w : World) (cs : List AV) (us : List Value) : Prop :=
  us.length = cs.length ∧ ∀ (i : Nat) (c : AV) (u : Value), cs[i]? = some c → us[i]? = some u → RepA E w c u
theorem RelL.nil (E : Env) (w : World) : RelL E w [] [] := ⟨rfl, fun i c u h => by simp at h⟩
theorem RelL.append {E : Env} {w : World} {a b : List AV} {x y : List Value} (h : RelL E w a x) (k : RelL E w b y) : RelL E w (a ++ b) (x ++ y) := by
  refine ⟨by simp [h.1, k.1], fun i c u hc hu => ?_⟩
  by_cases hi : i < a.length
  · rw [List.getElem?_append_left hi] at hc
    rw [List.getElem?_append_left (by rw [h.1]; exact hi)] at hu
    exact h.2 i c u hc hu
  · rw [List.getElem?_append_right (by omega)] at hc
    rw [List.getElem?_append_right (by rw [h.1]; omega), h.1] at hu
    exact k.2 _ c u hc hu
theorem RelL.take {E : Env} {w : World} {a : List AV} {x : List Value} (h : RelL E w a x) (n : Nat) : RelL E w (a.take n) (x.take n) := by
  refine ⟨by simp [h.1], fun i c u hc hu => ?_⟩
  rw [List.getElem?_take] at hc hu
  split at hc
  · rename_i hi; rw [if_pos hi] at hu; exact h.2 i c u hc hu
  · cases hc
theorem RelL.drop {E : Env} {w : World} {a : List AV} {x : List Value} (h : RelL E w a x) (n : Nat) : RelL E w (a.drop n) (x.drop n) := by
  refine ⟨by simp [h.1], fun i c u hc hu => ?_⟩
  rw [List.getElem?_drop] at hc hu
  exact h.2 _ c u hc hu
theorem RelL.keep {E : Env} {w w' : World} (hk : Keeps E.φ w w') {a : List AV} {x : List Value} (h : RelL E w a x) : RelL E w' a x :=
  ⟨h.1, fun i c u hc hu => (h.2 i c u hc hu).keep hk⟩
theorem RelL.consts (E : Env) (w : World) : ∀ (us : List Value), us.all (·.oneCell') = true → RelL E w (us.map constCell) us
  | us, h => ⟨by simp, fun i c u hc hu => by
      simp only [List.getElem?_map] at hc
      rw [hu] at hc
      simp at hc; subst hc
      exact constCell_rep E w u (List.all_eq_true.1 h u (List.mem_of_getElem? hu))⟩
theorem RelL.agg {E : Env} {w : World} {cs : List AV} {us : List Value} (h : RelL E w cs us) (h1 : ∀ u ∈ us, u.oneCell' = true) : RepA E w (.agg cs) (.agg us.toArray) := .agg h.1 h1 h.2
theorem RepA.agg_inv {E : Env} {w : World} {cs : List AV} {u : Value} (h : RepA E w (.agg cs) u) : ∃ us : List Value, u = .agg us.toArray ∧ RelL E w cs us ∧ ∀ u ∈ us, u.oneCell' = true := by
  cases h with
  | agg hl h1 h => exact ⟨_, rfl, ⟨hl, h⟩, h1⟩
theorem RepA.tup_inv {E : Env} {w : World} {cs : List AV} {u : Value} (h : RepA E w (.tup cs) u) : ∃ us : List Value, u = .tuple us.toArray ∧ RelL E w cs us := by
  cases h with
  | tup hl h => exact ⟨_, rfl, ⟨hl, h⟩⟩
def AV.lays : AV → Bool
  | .agg _ => true
  | v => v.one
theorem RepA.lay {E : Env} {w : World} {v : AV} {u : Value} (h : RepA E w v u) (h1 : v.lays = true) : RelL E w v.cells u.cells.toList ∧ ∀ x ∈ u.cells.toList, x.oneCell' = true := by
  have := h.cells (by cases v <;> first | exact .inl h1 | exact .inr ⟨_, rfl⟩)
  exact ⟨⟨this.1, this.2.2⟩, this.2.1⟩
theorem Addr.add_none (b o n : Nat) : (⟨b, o, none⟩ : Addr).add n = ⟨b, o + n, none⟩ := by unfold Addr.add; split <;> simp_all
def fieldOk (P : Program) (s : TypeId) (f fo : Nat) : Bool :=
  match P.underlying s with
  | some (.struct fs) => match fs[f]? with
    | some fd => fd.offset == fo && (match P.info? fd.type with | some i => i.size != 0 | none => false)
    | none => false
  | _ => false
def varOk (P : Program) (t : TypeId) (agg : Bool) (k : Nat) : Bool :=
  match P.underlying t, P.info? t with
  | some d, some i => (match d with | .struct _ | .array _ _ => true | _ => false) == agg && i.size == k
  | _, _ => false
def sliceOk (P : Program) (t e : TypeId) (k : Nat) : Bool :=
  (match P.underlying t with | some (.slice e') => e' == e | _ => false) && (match P.info? e with | some i => i.size == k | none => false)
theorem run_fieldAt {P : Program} {s : TypeId} {f fo : Nat} (h : fieldOk P s f fo = true) (b o : Nat) (w : World) :
    (Instr.fieldAt s (.pointer (some ⟨b, o, none⟩)) f).run P w = .ok (.pointer (some ⟨b, o + fo, none⟩)) w := by
  unfold fieldOk at h
  split at h
  · rename_i fs hu
    split at h
    · rename_i fd hf
      simp only [Bool.and_eq_true, beq_iff_eq] at h
      obtain ⟨h1, h2⟩ := h
      split at h2
      · rename_i i hi
        have h3 : i.size ≠ 0 := by simpa using h2
        simp [Instr.fieldAt, run_underlying hu, hf, Instr.sureAddr, fieldPlace, sizeOf, typeInfo, hi, h3, h1, Addr.add_none]
      · cases h2
    · cases h
  · cases h
theorem varOk_agg {P : Program} {t : TypeId} {agg : Bool} {k : Nat} (h : varOk P t agg k = true) (w : World) :
    (isAgg t).run P w = .ok agg w ∧ (sizeOf t).run P w = .ok k w := by
  unfold varOk at h
  split at h
  · rename_i d i hu hi
    simp only [Bool.and_eq_true, beq_iff_eq] at h
    refine ⟨?_, by simp [sizeOf, typeInfo, hi, h.2]⟩
    unfold isAgg
    rw [Sem.run_bind, run_underlying hu w]
    cases d <;> simp_all
  · cases h
theorem sliceOk_run {P : Program} {t e : TypeId} {k : Nat} (h : sliceOk P t e k = true) : P.underlying t = some (.slice e) ∧ ∃ i, P.info? e = some i ∧ i.size = k := by
  unfold sliceOk at h
  simp only [Bool.and_eq_true] at h
  obtain ⟨h1, h2⟩ := h
  split at h1
  · rename_i e' hu
    simp only [beq_iff_eq] at h1; subst h1
    split at h2
    · rename_i i hi; exact ⟨hu, i, hi, by simpa using h2⟩
    · cases h2
  · cases h1
section
variable {P : Program} {c : Ctx} {st : St} {ops : Array Oper} {Q : Exit → Act → World → Prop} {rest : List Oper} {o : Oper}
theorem Inv.ptr {E : Env} {a : Act} {w : World} (hi : Inv c E st a w) {x : Operand} {id off : Nat} (hx : st.ev x = .ptr id off) : a.eval x = .pointer (some ⟨E.ρ id, off, none⟩) := by
  have h := hi.ev x; rw [hx] at h; exact h.ptr_inv
theorem Yields.fieldP {s : TypeId} {x : Operand} {f fo id off : Nat} (ho : o.op = .fieldAddr s x f) (hx : st.ev x = .ptr id off) (hf : fieldOk P s f fo = true) : Yields P c st o (.ptr id (off + fo)) :=
  fun E a w hi => ⟨_, by simp only [execOp, ho, hi.ptr hx, run_fieldAt hf, Sem.run_bind, Result.andThen_ok, Sem.run_pure], .ptr rfl⟩
theorem Yields.fieldE {s : TypeId} {x : Operand} {f fo : Nat} {cs : List IV} (ho : o.op = .fieldAddr s x f) (hx : st.ev x = .el cs) (hf : fieldOk P s f fo = true) : Yields P c st o (.el (cs.drop fo)) :=
  fun E a w hi => by
    have h := hi.ev x; rw [hx] at h
    generalize hq : a.eval x = u at h
    cases h with
    | @el _ b o' g hc hr =>
      refine ⟨.pointer (some ⟨b, o' + fo, none⟩), by simp only [execOp, ho, hq, run_fieldAt hf, Sem.run_bind, Result.andThen_ok, Sem.run_pure], .el (fun j => g (fo + j)) (fun j x hx => ?_) (fun j x hx => ?_)⟩
      · have := hc (fo + j) x (by rw [List.getElem?_drop] at hx; exact hx)
        rw [Nat.add_assoc]; exact this
      · exact hr (fo + j) x (by rw [List.getElem?_drop] at hx; exact hx)
theorem RepI.sl_inv {φ : Nat → Nat} {w : World} {es : List (List IV)} {u : Value} (h : RepI φ w (.sl es) u) :
    (u = .slice none 0 0 ∧ es = []) ∨ (∃ (ad : Addr) (cap : Nat), u = .slice (some ad) 0 cap ∧ ad.spot ≠ none ∧ cap ≤ maxLen ∧ es = []) ∨ ∃ (b o cap k : Nat) (f : Nat → Nat → Value), u = .slice (some ⟨b, o, none⟩) es.length cap ∧ es.length ≤ cap ∧ cap ≤ maxLen ∧ (∀ (i : Nat) (e : List IV), es[i]? = some e → e.length = k) ∧
      (∀ (i : Nat) (e : List IV) (j : Nat) (x : IV), es[i]? = some e → e[j]? = some x → o + i * k + j < φ b ∧ w.cell? ⟨b, o + i * k + j, none⟩ = some (f i j) ∧ RepI φ w x (f i j)) := by
  cases h with
  | @emp a cap hn hm => cases a with
    | none => obtain rfl := hn rfl; exact .inl ⟨rfl, rfl⟩
    | some ad =>
      by_cases hs : ad.spot = none
      · obtain ⟨b, o, spot⟩ := ad
        simp only at hs; subst hs
        exact .inr (.inr ⟨b, o, cap, 0, fun _ _ => undef, rfl, Nat.zero_le _, hm, fun i e h => by simp at h, fun i e j x h => by simp at h⟩)
      · exact .inr (.inl ⟨ad, cap, rfl, hs, hm, rfl⟩)
  | sl f hc hm hk hφ hcell hrep => exact .inr <| .inr ⟨_, _, _, _, f, rfl, hc, hm, hk, fun i e j x h1 h2 => ⟨hφ i e j x h1 h2, hcell i e j x h1 h2, hrep i e j x h1 h2⟩⟩
def AV.sl? : AV → Option (List (List IV))
  | .iv (.sl es) => some es
  | .row _ es => some es
  | .nils => some []
  | .emp => some []
  | _ => none
theorem RepA.sl {E : Env} {w : World} {v : AV} {u : Value} {es : List (List IV)} (h : RepA E w v u) (hv : v.sl? = some es) : RepI E.φ w (.sl es) u := by
  cases v <;> simp only [AV.sl?] at hv <;> try (cases hv; done)
  · rename_i x
    cases x with
    | im _ => simp at hv
    | sl _ => simp at hv; subst hv; exact h.iv_inv
  · simp at hv; subst hv; cases h; exact .nil
  · simp at hv; subst hv; cases h with | emp hu => subst hu; exact .emp (fun _ => rfl) (Nat.zero_le _)
  · simp at hv; subst hv; cases h with | row hu h => exact h
theorem Yields.indexAddr {t e : TypeId} {x i : Operand} {k : Nat} {kd : IntKind} {n : Int} {es : List (List IV)} {cs : List IV} (ho : o.op = .indexAddr t x i) (hs : sliceOk P t e k = true) (hx : (st.ev x).sl? = some es)
    (hn : st.ev i = .iv (.im (.int kd n))) (h0 : 0 ≤ n) (hc : es[n.toNat]? = some cs) (hl : cs.length = k) : Yields P c st o (.el cs) :=
  fun E a w hi => by
    obtain ⟨hu, inf, hinf, hsz⟩ := sliceOk_run hs
    have hlt := (List.getElem?_eq_some_iff.1 hc).1
    rcases ((hi.ev x).sl hx).sl_inv with ⟨_, rfl⟩ | ⟨_, _, _, _, _, rfl⟩ | ⟨b, o', cap, k', f, hq, _, _, hk, hcell⟩
    · simp at hlt
    · simp at hlt
    · have hk' : k' = k := by rw [← hk _ _ hc, hl]
      subst hk'
      have hb : n < (es.length : Int) := by omega
      refine ⟨.pointer (some ⟨b, o' + n.toNat * k', none⟩), ?_, .el (fun j => f n.toNat j) (fun j x hx => ⟨(hcell _ _ _ _ hc hx).1, (hcell _ _ _ _ hc hx).2.1⟩) (fun j x hx => (hcell _ _ _ _ hc hx).2.2)⟩
      simp [execOp, ho, hq, hi.im hn, Instr.indexAt, asIntOf, run_underlying hu, h0, hb, sizeOf, typeInfo, hinf, hsz, Addr.add_none]
theorem Yields.lenSl {t e : TypeId} {x : Operand} {k : Nat} {es : List (List IV)} (ho : o.op = .call { callee := .builtin .len, args := #[x], argTypes := #[t] }) (hs : sliceOk P t e k = true) (hx : (st.ev x).sl? = some es) :
    Yields P c st o (aI es.length) :=
  .im rfl fun E a w hi => by
    obtain ⟨hu, _⟩ := sliceOk_run hs
    rcases ((hi.ev x).sl hx).sl_inv with ⟨hq, rfl⟩ | ⟨_, _, hq, _, _, rfl⟩ | ⟨b, o', cap, k', f, hq, _⟩
    · simp [execOp, ho, resolve, invoke, builtin, hq, Builtin.len_, run_underlying hu, goInt]
    · simp [execOp, ho, resolve, invoke, builtin, hq, Builtin.len_, run_underlying hu, goInt]
    · simp [execOp, ho, resolve, invoke, builtin, hq, Builtin.len_, run_underlying hu, goInt]
theorem Inv.boxCell {E : Env} {a : Act} {w : World} (hi : Inv c E st a w) {id : Nat} {b : Box} (hb : st.bx.lookup id = some b) :
    ∃ arr rest : List Value, (b.cs ≠ [] → w.heap[E.ρ id]? = some (.cells (arr ++ rest).toArray b.ty (0, 0))) ∧ RelL E w b.cs arr ∧ (∀ u ∈ arr, u.oneCell' = true) ∧ (∀ u ∈ rest, u.oneCell' = true) ∧
      ∀ j, j < arr.length → w.cell? ⟨E.ρ id, j, none⟩ = arr[j]? := by
  by_cases hn : b.cs = []
  · exact ⟨[], [], fun h => (h hn).elim, by rw [hn]; exact RelL.nil E w, by simp, by simp, fun j hj => by simp at hj⟩
  obtain ⟨_, arr, ha, hl, h1, hr, _⟩ := hi.heap.box id b hb hn
  refine ⟨arr.take b.cs.length, arr.drop b.cs.length, fun _ => by rw [List.take_append_drop]; exact ha, ⟨by rw [List.length_take]; omega, fun i c u hc hu => hr i c u hc ?_⟩, fun u hu => h1 u (List.mem_of_mem_take hu), fun u hu => h1 u (List.mem_of_mem_drop hu), fun j hj => ?_⟩
  · rw [List.getElem?_take] at hu
    split at hu
    · exact hu
    · cases hu
  · rw [cell_of_row w _ j _ _ _ ha, List.getElem?_take, if_pos (by rw [List.length_take] at hj; omega)]; simp
theorem Yields.load1P {t : TypeId} {x : Operand} {id off : Nat} {b : Box} {v : AV} (ho : o.op = .load t x) (ht : varOk P t false 1 = true) (hx : st.ev x = .ptr id off) (hb : st.bx.lookup id = some b) (hv : b.cs[off]? = some v) : Yields P c st o v :=
  fun E a w hi => by
    obtain ⟨arr, _, _, hr, _, _, hc⟩ := hi.boxCell hb
    have hlt : off < arr.length := by rw [hr.1]; exact (List.getElem?_eq_some_iff.1 hv).1
    have hcell : w.cell? ⟨E.ρ id, off, none⟩ = some arr[off] := by rw [hc off hlt]; exact List.getElem?_eq_getElem hlt
    refine ⟨arr[off], ?_, hr.2 off v _ hv (List.getElem?_eq_getElem hlt)⟩
    simp [execOp, ho, hi.ptr hx, Instr.loadAt, Instr.sureAddr, loadVar, (varOk_agg ht w).1, hcell]
theorem Yields.loadAP {t : TypeId} {x : Operand} {id off k : Nat} {b : Box} (ho : o.op = .load t x) (ht : varOk P t true k = true) (hx : st.ev x = .ptr id off) (hb : st.bx.lookup id = some b) (hk : ((b.cs.drop off).take k).length = k) :
    Yields P c st o (.agg ((b.cs.drop off).take k)) :=
  fun E a w hi => by
    obtain ⟨arr, _, _, hr, h1, _, hc⟩ := hi.boxCell hb
    have hr' := (hr.drop off).take k
    have hl : ((arr.drop off).take k).length = k := by rw [hr'.1, hk]
    have hrun : (loadCells ⟨E.ρ id, off, none⟩ ((arr.drop off).take k).length).run P w = .ok ((arr.drop off).take k).toArray w :=
      run_loadCells_list w _ _ (fun j v hv => by
        rw [List.getElem?_take] at hv
        split at hv
        · rw [List.getElem?_drop] at hv
          rw [Addr.add_none, hc _ (List.getElem?_eq_some_iff.1 hv).1]
          exact hv
        · cases hv)
    rw [hl] at hrun
    refine ⟨.agg ((arr.drop off).take k).toArray, ?_, hr'.agg (fun u hu => h1 u (List.mem_of_mem_drop (List.mem_of_mem_take hu)))⟩
    simp [execOp, ho, hi.ptr hx, Instr.loadAt, Instr.sureAddr, loadVar, (varOk_agg ht w).1, (varOk_agg ht w).2, hrun]
theorem Yields.load1E {t : TypeId} {x : Operand} {y : IV} {cs : List IV} (ho : o.op = .load t x) (ht : varOk P t false 1 = true) (hx : st.ev x = .el cs) (hy : cs[0]? = some y) : Yields P c st o (.iv y) :=
  fun E a w hi => by
    have h := hi.ev x; rw [hx] at h
    generalize hq : a.eval x = u at h
    cases h with
    | @el _ b o' g hc hr =>
      have h0 := (hc 0 y hy).2
      simp only [Nat.add_zero] at h0
      refine ⟨g 0, ?_, .iv (hr 0 y hy)⟩
      simp [execOp, ho, hq, Instr.loadAt, Instr.sureAddr, loadVar, (varOk_agg ht w).1, h0]
theorem Yields.loadAE {t : TypeId} {x : Operand} {k : Nat} {cs : List IV} (ho : o.op = .load t x) (ht : varOk P t true k = true) (hx : st.ev x = .el cs) (hk : (cs.take k).length = k) : Yields P c st o (.agg ((cs.take k).map .iv)) :=
  fun E a w hi => by
    have h := hi.ev x; rw [hx] at h
    generalize hq : a.eval x = u at h
    cases h with
    | @el _ b o' g hc hr =>
      have hlen : k ≤ cs.length := by rw [List.length_take] at hk; omega
      have hrun : (loadCells ⟨b, o', none⟩ k).run P w = .ok ((List.range k).map g).toArray w :=
        run_loadCells w _ k g (fun j hj => by rw [Addr.add_none]; exact (hc j cs[j] (List.getElem?_eq_getElem (by omega))).2)
      refine ⟨.agg ((List.range k).map g).toArray, ?_, .agg (by simp; omega) (fun u hu => ?_) (fun i c u hc' hu => ?_)⟩
      · simp [execOp, ho, hq, Instr.loadAt, Instr.sureAddr, loadVar, (varOk_agg ht w).1, (varOk_agg ht w).2, hrun]
      · simp only [List.mem_map, List.mem_range] at hu
        obtain ⟨j, hj, rfl⟩ := hu
        exact (hr j cs[j] (List.getElem?_eq_getElem (by omega))).oneCell
      · simp only [List.getElem?_map, List.getElem?_take] at hc'
        simp only [List.getElem?_map] at hu
        split at hc'
        · rename_i hik
          rw [List.getElem?_range hik] at hu
          simp at hu; subst hu
          cases hci : cs[i]? with
          | none => rw [hci] at hc'; simp at hc'
          | some y => rw [hci] at hc'; simp at hc'; subst hc'; exact .iv (hr i y hci)
        · simp at hc'
theorem Yields.extract {x : Operand} {i : Nat} {vs : List AV} {v : AV} (ho : o.op = .extract x i) (hx : st.ev x = .tup vs) (hv : vs[i]? = some v) : Yields P c st o v :=
  fun E a w hi => by
    have h := hi.ev x; rw [hx] at h
    obtain ⟨us, hq, hr⟩ := h.tup_inv
    have hlt : i < us.length := by rw [hr.1]; exact (List.getElem?_eq_some_iff.1 hv).1
    exact ⟨us[i], by simp [execOp, ho, hq, Instr.extract, List.getElem?_eq_getElem hlt], hr.2 i v _ hv (List.getElem?_eq_getElem hlt)⟩
end
end Go.Abs
/- A logic of abstract states, part 5: new blocks, literals, stores, append. Conditions: each rule's own premises; over any program. -/
namespace Go.Abs
open Go.RowKit (Below)
set_option linter.unusedVariables false
def St.fresh (id : Nat) (st : St) : Bool :=
  st.fr.all (fun p => !AV.ment id p.2) && st.bx.all (fun p => p.1 != id && !p.2.ment id) && st.tk.all (fun p => p.1 != id)
theorem lookup_mem {β : Type} : ∀ {l : List (Nat × β)} {s : Nat} {v : β}, l.lookup s = some v → (s, v) ∈ l
  | [], s, v, h => by simp at h
  | (t, u) :: l, s, v, h => by
    by_cases e : s = t
    · subst e; simp [List.lookup] at h; subst h; exact List.mem_cons_self
    · have e' : (s == t) = false := by simpa using e
      exact List.mem_cons_of_mem _ (lookup_mem (by simpa [List.lookup, e'] using h))
theorem St.fresh_fr {id : Nat} {st : St} (h : st.fresh id = true) {s : Nat} {v : AV} (hl : st.fr.lookup s = some v) : AV.ment id v = false := by
  simp only [St.fresh, Bool.and_eq_true, List.all_eq_true] at h
  simpa using h.1.1 _ (lookup_mem hl)
theorem St.fresh_bx {id : Nat} {st : St} (h : st.fresh id = true) {s : Nat} {b : Box} (hl : st.bx.lookup s = some b) : s ≠ id ∧ AV.ments id b.cs = false := by
  simp only [St.fresh, Bool.and_eq_true, List.all_eq_true] at h
  have := h.1.2 _ (lookup_mem hl)
  rw [Box.ment_eq] at this
  simpa using this
theorem St.fresh_tk {id : Nat} {st : St} (h : st.fresh id = true) {s : Nat} {t : Tok} (hl : st.tk.lookup s = some t) : s ≠ id := by
  simp only [St.fresh, Bool.and_eq_true, List.all_eq_true] at h
  simpa using h.2 _ (lookup_mem hl)
def Env.upd (E : Env) (id g p : Nat) (v : Value) : Env :=
  ⟨fun b => if b = g then p else E.φ b, fun i => if i = id then g else E.ρ i, fun i => if i = id then v else E.η i⟩
theorem Keeps.alloc {φ : Nat → Nat} {w : World} (hn : ∀ b, w.heap.size ≤ b → φ b = 0) (ob : Obj) : Keeps φ w (w.alloc ob) := fun b o ho => by
  have hb : b < w.heap.size := by
    rcases Nat.lt_or_ge b w.heap.size with h | h
    · exact h
    · rw [hn b h] at ho; cases ho
  exact World.cell?_alloc_lt _ _ _ hb
theorem heapOld (w : World) (ob : Obj) (i : Nat) (h : i < w.heap.size) : (w.alloc ob).heap[i]? = w.heap[i]? := by
  show (w.heap.push ob)[i]? = w.heap[i]?
  rw [Array.getElem?_push, if_neg (Nat.ne_of_lt h)]
theorem heapNew (w : World) (ob : Obj) : (w.alloc ob).heap[w.heap.size]? = some ob := by
  show (w.heap.push ob)[w.heap.size]? = some ob
  simp
theorem HInv.alloc {c : Ctx} {E : Env} {st : St} {w : World} (h : HInv c E st.bx st.tk w) {id : Nat} (hf : st.fresh id = true) (ob : Obj) (p : Nat) (v : Value) :
    HInv c (E.upd id w.heap.size p v) st.bx st.tk (w.alloc ob) ∧ (∀ (x : AV) (u : Value), AV.ment id x = false → RepA E w x u → RepA (E.upd id w.heap.size p v) (w.alloc ob) x u) := by
  have hk : Keeps E.φ w (w.alloc ob) := Keeps.alloc h.new ob
  have hle : ∀ b, E.φ b ≤ (E.upd id w.heap.size p v).φ b := fun b => by
    simp only [Env.upd]; split
    · rename_i e; rw [h.new b (by omega)]; exact Nat.zero_le _
    · exact Nat.le_refl _
  have hρ : ∀ i, i ≠ id → (E.upd id w.heap.size p v).ρ i = E.ρ i := fun i hi => by simp [Env.upd, hi]
  have hη : ∀ i, i ≠ id → (E.upd id w.heap.size p v).η i = E.η i := fun i hi => by simp [Env.upd, hi]
  have mono : ∀ (x : AV) (u : Value), AV.ment id x = false → RepA E w x u → RepA (E.upd id w.heap.size p v) (w.alloc ob) x u := fun x u hm hr =>
    hr.mono hk hle (fun i hi => by
      have : i ≠ id := fun e => by subst e; rw [hm] at hi; cases hi
      exact ⟨hρ i this, hη i this⟩)
  refine ⟨⟨fun i b hb hn => ?_, fun i t ht => ?_, fun i j b b' hi hj hn hn' he => ?_, fun i j t t' g hi hj h1 h2 => ?_, fun i j b t hi hn hj => ?_, fun i b hi hn => ?_, fun j t g hj hg => ?_, fun b hb => ?_, fun b hb => ?_, fun i hin => ?_, ?_⟩, mono⟩
  · obtain ⟨hne, hm⟩ := St.fresh_bx hf hb
    obtain ⟨h0, arr, ha, hl, h1, hr, hq⟩ := h.box i b hb hn
    have hlt : E.ρ i < w.heap.size := (Array.getElem?_eq_some_iff.1 ha).1
    rw [BoxOk, hρ i hne, hη i hne]
    refine ⟨by simp only [Env.upd]; rw [if_neg (by omega)]; exact h0, arr, by rw [heapOld w ob _ hlt]; exact ha, hl, h1, fun k x u hx hu => mono x u ?_ (hr k x u hx hu), hq⟩
    exact AV.ments_false hm k x hx
  · have hne := St.fresh_tk hf ht
    rcases h.tok i t ht with hn | ⟨g, n, cap, cur, hv, hg, hnc, hcm, hcs, hφ⟩
    · exact .inl (by rw [hη i hne]; exact hn)
    · have hlt : g < w.heap.size := (Array.getElem?_eq_some_iff.1 hg).1
      exact .inr ⟨g, n, cap, cur, by rw [hη i hne]; exact hv, by rw [heapOld w ob _ hlt]; exact hg, hnc, hcm, hcs, by simp only [Env.upd]; rw [if_neg (by omega)]; exact hφ⟩
  · rw [hρ i (St.fresh_bx hf hi).1, hρ j (St.fresh_bx hf hj).1] at he
    exact h.bb i j b b' hi hj hn hn' he
  · rw [hη i (St.fresh_tk hf hi)] at h1
    rw [hη j (St.fresh_tk hf hj)] at h2
    exact h.tt i j t t' g hi hj h1 h2
  · rw [hρ i (St.fresh_bx hf hi).1, hη j (St.fresh_tk hf hj)]
    exact h.bt i j b t hi hn hj
  · rw [hρ i (St.fresh_bx hf hi).1]; exact h.own i b hi hn
  · rw [hη j (St.fresh_tk hf hj)] at hg; exact h.ownt j t g hj hg
  · have hb' : w.heap.size < b := by simp at hb; omega
    simp only [Env.upd]; rw [if_neg (by omega)]; exact h.new b (by omega)
  · have : b < w.heap.size := Nat.lt_of_lt_of_le hb h.kept.size
    simp only [Env.upd]; rw [if_neg (by omega)]; exact h.old b hb
  · obtain ⟨e1, e2, e3⟩ := h.ins i hin
    obtain ⟨b, hb⟩ := Option.isSome_iff_exists.1 e3
    have hne := (St.fresh_bx hf hb).1
    exact ⟨(hρ i hne).trans e1, (hη i hne).trans e2, e3⟩
  · refine h.kept.next rfl rfl rfl (by simp) (fun k hk _ => ?_)
    exact heapOld w ob k (Nat.lt_of_lt_of_le hk h.kept.size)
theorem lookup_cons_ne {β : Type} {s t : Nat} {v : β} {l : List (Nat × β)} (h : s ≠ t) : List.lookup s ((t, v) :: l) = l.lookup s := by
  have e' : (s == t) = false := by simpa using h
  simp [List.lookup, e']
theorem lookup_cons_eq {β : Type} {s : Nat} {v : β} {l : List (Nat × β)} : List.lookup s ((s, v) :: l) = some v := by simp [List.lookup]
theorem HInv.addBox {c : Ctx} {E : Env} {bx : List (Nat × Box)} {tk : List (Nat × Tok)} {w : World} (h : HInv c E bx tk w) {id : Nat} {b : Box} (hn : bx.lookup id = none) (hb : BoxOk E w id b)
    (h1 : ∀ (j : Nat) (b' : Box), bx.lookup j = some b' → b'.cs ≠ [] → E.ρ j ≠ E.ρ id) (h2 : ∀ (j : Nat) (t : Tok), tk.lookup j = some t → (E.η j).ownBlock ≠ some (E.ρ id)) (h3 : c.w0.heap.size ≤ E.ρ id ∨ c.M (E.ρ id)) :
    HInv c E ((id, b) :: bx) tk w := by
  refine ⟨fun i b' hi hc => ?_, h.tok, fun i j b1 b2 hi hj hc hc' he => ?_, h.tt, fun i j b1 t hi hc hj => ?_, fun i b' hi hc => ?_, h.ownt, h.new, h.old, fun i hin => ?_, h.kept⟩
  · by_cases e : i = id
    · subst e; rw [lookup_cons_eq] at hi; cases hi; exact hb
    · rw [lookup_cons_ne e] at hi; exact h.box i b' hi hc
  · by_cases e : i = id
    · by_cases e' : j = id
      · rw [e, e']
      · rw [lookup_cons_ne e'] at hj; subst e; exact (h1 j b2 hj hc' he.symm).elim
    · rw [lookup_cons_ne e] at hi
      by_cases e' : j = id
      · subst e'; exact (h1 i b1 hi hc he).elim
      · rw [lookup_cons_ne e'] at hj; exact h.bb i j b1 b2 hi hj hc hc' he
  · by_cases e : i = id
    · subst e; exact h2 j t hj
    · rw [lookup_cons_ne e] at hi; exact h.bt i j b1 t hi hc hj
  · by_cases e : i = id
    · subst e; exact h3
    · rw [lookup_cons_ne e] at hi; exact h.own i b' hi hc
  · obtain ⟨e1, e2, e3⟩ := h.ins i hin
    refine ⟨e1, e2, ?_⟩
    by_cases e : i = id
    · subst e; rw [lookup_cons_eq]; rfl
    · rw [lookup_cons_ne e]; exact e3
theorem HInv.addTok {c : Ctx} {E : Env} {bx : List (Nat × Box)} {tk : List (Nat × Tok)} {w : World} (h : HInv c E bx tk w) {id : Nat} {t : Tok} (ht : TokOk E w id t)
    (h1 : ∀ (j : Nat) (t' : Tok) (g : Nat), j ≠ id → tk.lookup j = some t' → (E.η j).ownBlock = some g → (E.η id).ownBlock ≠ some g) (h2 : ∀ (i : Nat) (b : Box), bx.lookup i = some b → b.cs ≠ [] → (E.η id).ownBlock ≠ some (E.ρ i))
    (h3 : ∀ g, (E.η id).ownBlock = some g → c.w0.heap.size ≤ g) : HInv c E bx ((id, t) :: tk) w := by
  refine ⟨h.box, fun i t' hi => ?_, h.bb, fun i j t1 t2 g hi hj e1 e2 => ?_, fun i j b t' hi hn hj => ?_, h.own, fun j t' g hj hg => ?_, h.new, h.old, h.ins, h.kept⟩
  · by_cases e : i = id
    · subst e; rw [lookup_cons_eq] at hi; cases hi; exact ht
    · rw [lookup_cons_ne e] at hi; exact h.tok i t' hi
  · by_cases e : i = id
    · by_cases e' : j = id
      · rw [e, e']
      · rw [lookup_cons_ne e'] at hj; subst e; exact (h1 j t2 g e' hj e2 e1).elim
    · rw [lookup_cons_ne e] at hi
      by_cases e' : j = id
      · subst e'; exact (h1 i t1 g e hi e1 e2).elim
      · rw [lookup_cons_ne e'] at hj; exact h.tt i j t1 t2 g hi hj e1 e2
  · by_cases e : j = id
    · subst e; exact h2 i b hi hn
    · rw [lookup_cons_ne e] at hj; exact h.bt i j b t' hi hn hj
  · by_cases e : j = id
    · subst e; exact h3 g hg
    · rw [lookup_cons_ne e] at hj; exact h.ownt j t' g hj hg
theorem ownBlock_lt {E : Env} {w : World} {id : Nat} {t : Tok} (h : TokOk E w id t) {g : Nat} (hg : (E.η id).ownBlock = some g) : g < w.heap.size := by
  rcases h with hn | ⟨g', n, cap, cur, hv, hh, _⟩
  · rw [hn] at hg; simp [Value.ownBlock] at hg
  · rw [hv] at hg; simp [Value.ownBlock] at hg; subst hg; exact (Array.getElem?_eq_some_iff.1 hh).1
theorem box_lt {E : Env} {w : World} {id : Nat} {b : Box} (h : BoxOk E w id b) : E.ρ id < w.heap.size := by
  obtain ⟨_, arr, ha, _⟩ := h; exact (Array.getElem?_eq_some_iff.1 ha).1
theorem Inv.newBox {c : Ctx} {E : Env} {st : St} {a : Act} {w : World} (hi : Inv c E st a w) {id : Nat} (hf : st.fresh id = true) {ty : TypeId} {cs : List AV} {us : List Value}
    (hr : RelL E w cs us) (h1 : ∀ u ∈ us, u.oneCell' = true) (hm : AV.ments id cs = false) :
    Inv c (E.upd id w.heap.size 0 undef) ⟨st.fr, (id, ⟨ty, cs⟩) :: st.bx, st.tk⟩ a (w.alloc (.cells us.toArray ty (0, 0))) := by
  obtain ⟨hh, mono⟩ := hi.heap.alloc hf (.cells us.toArray ty (0, 0)) 0 undef
  have hid : (E.upd id w.heap.size 0 undef).ρ id = w.heap.size := by simp [Env.upd]
  refine ⟨hi.defers, hi.size, fun s v hv => mono v _ (St.fresh_fr hf hv) (hi.slot s v hv), hh.addBox ?_ ?_ ?_ ?_ ?_⟩
  · cases hq : st.bx.lookup id with
    | none => rfl
    | some b => exact ((St.fresh_bx hf hq).1 rfl).elim
  · refine ⟨by rw [hid]; simp [Env.upd], us, by rw [hid]; exact heapNew w _, Nat.le_of_eq hr.1.symm, h1, fun i x u hx hu => mono x u (AV.ments_false hm i x hx) (hr.2 i x u hx hu), fun k cap he => by simp [Env.upd, undef, capV] at he⟩
  · intro j b' hj hn
    rw [hid]
    have : (E.upd id w.heap.size 0 undef).ρ j = E.ρ j := by simp [Env.upd, (St.fresh_bx hf hj).1]
    rw [this]
    have := box_lt (hi.heap.box j b' hj hn)
    omega
  · intro j t hj
    rw [hid]
    have e : (E.upd id w.heap.size 0 undef).η j = E.η j := by simp [Env.upd, St.fresh_tk hf hj]
    rw [e]
    intro hg
    have := ownBlock_lt (hi.heap.tok j t hj) hg
    omega
  · rw [hid]; exact .inl hi.heap.kept.size
theorem Inv.newRow {c : Ctx} {E : Env} {st : St} {a : Act} {w : World} (hi : Inv c E st a w) {id : Nat} (hf : st.fresh id = true) {ty : TypeId} {k cap : Nat} {es : List (List IV)} {us : List Value}
    (hk : ∀ (i : Nat) (e : List IV), es[i]? = some e → e.length = k) (hl : us.length = cap * k) (hc : es.length ≤ cap) (hm : cap ≤ maxLen)
    (hr : ∀ (i : Nat) (e : List IV) (j : Nat) (x : IV) (u : Value), es[i]? = some e → e[j]? = some x → us[i * k + j]? = some u → RepI E.φ w x u) :
    ∃ E', Inv c E' ⟨st.fr, st.bx, (id, ⟨ty, k⟩) :: st.tk⟩ a (w.alloc (.cells us.toArray ty (0, 0))) ∧
      RepA E' (w.alloc (.cells us.toArray ty (0, 0))) (.row id es) (.slice (some ⟨w.heap.size, 0, none⟩) es.length cap) := by
  obtain ⟨hh, mono⟩ := hi.heap.alloc hf (.cells us.toArray ty (0, 0)) (es.length * k) (.slice (some ⟨w.heap.size, 0, none⟩) es.length cap)
  have hid : (E.upd id w.heap.size (es.length * k) (.slice (some ⟨w.heap.size, 0, none⟩) es.length cap)).η id = .slice (some ⟨w.heap.size, 0, none⟩) es.length cap := by simp [Env.upd]
  have hidx : ∀ (i : Nat) (e : List IV) (j : Nat) (x : IV), es[i]? = some e → e[j]? = some x → i * k + j < es.length * k := fun i e j x h1 h2 => by
    have hi' := (List.getElem?_eq_some_iff.1 h1).1
    have hj' := (List.getElem?_eq_some_iff.1 h2).1
    rw [hk i e h1] at hj'
    calc i * k + j < i * k + k := by omega
      _ = (i + 1) * k := by rw [Nat.add_mul, Nat.one_mul]
      _ ≤ es.length * k := Nat.mul_le_mul_right k hi'
  have hle2 : es.length * k ≤ cap * k := Nat.mul_le_mul_right k hc
  have hkk : Keeps E.φ w (w.alloc (.cells us.toArray ty (0, 0))) := Keeps.alloc hi.heap.new _
  have hle : ∀ b, E.φ b ≤ (E.upd id w.heap.size (es.length * k) (.slice (some ⟨w.heap.size, 0, none⟩) es.length cap)).φ b := fun b => by
    simp only [Env.upd]; split
    · rename_i e; rw [hi.heap.new b (by omega)]; exact Nat.zero_le _
    · exact Nat.le_refl _
  refine ⟨_, ⟨hi.defers, hi.size, fun s v hv => mono v _ (St.fresh_fr hf hv) (hi.slot s v hv), hh.addTok ?_ ?_ ?_ ?_⟩, .row hid.symm ?_⟩
  · refine .inr ⟨w.heap.size, es.length, cap, us.toArray, hid, heapNew w _, hc, hm, Nat.le_of_eq (by simpa using hl.symm), by simp [Env.upd]⟩
  · intro j t' g hne hj hg
    rw [hid]
    simp only [Value.ownBlock, ne_eq, Option.some.injEq]
    have e : (E.upd id w.heap.size (es.length * k) (.slice (some ⟨w.heap.size, 0, none⟩) es.length cap)).η j = E.η j := by simp [Env.upd, hne]
    rw [e] at hg
    have := ownBlock_lt (hi.heap.tok j t' hj) hg
    omega
  · intro i b hb hn
    rw [hid]
    simp only [Value.ownBlock, ne_eq, Option.some.injEq]
    have e : (E.upd id w.heap.size (es.length * k) (.slice (some ⟨w.heap.size, 0, none⟩) es.length cap)).ρ i = E.ρ i := by simp [Env.upd, (St.fresh_bx hf hb).1]
    rw [e]
    have := box_lt (hi.heap.box i b hb hn)
    omega
  · intro g hg
    rw [hid] at hg
    simp [Value.ownBlock] at hg
    subst hg; exact hi.heap.kept.size
  · refine .sl (k := k) (fun i j => us.getD (i * k + j) undef) hc hm hk (fun i e j x h1 h2 => ?_) (fun i e j x h1 h2 => ?_) (fun i e j x h1 h2 => ?_)
    · have := hidx i e j x h1 h2
      simp only [Env.upd, if_true]; omega
    · have := hidx i e j x h1 h2
      rw [Nat.zero_add, World.cell?_alloc_new]
      have hlt : i * k + j < us.length := by omega
      simp [hlt]
    · have := hidx i e j x h1 h2
      have hlt : i * k + j < us.length := by omega
      have hu : us[i * k + j]? = some (us.getD (i * k + j) undef) := by simp [List.getElem?_eq_getElem hlt]
      exact (hr i e j x _ h1 h2 hu).mono hkk hle
theorem Inv.drew {c : Ctx} {E : Env} {st : St} {a : Act} {w : World} (hi : Inv c E st a w) : Inv c E st a w.drew := by
  have hk : Keeps E.φ w w.drew := fun _ _ _ => rfl
  refine ⟨hi.defers, hi.size, fun s v hv => (hi.slot s v hv).keep hk, ⟨fun i b hb hn => ?_, fun i t ht => hi.heap.tok i t ht, hi.heap.bb, hi.heap.tt, hi.heap.bt, hi.heap.own, hi.heap.ownt, hi.heap.new, hi.heap.old, hi.heap.ins, ?_⟩⟩
  · obtain ⟨h0, arr, ha, hl, h1, hr, hq⟩ := hi.heap.box i b hb hn
    exact ⟨h0, arr, ha, hl, h1, fun k x u hx hu => (hr k x u hx hu).keep hk, hq⟩
  · exact hi.heap.kept.next rfl rfl rfl (Nat.le_refl _) (fun _ _ _ => rfl)
section
variable {P : Program} {c : Ctx} {st : St} {ops : Array Oper} {Q : Exit → Act → World → Prop} {rest : List Oper} {o : Oper}
def Makes (P : Program) (c : Ctx) (st : St) (o : Oper) (v : AV) (bx : List (Nat × Box)) (tk : List (Nat × Tok)) : Prop :=
  ∀ (E : Env) (a : Act) (w : World), Inv c E st a w → ∃ (u : Value) (E' : Env) (w' : World), (execOp a.eval o).run P w = .ok (.value u) w' ∧ Inv c E' ⟨st.fr, bx, tk⟩ a w' ∧ RepA E' w' v u
theorem L.make {d : Nat} {v : AV} {bx : List (Nat × Box)} {tk : List (Nat × Tok)} (hg : o.guard = none) (hd : o.dst = some d) (hlt : Nat.ble (d + 1) c.nt = true) (hy : Makes P c st o v bx tk)
    (h : L c ⟨(d, v) :: st.fr, bx, tk⟩ (wpList P ops Q rest)) : L c st (wpList P ops Q (o :: rest)) := by
  rintro a w ⟨E, hi⟩
  obtain ⟨u, E', w', hr, hi', hv⟩ := hy E a w hi
  refine wpList_plain hg (fun K hK => Oper.wp_value hr (hK _ _ ?_))
  rw [hd]
  exact h _ _ ⟨E', hi'.put (Nat.le_of_ble_eq_true hlt) hv⟩
theorem Makes.box {t : TypeId} {x : Operand} {id : Nat} {v : AV} (ho : o.op = .box t x) (hx : st.ev x = v) (hv : v.lays = true) (hf : st.fresh id = true) (hm : AV.ments id v.cells = false) :
    Makes P c st o (.ptr id 0) ((id, ⟨t, v.cells⟩) :: st.bx) st.tk := fun E a w hi => by
  have h := hi.ev x; rw [hx] at h
  obtain ⟨hr, h1⟩ := h.lay hv
  refine ⟨_, _, _, ?_, hi.newBox hf (ty := t) hr h1 hm, .ptr rfl⟩
  simp [execOp, ho, Instr.box, newVar, newRow, Env.upd]
theorem Makes.alloc {t : TypeId} {id : Nat} {z : Value} {i : TypeInfo} (ho : o.op = .alloc t) (hz : (P.info? t).bind (·.zero) = some z) (h1 : z.cells.toList.all (·.oneCell') = true) (hf : st.fresh id = true)
    (hm : AV.ments id (z.cells.toList.map constCell) = false) :
    Makes P c st o (.ptr id 0) ((id, ⟨t, z.cells.toList.map constCell⟩) :: st.bx) st.tk := fun E a w hi => by
  refine ⟨_, _, _, ?_, hi.newBox hf (ty := t) (RelL.consts E w _ h1) (List.all_eq_true.1 h1) hm, .ptr rfl⟩
  cases hq : P.info? t with
  | none => simp [hq] at hz
  | some i =>
    simp only [hq, Option.bind_some] at hz
    simp [execOp, ho, Instr.alloc, zeroValue, typeInfo, hq, hz, newVar, newRow, Env.upd]
end
end Go.Abs
/- A logic of abstract states, part 6: struct and slice literals, stores, append, slices of slices. Conditions: each rule's own premises; over any program. -/
namespace Go.Abs
open Go.RowKit (Below)
set_option linter.unusedVariables false
def setA (cs : List AV) (off : Nat) (vs : List AV) : List AV := cs.take off ++ (vs ++ cs.drop (off + vs.length))
def fillA (place : Nat → Option (Nat × Nat)) : List AV → List (Nat × AV) → Option (List AV)
  | cs, [] => some cs
  | cs, (i, v) :: r =>
    match place i with
    | none => none
    | some (off, size) => if v.lays && v.cells.length == size && off + size ≤ cs.length then fillA place (setA cs off v.cells) r else none
theorem foldl_set (off : Nat) : ∀ (vs : List Value) (k : Nat) (arr : Array Value), off + k + vs.length ≤ arr.size →
    ((vs.zipIdx k).foldl (fun cs (p : Value × Nat) => cs.setIfInBounds (off + p.2) p.1) arr).toList = arr.toList.take (off + k) ++ (vs ++ arr.toList.drop (off + k + vs.length))
  | [], k, arr, h => by simp
  | v :: vs, k, arr, h => by
    simp only [List.length_cons] at h
    simp only [List.zipIdx_cons, List.foldl_cons]
    rw [foldl_set off vs (k + 1) _ (by simp; omega)]
    apply List.ext_getElem?
    intro i
    simp only [Array.toList_setIfInBounds, List.length_cons, List.getElem?_append, List.length_take, List.length_set, Array.length_toList, List.getElem?_take, List.getElem?_set, List.getElem?_drop]
    by_cases h1 : i < off + k
    · have e1 : i < min (off + (k + 1)) arr.size := by omega
      have e2 : i < min (off + k) arr.size := by omega
      simp only [e1, e2, if_true]
      rw [if_pos (by omega), if_neg (by omega), if_pos h1]
    · by_cases h2 : i = off + k
      · subst h2
        have e1 : off + k < min (off + (k + 1)) arr.size := by omega
        have e2 : ¬ off + k < min (off + k) arr.size := by omega
        simp only [e1, e2, if_true, if_false]
        rw [if_pos (by omega)]
        have e3 : off + k - min (off + k) arr.size = 0 := by omega
        have e4 : off + k < arr.size := by omega
        simp [e3, e4]
      · have e1 : ¬ i < min (off + (k + 1)) arr.size := by omega
        have e2 : ¬ i < min (off + k) arr.size := by omega
        simp only [e1, e2, if_false]
        have e3 : i - min (off + k) arr.size = (i - min (off + (k + 1)) arr.size) + 1 := by omega
        rw [e3]
        simp only [List.getElem?_cons_succ, Nat.add_lt_add_iff_right]
        split
        · rfl
        · rw [if_neg (by omega)]
          congr 1
          omega
theorem fill_rel {E : Env} {w : World} {place : Nat → Option (Nat × Nat)} : ∀ (parts : List (Nat × AV)) (pv : List (Nat × Value)) (cs cs' : List AV) (arr : Array Value),
    RelL E w cs arr.toList → (∀ u ∈ arr.toList, u.oneCell' = true) → pv.length = parts.length → (∀ (n : Nat) (p : Nat × AV) (q : Nat × Value), parts[n]? = some p → pv[n]? = some q → q.1 = p.1 ∧ RepA E w p.2 q.2) →
    fillA place cs parts = some cs' → ∃ arr' : Array Value, Instr.fill place arr pv = some arr' ∧ RelL E w cs' arr'.toList ∧ ∀ u ∈ arr'.toList, u.oneCell' = true
  | [], pv, cs, cs', arr, hr, h1, hl, hp, hf => by
    simp [fillA] at hf; subst hf
    have : pv = [] := List.eq_nil_of_length_eq_zero (by simpa using hl)
    subst this
    exact ⟨arr, rfl, hr, h1⟩
  | (i, v) :: parts, pv, cs, cs', arr, hr, h1, hl, hp, hf => by
    match pv, hl with
    | (i', u) :: pv, hl =>
      obtain ⟨he, hv⟩ := hp 0 (i, v) (i', u) rfl rfl
      simp only at he hv
      subst he
      simp only [fillA] at hf
      cases hpl : place i' with
      | none => rw [hpl] at hf; simp at hf
      | some q =>
        obtain ⟨off, size⟩ := q
        rw [hpl] at hf
        simp only at hf
        split at hf
        · rename_i hc
          simp only [Bool.and_eq_true, beq_iff_eq, decide_eq_true_eq] at hc
          obtain ⟨⟨hlay, hsz⟩, hle⟩ := hc
          obtain ⟨hrv, h1v⟩ := hv.lay hlay
          have hul : u.cells.toList.length = size := by rw [hrv.1, hsz]
          have hal : arr.size = cs.length := by rw [← hr.1]; simp
          have hus : u.cells.size = size := by simpa using hul
          have hfold : (u.cells.zipIdx.foldl (fun cs (x : Value × Nat) => cs.setIfInBounds (off + x.2) x.1) arr).toList = arr.toList.take off ++ (u.cells.toList ++ arr.toList.drop (off + u.cells.toList.length)) := by
            rw [← Array.foldl_toList]
            have := foldl_set off u.cells.toList 0 arr (by rw [hul]; omega)
            simpa using this
          have hnew : RelL E w (setA cs off v.cells) (u.cells.zipIdx.foldl (fun cs (x : Value × Nat) => cs.setIfInBounds (off + x.2) x.1) arr).toList := by
            rw [hfold]
            unfold setA
            have := (hr.take off).append (hrv.append (hr.drop (off + v.cells.length)))
            rw [hsz] at this ⊢
            rw [hul]; exact this
          have hnew1 : ∀ x ∈ (u.cells.zipIdx.foldl (fun cs (x : Value × Nat) => cs.setIfInBounds (off + x.2) x.1) arr).toList, x.oneCell' = true := by
            rw [hfold]
            intro x hx
            rcases List.mem_append.1 hx with hx | hx
            · exact h1 x (List.mem_of_mem_take hx)
            · rcases List.mem_append.1 hx with hx | hx
              · exact h1v x hx
              · exact h1 x (List.mem_of_mem_drop hx)
          obtain ⟨arr', ha, hb, hc⟩ := fill_rel parts pv _ cs' _ hnew hnew1 (by simpa using hl) (fun n p q h2 h3 => hp (n + 1) p q (by simpa using h2) (by simpa using h3)) hf
          refine ⟨arr', ?_, hb, hc⟩
          simp only [Instr.fill, hpl]
          rw [if_neg (by simp [hus]; omega)]
          exact ha
        · cases hf
def placesOf (P : Program) (t : TypeId) : Option (List (Nat × Nat)) :=
  match P.underlying t with
  | some (.struct fs) => fs.toList.mapM (fun f => (P.info? f.type).map fun i => (f.offset, i.size))
  | _ => none
def zeroCellsOf (P : Program) (t : TypeId) : Option (List Value) := ((P.info? t).bind (·.zero)).map (·.cells.toList)
section
variable {P : Program} {c : Ctx} {st : St} {ops : Array Oper} {Q : Exit → Act → World → Prop} {rest : List Oper} {o : Oper}
theorem parts_rep {E : Env} {a : Act} {w : World} (hi : Inv c E st a w) (parts : Array (Nat × Operand)) (n : Nat) (p : Nat × AV) (q : Nat × Value)
    (h1 : (parts.toList.map fun x => (x.1, st.ev x.2))[n]? = some p) (h2 : (parts.map fun (i, x) => (i, a.eval x)).toList[n]? = some q) : q.1 = p.1 ∧ RepA E w p.2 q.2 := by
  simp only [List.getElem?_map, Array.toList_map] at h1 h2
  cases hx : parts.toList[n]? with
  | none => rw [hx] at h1; simp at h1
  | some x =>
    rw [hx] at h1 h2
    simp at h1 h2
    subst h1; subst h2
    exact ⟨rfl, hi.ev x.2⟩
theorem Yields.build {t : TypeId} {parts : Array (Nat × Operand)} {zs : List Value} {pl : List (Nat × Nat)} {cs : List AV} (ho : o.op = .build t parts) (hz : zeroCellsOf P t = some zs) (h1 : zs.all (·.oneCell') = true)
    (hp : placesOf P t = some pl) (hf : fillA (pl[·]?) (zs.map constCell) (parts.toList.map fun x => (x.1, st.ev x.2)) = some cs) : Yields P c st o (.agg cs) := fun E a w hi => by
  obtain ⟨arr, ha, hr, h1'⟩ := fill_rel (E := E) (w := w) _ (parts.map fun (i, x) => (i, a.eval x)).toList _ _ zs.toArray (by simpa using RelL.consts E w zs h1) (by simpa using List.all_eq_true.1 h1)
    (by simp) (fun n p q => parts_rep hi parts n p q) hf
  have hb : P.built t (parts.map fun (i, x) => (i, a.eval x)).toList = some arr := by
    unfold placesOf at hp
    unfold zeroCellsOf at hz
    split at hp
    · rename_i fs hu
      unfold Program.built
      cases hi' : P.info? t with
      | none => simp [hi'] at hz
      | some i =>
        simp only [hi', Option.bind_some, Option.map_eq_some_iff] at hz
        obtain ⟨z, hz1, hz2⟩ := hz
        simp only [hu, hz1, hp]
        have e1 : z.cells = zs.toArray := by rw [← hz2]
        rw [e1, ← ha]
        congr 1
        funext i
        simp
    · cases hp
  refine ⟨.agg arr, by simp only [execOp, ho, run_build w t _ _ hb, Sem.run_bind, Result.andThen_ok, Sem.run_pure], ?_⟩
  have := hr.agg h1'
  simpa using this
def AV.toI : AV → Option IV
  | .iv x => some x
  | .nils => some (.sl [])
  | .emp => some (.sl [])
  | .row _ es => some (.sl es)
  | _ => none
theorem RepA.toI {E : Env} {w : World} {v : AV} {x : IV} {u : Value} (h : RepA E w v u) (hx : v.toI = some x) : RepI E.φ w x u := by
  cases v <;> simp only [AV.toI] at hx <;> try (cases hx; done)
  · cases hx; exact h.iv_inv
  · cases hx; cases h; exact .nil
  · cases hx; cases h with | emp hu => subst hu; exact .emp (fun _ => rfl) (Nat.zero_le _)
  · cases hx; cases h with | row hu h => exact h
def toIs : List AV → Option (List IV)
  | [] => some []
  | v :: vs => match v.toI, toIs vs with
    | some x, some xs => some (x :: xs)
    | _, _ => none
theorem toIs_get : ∀ {vs : List AV} {xs : List IV}, toIs vs = some xs → xs.length = vs.length ∧ ∀ (i : Nat) (v : AV) (x : IV), vs[i]? = some v → xs[i]? = some x → v.toI = some x
  | [], xs, h => by simp [toIs] at h; subst h; exact ⟨rfl, fun i v x h => by simp at h⟩
  | v :: vs, xs, h => by
    simp only [toIs] at h
    split at h
    · rename_i x xs' hx hxs
      cases h
      obtain ⟨hl, hg⟩ := toIs_get hxs
      refine ⟨by simp [hl], fun i v' x' hv hx' => ?_⟩
      cases i with
      | zero => simp at hv hx'; subst hv; subst hx'; exact hx
      | succ i => exact hg i v' x' (by simpa using hv) (by simpa using hx')
    · cases h
def chunks (k : Nat) : Nat → List IV → List (List IV)
  | 0, _ => []
  | n + 1, xs => xs.take k :: chunks k n (xs.drop k)
theorem chunks_get (k : Nat) : ∀ (n : Nat) (xs : List IV) (i : Nat) (e : List IV), (chunks k n xs)[i]? = some e → e = (xs.drop (i * k)).take k
  | 0, xs, i, e, h => by simp [chunks] at h
  | n + 1, xs, 0, e, h => by simp [chunks] at h; simp [h]
  | n + 1, xs, i + 1, e, h => by
    have := chunks_get k n (xs.drop k) i e (by simpa [chunks] using h)
    rw [this, List.drop_drop, Nat.add_mul, Nat.one_mul, Nat.add_comm k]
theorem chunks_length (k : Nat) : ∀ (n : Nat) (xs : List IV), (chunks k n xs).length = n
  | 0, _ => rfl
  | n + 1, xs => by simp [chunks, chunks_length]
theorem Makes.buildSlice {t e : TypeId} {n k id : Nat} {parts : Array (Nat × Operand)} {zs : List Value} {cs : List AV} {xs : List IV} (ho : o.op = .buildSlice t n parts) (hs : sliceOk P t e k = true)
    (hz : zeroCellsOf P e = some zs) (h1 : zs.all (·.oneCell') = true) (hzl : zs.length = k) (hn : n * k ≤ 16777216) (hnk : 0 < k)
    (hf : fillA (fun i => some (i * k, k)) ((List.range (n * k)).map fun i => constCell (zs.getD (i % k) undef)) (parts.toList.map fun x => (x.1, st.ev x.2)) = some cs)
    (hx : toIs cs = some xs) (hcl : cs.length = n * k) (hfr : st.fresh id = true) : Makes P c st o (.row id (chunks k n xs)) st.bx ((id, ⟨e, k⟩) :: st.tk) := fun E a w hi => by
  obtain ⟨hu, inf, hinf, hsz⟩ := sliceOk_run hs
  have hz0 : ∃ z, inf.zero = some z ∧ z.cells = zs.toArray := by
    unfold zeroCellsOf at hz
    simp only [hinf, Option.bind_some, Option.map_eq_some_iff] at hz
    obtain ⟨z, hz1, hz2⟩ := hz
    exact ⟨z, hz1, by rw [← hz2]⟩
  obtain ⟨z, hz1, hz2⟩ := hz0
  have hget : ∀ i, i < n * k → zs.toArray[i % zs.toArray.size]! = zs.getD (i % k) undef := fun i hi => by
    have : i % k < zs.length := by rw [hzl]; exact Nat.mod_lt _ hnk
    simp [hzl]
    rw [List.getElem?_eq_getElem this]; rfl
  have hinit : ((Array.range (n * k)).map (zs.toArray[· % zs.toArray.size]!)) = ((List.range (n * k)).map fun i => zs.getD (i % k) undef).toArray := by
    apply Array.ext'
    simp only [Array.toList_map, Array.toList_range]
    exact List.map_congr_left (fun i hi => hget i (List.mem_range.1 hi))
  have hone : ∀ i, i < n * k → (zs.getD (i % k) undef).oneCell' = true := fun i hi => by
    have hlt : i % k < zs.length := by rw [hzl]; exact Nat.mod_lt _ hnk
    have : zs.getD (i % k) undef = zs[i % k] := by simp [hlt]
    rw [this]; exact List.all_eq_true.1 h1 _ (List.getElem_mem hlt)
  have hrel : RelL E w ((List.range (n * k)).map fun i => constCell (zs.getD (i % k) undef)) ((List.range (n * k)).map fun i => zs.getD (i % k) undef) := by
    refine ⟨by simp, fun i c u hc hu => ?_⟩
    simp only [List.getElem?_map] at hc hu
    cases hr : (List.range (n * k))[i]? with
    | none => rw [hr] at hc; simp at hc
    | some j =>
      rw [hr] at hc hu
      simp only [Option.map_some, Option.some.injEq] at hc hu
      subst hc; subst hu
      exact constCell_rep E w _ (hone j (List.mem_range.1 (List.mem_of_getElem? hr)))
  obtain ⟨arr, ha, hr, h1'⟩ := fill_rel (E := E) (w := w) _ (parts.map fun (i, x) => (i, a.eval x)).toList _ _ ((List.range (n * k)).map fun i => zs.getD (i % k) undef).toArray (by simpa using hrel)
    (fun u hu => by
      simp only [List.mem_map, List.mem_range] at hu
      obtain ⟨i, hi', rfl⟩ := hu
      exact hone i hi')
    (by simp) (fun n p q => parts_rep hi parts n p q) hf
  obtain ⟨hxl, hxg⟩ := toIs_get hx
  have hlen : ∀ (i : Nat) (e' : List IV), (chunks k n xs)[i]? = some e' → e'.length = k := fun i e' he => by
    have hlt := (List.getElem?_eq_some_iff.1 he).1
    rw [chunks_length] at hlt
    rw [chunks_get k n xs i e' he]
    simp only [List.length_take, List.length_drop, hxl, hcl]
    have : (i + 1) * k ≤ n * k := Nat.mul_le_mul_right k hlt
    rw [Nat.add_mul, Nat.one_mul] at this
    omega
  obtain ⟨E', hi', hv⟩ := hi.newRow hfr (ty := e) (k := k) (cap := n) (es := chunks k n xs) (us := arr.toList) hlen (by rw [hr.1, hcl]) (by rw [chunks_length]; exact Nat.le_refl _) (by have : n ≤ n * k := Nat.le_mul_of_pos_right n hnk; simp only [maxLen]; omega)
    (fun i e' j x u he hj hu => by
      rw [chunks_get k n xs i e' he] at hj
      rw [List.getElem?_take] at hj
      split at hj
      · rw [List.getElem?_drop] at hj
        have hlt : i * k + j < cs.length := by rw [← hxl]; exact (List.getElem?_eq_some_iff.1 hj).1
        exact (hr.2 _ _ u (List.getElem?_eq_getElem hlt) hu).toI (hxg _ _ x (List.getElem?_eq_getElem hlt) hj)
      · cases hj)
  rw [chunks_length] at hv
  refine ⟨_, E', _, ?_, hi', hv⟩
  have hbig : ¬ (n * k > 2 ^ 24) := by omega
  have hfill : Instr.fill (fun i => some (i * k, k)) ((Array.range (n * k)).map (zs.toArray[· % zs.toArray.size]!)) (parts.map fun (i, x) => (i, a.eval x)).toList = some arr := by rw [hinit]; exact ha
  have hat : arr.toList.toArray = arr := by simp
  rw [hat]
  by_cases h0 : n * k = 0
  · have : n = 0 := by
      rcases Nat.mul_eq_zero.1 h0 with h | h
      · exact h
      · omega
    subst this
    have e0 : Array.range 0 = #[] := rfl
    have hfill' : Instr.fill (fun i => some (i * k, k)) #[] (parts.map fun (i, x) => (i, a.eval x)).toList = some arr := by simpa [e0] using hfill
    simp only [Array.toList_map] at hfill'
    simp [execOp, ho, Instr.buildSlice, run_underlying hu, sizeOf, typeInfo, hinf, hsz, newRow, e0, hfill']
  · simp only [execOp, ho, Instr.buildSlice, Sem.run_bind, run_underlying hu, sizeOf, typeInfo, zeroValue, run_program, hinf, hsz, hz1, hz2, Result.andThen_ok, Sem.run_pure, hbig, h0, if_false, hfill, newRow, run_newObj, Sem.run_ite]
    rfl
end
end Go.Abs
/- A logic of abstract states, part 7: stores into own blocks, append. Conditions: each rule's own premises; over any program. -/
namespace Go.Abs
open Go.RowKit (Below)
set_option linter.unusedVariables false
theorem lookup_filter_ne {β : Type} {p : Nat → Bool} : ∀ {l : List (Nat × β)} {s : Nat} {v : β}, (l.filter (fun q => p q.1)).lookup s = some v → p s = true
  | [], s, v, h => by simp at h
  | (t, u) :: l, s, v, h => by
    by_cases hp : p t = true
    · by_cases e : s = t
      · rw [e]; exact hp
      · have e' : (s == t) = false := by simpa using e
        exact lookup_filter_ne (l := l) (by simpa [List.filter_cons, hp, List.lookup, e'] using h)
    · simp only [Bool.not_eq_true] at hp
      exact lookup_filter_ne (l := l) (by simpa [List.filter_cons, hp] using h)
def delTok (id : Nat) (tk : List (Nat × Tok)) : List (Nat × Tok) := tk.filter (fun p => (fun n => n != id) p.1)
theorem delTok_get {id j : Nat} {tk : List (Nat × Tok)} {t : Tok} (h : (delTok id tk).lookup j = some t) : j ≠ id ∧ tk.lookup j = some t :=
  ⟨by simpa using lookup_filter_ne (p := fun n => n != id) h, lookup_filter_key (fun n => n != id) tk j t h⟩
theorem cell_setRow_ne (w : World) (g : Nat) (cs : Array Value) (b o : Nat) (h : b ≠ g) : (w.setRow g cs).cell? ⟨b, o, none⟩ = w.cell? ⟨b, o, none⟩ := cell_setRow_other w g cs ⟨b, o, none⟩ h
section
variable {c : Ctx} {E : Env} {st : St} {a : Act} {w : World}
theorem HInv.recell {bx : List (Nat × Box)} {tk : List (Nat × Tok)} (h : HInv c E bx tk w) {id : Nat} {b b' : Box} (hb : bx.lookup id = some b) (ht : b.ty = b'.ty) (hc : Subs b.cs b'.cs) : HInv c E ((id, b') :: bx) tk w := by
  refine HInv.wk (st := ⟨[], bx, tk⟩) (st' := ⟨[], (id, b') :: bx, tk⟩) h ⟨fun i hin => ?_, fun s v hv => by simp at hv, fun i b1 hi => ?_, fun i t h => h⟩
  · by_cases e : i = id
    · subst e; show (List.lookup i ((i, b') :: bx)).isSome = true; rw [lookup_cons_eq]; rfl
    · show (List.lookup i ((id, b') :: bx)).isSome = true; rw [lookup_cons_ne e]; exact (h.ins i hin).2.2
  · have hi : List.lookup i ((id, b') :: bx) = some b1 := hi
    by_cases e : i = id
    · subst e; rw [lookup_cons_eq] at hi; cases hi; exact ⟨b, hb, ht, hc⟩
    · rw [lookup_cons_ne e] at hi; exact ⟨b1, hi, rfl, Subs.refl _⟩
theorem Inv.setBox (hi : Inv c E st a w) {id : Nat} {b : Box} (hb : st.bx.lookup id = some b) (hbn : b.cs ≠ []) {arr rest : List Value} (ha : w.heap[E.ρ id]? = some (.cells (arr ++ rest).toArray b.ty (0, 0)))
    (h1r : ∀ u ∈ rest, u.oneCell' = true) {cs : List AV} {us : List Value} (hl : us.length = arr.length) (hr : RelL E w cs us) (h1 : ∀ u ∈ us, u.oneCell' = true) :
    Inv c E ⟨st.fr, (id, ⟨b.ty, cs⟩) :: st.bx, st.tk⟩ a (w.setRow (E.ρ id) (us ++ rest).toArray) := by
  obtain ⟨h0, arr0, ha0, hla, h1a, hra, hq⟩ := hi.heap.box id b hb hbn
  have hk : Keeps E.φ w (w.setRow (E.ρ id) (us ++ rest).toArray) := fun b' o ho => by
    have : b' ≠ E.ρ id := fun e => by rw [e, h0] at ho; cases ho
    exact cell_setRow_ne w _ _ _ _ this
  have hlt : E.ρ id < w.heap.size := (Array.getElem?_eq_some_iff.1 ha).1
  have hsz : arr0.length = (us ++ rest).length := by
    rw [ha] at ha0
    simp only [Option.some.injEq, Obj.cells.injEq] at ha0
    have h9 : arr ++ rest = arr0 := congrArg Array.toList ha0.1
    rw [← h9, List.length_append, List.length_append, hl]
  refine ⟨hi.defers, hi.size, fun s v hv => (hi.slot s v hv).keep hk, ⟨fun i b' hb' hn => ?_, fun i t ht => ?_, fun i j b1 b2 hi' hj hn hn' he => ?_, hi.heap.tt, fun i j b1 t hi' hn hj => ?_, fun i b1 hi' hn => ?_, hi.heap.ownt, fun b' hb' => ?_, hi.heap.old, fun i hin => ?_, ?_⟩⟩
  · by_cases e : i = id
    · subst e; rw [lookup_cons_eq] at hb'; cases hb'
      refine ⟨h0, us ++ rest, ?_, ?_, ?_, fun i x u hx hu => ?_, fun k cap he => by rw [← hsz]; exact hq k cap he⟩
      · exact setRow_heap w _ _ _ _ _ ha
      · rw [List.length_append, hr.1]; exact Nat.le_add_right _ _
      · intro u hu
        rcases List.mem_append.1 hu with hu | hu
        · exact h1 u hu
        · exact h1r u hu
      · have hlt' := (List.getElem?_eq_some_iff.1 hx).1
        rw [List.getElem?_append_left (by rw [hr.1]; exact hlt')] at hu
        exact (hr.2 i x u hx hu).keep hk
    · rw [lookup_cons_ne e] at hb'
      obtain ⟨h0', arr', ha', hla', h1a', hra', hq'⟩ := hi.heap.box i b' hb' hn
      refine ⟨h0', arr', ?_, hla', h1a', fun i x u hx hu => (hra' i x u hx hu).keep hk, hq'⟩
      rw [setRow_other w _ _ _ (fun e' => e (hi.heap.bb i id b' b hb' hb hn hbn e'))]; exact ha'
  · rcases hi.heap.tok i t ht with hn | ⟨g, n, cap, cur, hv, hg, rest⟩
    · exact .inl hn
    · refine .inr ⟨g, n, cap, cur, hv, ?_, rest⟩
      rw [setRow_other w _ _ _ (fun e' => hi.heap.bt id i b t hb hbn ht (by rw [hv]; simp [Value.ownBlock, e']))]; exact hg
  · have f : ∀ (i : Nat) (b1 : Box), List.lookup i ((id, ⟨b.ty, cs⟩) :: st.bx) = some b1 → b1.cs ≠ [] → ∃ b2, st.bx.lookup i = some b2 ∧ b2.cs ≠ [] := fun i b1 h hn => by
      by_cases e : i = id
      · subst e; exact ⟨b, hb, hbn⟩
      · rw [lookup_cons_ne e] at h; exact ⟨b1, h, hn⟩
    obtain ⟨b3, h3, n3⟩ := f i b1 hi' hn
    obtain ⟨b4, h4, n4⟩ := f j b2 hj hn'
    exact hi.heap.bb i j b3 b4 h3 h4 n3 n4 he
  · by_cases e : i = id
    · subst e; exact hi.heap.bt i j b t hb hbn hj
    · rw [lookup_cons_ne e] at hi'; exact hi.heap.bt i j b1 t hi' hn hj
  · by_cases e : i = id
    · subst e; exact hi.heap.own i b hb hbn
    · rw [lookup_cons_ne e] at hi'; exact hi.heap.own i b1 hi' hn
  · exact hi.heap.new b' (by simpa using hb')
  · obtain ⟨e1, e2, e3⟩ := hi.heap.ins i hin
    refine ⟨e1, e2, ?_⟩
    by_cases e : i = id
    · subst e; rw [lookup_cons_eq]; rfl
    · rw [lookup_cons_ne e]; exact e3
  · refine hi.heap.kept.next rfl rfl rfl (by simp) (fun k hk' hm => ?_)
    have : k ≠ E.ρ id := fun e => by
      rcases hi.heap.own id b hb hbn with h | h
      · omega
      · rw [← e] at h; exact hm h
    exact setRow_other w _ _ _ this
theorem Inv.growRow (hi : Inv c E st a w) {id id' : Nat} (hf : st.fresh id' = true) {t : Tok} (ht : st.tk.lookup id = some t) {g n n' cap : Nat} {cur cur' : Array Value} (hv : E.η id = .slice (some ⟨g, 0, none⟩) n cap)
    (hg : w.heap[g]? = some (.cells cur t.ty (0, 0))) (hφ : E.φ g ≤ n * t.k) (hs : cap * t.k ≤ cur'.size) (hsame : ∀ o, o < n * t.k → cur'[o]? = cur[o]?) (hn : n ≤ n') (hc : n' ≤ cap) (hm : cap ≤ maxLen) :
    Inv c ⟨fun b => if b = g then n' * t.k else E.φ b, E.ρ, fun i => if i = id' then .slice (some ⟨g, 0, none⟩) n' cap else E.η i⟩ ⟨st.fr, st.bx, (id', t) :: delTok id st.tk⟩ a (w.setRow g cur') ∧
      Keeps E.φ w (w.setRow g cur') ∧ ∀ b, E.φ b ≤ (if b = g then n' * t.k else E.φ b) := by
  have hk : Keeps E.φ w (w.setRow g cur') := fun b o ho => by
    by_cases e : b = g
    · subst e
      rw [cell_of_row _ _ _ _ _ _ (setRow_heap w b cur cur' _ _ hg), cell_of_row w _ _ _ _ _ hg]
      exact hsame o (by omega)
    · exact cell_setRow_ne w _ _ _ _ e
  have hle : ∀ b, E.φ b ≤ (if b = g then n' * t.k else E.φ b) := fun b => by
    split
    · rename_i e; subst e; exact Nat.le_trans hφ (Nat.mul_le_mul_right _ hn)
    · exact Nat.le_refl _
  have hlt : g < w.heap.size := (Array.getElem?_eq_some_iff.1 hg).1
  have hown : (E.η id).ownBlock = some g := by rw [hv]; rfl
  have hidne : id ≠ id' := St.fresh_tk hf ht
  have mono : ∀ (x : AV) (u : Value), AV.ment id' x = false → RepA E w x u → RepA ⟨fun b => if b = g then n' * t.k else E.φ b, E.ρ, fun i => if i = id' then .slice (some ⟨g, 0, none⟩) n' cap else E.η i⟩ (w.setRow g cur') x u := fun x u hm hr =>
    hr.mono hk hle (fun i hi' => by
      have : i ≠ id' := fun e => by subst e; rw [hm] at hi'; cases hi'
      exact ⟨rfl, by simp [this]⟩)
  refine ⟨⟨hi.defers, hi.size, fun s v hv => mono v _ (St.fresh_fr hf hv) (hi.slot s v hv), ?_⟩, hk, hle⟩
  have base : HInv c ⟨fun b => if b = g then n' * t.k else E.φ b, E.ρ, fun i => if i = id' then .slice (some ⟨g, 0, none⟩) n' cap else E.η i⟩ st.bx (delTok id st.tk) (w.setRow g cur') := by
    have hη : ∀ i, i ≠ id' → (if i = id' then Value.slice (some ⟨g, 0, none⟩) n' cap else E.η i) = E.η i := fun i h => by simp [h]
    refine ⟨fun i b hb hn => ?_, fun i t' ht' => ?_, hi.heap.bb, fun i j t1 t2 g' hi' hj h1 h2 => ?_, fun i j b t1 hb hn hj => ?_, hi.heap.own, fun j t1 g' hj hg' => ?_, fun b hb => ?_, fun b hb => ?_, fun i hin => ?_, ?_⟩
    · obtain ⟨h0, arr, ha, hl, h1, hr, hq⟩ := hi.heap.box i b hb hn
      have hne : E.ρ i ≠ g := fun e => hi.heap.bt i id b t hb hn ht (by rw [hown, e])
      refine ⟨by simp only; rw [if_neg hne]; exact h0, arr, by rw [setRow_other w _ _ _ hne]; exact ha, hl, h1, fun k x u hx hu => mono x u (AV.ments_false (St.fresh_bx hf hb).2 k x hx) (hr k x u hx hu), fun k cap he => hq k cap (by simpa only [hη i (St.fresh_bx hf hb).1] using he)⟩
    · obtain ⟨hne, hl⟩ := delTok_get ht'
      have hne' := St.fresh_tk hf hl
      rcases hi.heap.tok i t' hl with hn' | ⟨g', m, cap', cur1, hv', hg', r1, r2, r3, r4⟩
      · exact .inl (by simp only; rw [hη i hne']; exact hn')
      · have hgg : g' ≠ g := fun e => hne (hi.heap.tt i id t' t g hl ht (by rw [hv', e]; rfl) hown)
        exact .inr ⟨g', m, cap', cur1, by simp only; rw [hη i hne']; exact hv', by rw [setRow_other w _ _ _ hgg]; exact hg', r1, r2, r3, by simp only; rw [if_neg hgg]; exact r4⟩
    · obtain ⟨n1, l1⟩ := delTok_get hi'
      obtain ⟨n2, l2⟩ := delTok_get hj
      simp only at h1 h2
      rw [hη i (St.fresh_tk hf l1)] at h1
      rw [hη j (St.fresh_tk hf l2)] at h2
      exact hi.heap.tt i j t1 t2 g' l1 l2 h1 h2
    · obtain ⟨n2, l2⟩ := delTok_get hj
      simp only
      rw [hη j (St.fresh_tk hf l2)]
      exact hi.heap.bt i j b t1 hb hn l2
    · obtain ⟨n2, l2⟩ := delTok_get hj
      simp only at hg'
      rw [hη j (St.fresh_tk hf l2)] at hg'
      exact hi.heap.ownt j t1 g' l2 hg'
    · simp only
      have hb' : w.heap.size ≤ b := by simpa using hb
      rw [if_neg (by omega)]
      exact hi.heap.new b hb'
    · simp only
      have : c.w0.heap.size ≤ g := hi.heap.ownt id t g ht hown
      rw [if_neg (by omega)]
      exact hi.heap.old b hb
    · obtain ⟨e1, e2, e3⟩ := hi.heap.ins i hin
      obtain ⟨b, hb⟩ := Option.isSome_iff_exists.1 e3
      exact ⟨e1, (hη i (St.fresh_bx hf hb).1).trans e2, e3⟩
    · refine hi.heap.kept.next rfl rfl rfl (by simp) (fun k hk' hm => ?_)
      have : c.w0.heap.size ≤ g := hi.heap.ownt id t g ht hown
      exact setRow_other w _ _ _ (by omega)
  have hid : (if id' = id' then Value.slice (some ⟨g, 0, none⟩) n' cap else E.η id') = .slice (some ⟨g, 0, none⟩) n' cap := by simp
  refine base.addTok ?_ ?_ ?_ ?_
  · exact .inr ⟨g, n', cap, cur', hid, setRow_heap w g cur cur' _ _ hg, hc, hm, hs, by simp⟩
  · intro j t' g' hne hj hg'
    show (if id' = id' then Value.slice (some ⟨g, 0, none⟩) n' cap else E.η id').ownBlock ≠ some g'
    rw [hid]
    obtain ⟨n2, l2⟩ := delTok_get hj
    simp only [hne, if_false] at hg'
    intro e
    simp only [Value.ownBlock, Option.some.injEq] at e
    subst e
    exact n2 (hi.heap.tt j id t' t g l2 ht hg' hown)
  · intro i b hb hn
    show (if id' = id' then Value.slice (some ⟨g, 0, none⟩) n' cap else E.η id').ownBlock ≠ some (E.ρ i)
    rw [hid]
    intro e
    simp only [Value.ownBlock, Option.some.injEq] at e
    exact hi.heap.bt i id b t hb hn ht (by rw [hown, e])
  · intro g' hg'
    have hg2 : (if id' = id' then Value.slice (some ⟨g, 0, none⟩) n' cap else E.η id').ownBlock = some g' := hg'
    rw [hid] at hg2
    simp only [Value.ownBlock, Option.some.injEq] at hg2
    subst hg2; exact hi.heap.ownt id t g ht hown
end
section
variable {P : Program} {c : Ctx} {st : St} {ops : Array Oper} {Q : Exit → Act → World → Prop} {rest : List Oper} {o : Oper}
def Does (P : Program) (c : Ctx) (st : St) (o : Oper) (bx : List (Nat × Box)) (tk : List (Nat × Tok)) : Prop :=
  ∀ (E : Env) (a : Act) (w : World), Inv c E st a w → ∃ (E' : Env) (w' : World), (execOp a.eval o).run P w = .ok .skip w' ∧ Inv c E' ⟨st.fr, bx, tk⟩ a w'
theorem L.does {bx : List (Nat × Box)} {tk : List (Nat × Tok)} (hg : o.guard = none) (hd : o.dst = none) (hy : Does P c st o bx tk)
    (h : L c ⟨st.fr, bx, tk⟩ (wpList P ops Q rest)) : L c st (wpList P ops Q (o :: rest)) := by
  rintro a w ⟨E, hi⟩
  obtain ⟨E', w', hr, hi'⟩ := hy E a w hi
  refine wpList_plain hg (fun K hK => ?_)
  unfold Oper.wp
  rw [hr]
  simp only [Oper.upon_skip, hd, Act.put]
  exact hK _ _ (h _ _ ⟨E', hi'⟩)
theorem Does.store {t : TypeId} {x y : Operand} {id off k : Nat} {b : Box} {v : AV} {agg : Bool} (ho : o.op = .store t x y) (ht : varOk P t agg k = true) (hx : st.ev x = .ptr id off) (hb : st.bx.lookup id = some b)
    (hy : st.ev y = v) (hv : v.lays = true) (hk : v.cells.length = k) (hle : off + k ≤ b.cs.length) : Does P c st o ((id, ⟨b.ty, setA b.cs off v.cells⟩) :: st.bx) st.tk := fun E a w hi => by
  obtain ⟨arr, rest, ha, hr, h1, h1r, hc⟩ := hi.boxCell hb
  have hyv := hi.ev y
  rw [hy] at hyv
  obtain ⟨hrv, h1v⟩ := hyv.lay hv
  have hul : (a.eval y).cells.toList.length = k := by rw [hrv.1, hk]
  have hnew : RelL E w (setA b.cs off v.cells) (arr.take off ++ ((a.eval y).cells.toList ++ arr.drop (off + k))) := by
    unfold setA; rw [hk]; exact (hr.take off).append (hrv.append (hr.drop (off + k)))
  by_cases hbn : b.cs = []
  · -- nothing is stored
    have hk0 : k = 0 := by rw [hbn] at hle; simp at hle; omega
    have ho0 : off = 0 := by rw [hbn] at hle; simp at hle; omega
    have he : (a.eval y).cells = #[] := by
      apply Array.ext'; exact List.eq_nil_of_length_eq_zero (by rw [hul, hk0])
    have hv0 : v.cells = [] := List.eq_nil_of_length_eq_zero (by rw [hk, hk0])
    refine ⟨E, w, ?_, ?_⟩
    · simp [execOp, ho, hi.ptr hx, Instr.storeAt, Instr.sureAddr, storeVar, (varOk_agg ht w).2, he, hk0, storeCells]
    · have hb' : setA b.cs off v.cells = b.cs := by rw [hbn, hv0, ho0]; rfl
      exact ⟨hi.defers, hi.size, hi.slot, hi.heap.recell hb rfl (by rw [Box.cs_l, hb']; exact Subs.refl _)⟩
  have hrun := run_storeCells_at P (E.ρ id) off b.ty (a.eval y).cells.toList 0 (arr ++ rest).toArray w (ha hbn) (by rw [hul]; simp [hr.1]; omega) h1v
  refine ⟨E, _, ?_, hi.setBox hb hbn (ha hbn) h1r (us := arr.take off ++ ((a.eval y).cells.toList ++ arr.drop (off + k))) ?_ hnew ?_⟩
  · have hsz : (a.eval y).cells.size = k := by simpa using hul
    have hrun' : (storeCells ⟨E.ρ id, off, none⟩ (a.eval y).cells.toList).run P w = .ok () (w.setRow (E.ρ id) ((arr.take off ++ ((a.eval y).cells.toList ++ arr.drop (off + k))) ++ rest).toArray) := by
      have h1 : off + k ≤ arr.length := by rw [hr.1]; exact hle
      rw [hrun]; simp only [Nat.add_zero, hul, List.append_assoc]
      rw [List.take_append_of_le_length (by omega), List.drop_append_of_le_length h1]
    simp [execOp, ho, hi.ptr hx, Instr.storeAt, Instr.sureAddr, storeVar, (varOk_agg ht w).2, hsz, hrun']
  · have h1 : off + k ≤ arr.length := by rw [hr.1]; exact hle
    simp only [List.length_append, List.length_take, List.length_drop, hul]; omega
  · intro u hu
    rcases List.mem_append.1 hu with hu | hu
    · exact h1 u (List.mem_of_mem_take hu)
    · rcases List.mem_append.1 hu with hu | hu
      · exact h1v u hu
      · exact h1 u (List.mem_of_mem_drop hu)
end
end Go.Abs
/- A logic of abstract states, part 8: append. Conditions: each rule's own premises; over any program. -/
namespace Go.Abs
open Go.RowKit (Below)
set_option linter.unusedVariables false
def Src (P : Program) (w : World) (x : Value) (k m : Nat) (news : List Value) : Prop :=
  (Builtin.lenOf x).run P w = .ok m w ∧ (Builtin.firstCells k m x).run P w = .ok news.toArray w ∧ (Builtin.firstCells k m x).run P w.drew = .ok news.toArray w.drew
theorem Src.nil (P : Program) (w : World) (k : Nat) : Src P w (.slice none 0 0) k 0 [] := ⟨rfl, by simp [Builtin.firstCells], by simp [Builtin.firstCells]⟩
theorem Src.some {P : Program} {w : World} {k m cap : Nat} {b : Addr} {news : List Value} (hl : news.length = m * k) (h : ∀ j v, news[j]? = some v → w.cell? (b.add j) = some v) : Src P w (.slice (some b) m cap) k m news :=
  ⟨rfl, run_firstCells_some w k m b m cap news hl h, run_firstCells_some w.drew k m b m cap news hl (by simpa using h)⟩
def notInt (d : TypeDesc) : Prop := (∃ e, d = .slice e) ∨ d = .string
section
variable {P : Program} {w : World} {t t' ty e : TypeId} {d : TypeDesc} {i : TypeInfo} {x : Value} {m : Nat} {news : List Value}
theorem app_room (ht : P.underlying t = some (.slice e)) (hd : P.underlying t' = some d) (hn : notInt d) (hi : P.info? e = some i) (hs : Src P w x i.size m news) (hl : news.length = m * i.size)
    {g n cap : Nat} {cur : Array Value} (hg : w.heap[g]? = some (.cells cur e (0, 0))) (h1 : ∀ u ∈ news, u.oneCell' = true) (hroom : n + m ≤ cap) (hfit : n * i.size + news.length ≤ cur.size) :
    (Builtin.append_ #[t, t'] ty #[.slice (some ⟨g, 0, none⟩) n cap, x]).run P w =
      .ok (.slice (some ⟨g, 0, none⟩) (n + m) cap) (w.setRow g (cur.toList.take (n * i.size) ++ news ++ cur.toList.drop (n * i.size + news.length)).toArray) := by
  have hst := run_storeCells_at P g (n * i.size) e news 0 cur w hg (by simpa using hfit) h1
  simp only [Nat.add_zero] at hst
  obtain ⟨hs1, hs2, _⟩ := hs
  rcases hn with ⟨e', rfl⟩ | rfl <;> simp [Builtin.append_, run_underlying ht, run_underlying hd, sizeOf, typeInfo, hi, hs1, hroom, hs2, Addr.add_none, hst]
theorem app_none (ht : P.underlying t = some (.slice e)) (hd : P.underlying t' = some d) (hn : notInt d) (hi : P.info? e = some i) (hs : Src P w x i.size 0 []) :
    (Builtin.append_ #[t, t'] ty #[.slice none 0 0, x]).run P w = .ok (.slice none 0 0) w := by
  obtain ⟨hs1, hs2, _⟩ := hs
  rcases hn with ⟨e', rfl⟩ | rfl <;> simp [Builtin.append_, run_underlying ht, run_underlying hd, sizeOf, typeInfo, hi, hs1, hs2]
theorem app_grow (ht : P.underlying t = some (.slice e)) (hd : P.underlying t' = some d) (hn : notInt d) (hi : P.info? e = some i) {z : Value} (hz : i.zero = some z) (hs : Src P w x i.size m news)
    {base : Option Addr} {n cap : Nat} {olds : List Value} (ho : (Builtin.firstCells i.size n (.slice base n cap)).run P w.drew = .ok olds.toArray w.drew)
    (hg : cap < n + m) (h63 : ((n + m : Nat) : Int) ≤ 9223372036854775807) (hfit : Builtin.nextslicecap (n + m) cap * i.bytes ≤ 281474976710656) :
    (Builtin.append_ #[t, t'] ty #[.slice base n cap, x]).run P w =
      .ok (.slice (some ⟨w.heap.size, 0, none⟩) (n + m) (grownCap w (n + m) cap e))
        (w.drew.alloc (.cells (olds ++ (news ++ (Builtin.zeroCells z.cells (grownCap w (n + m) cap e - (n + m))).toList)).toArray e)) := by
  have hn' : ¬ (n + m ≤ cap) := by omega
  have h63' : ¬ (9223372036854775807 < ((n : Int) + (m : Int))) := by omega
  have h48' : ¬ (281474976710656 < Builtin.nextslicecap (n + m) cap * i.bytes) := by omega
  obtain ⟨hs1, _, hs3⟩ := hs
  rcases hn with ⟨e', rfl⟩ | rfl
  all_goals
    simp [Builtin.append_, run_underlying ht, run_underlying hd, sizeOf, typeInfo, zeroValue, hi, hz, hs1, hn', h63', h48', Question.forced, ho, hs3, newRow, grownCap]
    try (congr 2; apply Array.ext'; simp)
end
theorem idx_div {k i j : Nat} (hj : j < k) : (i * k + j) / k = i ∧ (i * k + j) % k = j := by
  have hk : 0 < k := Nat.lt_of_le_of_lt (Nat.zero_le _) hj
  constructor
  · rw [Nat.mul_comm, Nat.mul_add_div hk, Nat.div_eq_of_lt hj]; rfl
  · rw [Nat.mul_comm, Nat.mul_add_mod, Nat.mod_eq_of_lt hj]
theorem RepI.cellsOf {φ : Nat → Nat} {w : World} {es : List (List IV)} {u : Value} {k : Nat} (h : RepI φ w (.sl es) u) (hk : ∀ e ∈ es, e.length = k) (hk0 : 0 < k) :
    ∃ us : List Value, us.length = es.length * k ∧ (∀ x ∈ us, x.oneCell' = true) ∧ (∀ (i : Nat) (e : List IV) (j : Nat) (x : IV) (v : Value), es[i]? = some e → e[j]? = some x → us[i * k + j]? = some v → RepI φ w x v) ∧
      ((u = .slice none 0 0 ∧ es = []) ∨ (∃ (ad : Addr) (cap : Nat), u = .slice (some ad) 0 cap ∧ ad.spot ≠ none ∧ es = []) ∨ ∃ b o cap, u = .slice (some ⟨b, o, none⟩) es.length cap ∧ es.length ≤ cap ∧ cap ≤ maxLen ∧ ∀ j, j < es.length * k → w.cell? ⟨b, o + j, none⟩ = us[j]? ∧ o + j < φ b) := by
  rcases h.sl_inv with ⟨rfl, rfl⟩ | ⟨ad, cap, rfl, hs, hm, rfl⟩ | ⟨b, o, cap, k', f, rfl, hc, hm, hk', hcell⟩
  · exact ⟨[], by simp, by simp, fun i e j x v h1 => by simp at h1, .inl ⟨rfl, rfl⟩⟩
  · exact ⟨[], by simp, by simp, fun i e j x v h1 => by simp at h1, .inr (.inl ⟨ad, cap, rfl, hs, rfl⟩)⟩
  · have hkk : es ≠ [] → k' = k := fun hne => by
      obtain ⟨e0, r, rfl⟩ := List.exists_cons_of_ne_nil hne
      rw [← hk' 0 e0 rfl, hk e0 List.mem_cons_self]
    have key : ∀ j, j < es.length * k → ∃ (e : List IV) (x : IV), es[j / k]? = some e ∧ e[j % k]? = some x ∧ o + j < φ b ∧ w.cell? ⟨b, o + j, none⟩ = some (f (j / k) (j % k)) ∧ RepI φ w x (f (j / k) (j % k)) := fun j hj => by
      have hi : j / k < es.length := (Nat.div_lt_iff_lt_mul hk0).2 hj
      have he : es[j / k]? = some es[j / k] := List.getElem?_eq_getElem hi
      have hjk : j % k < es[j / k].length := by rw [hk _ (List.getElem_mem hi)]; exact Nat.mod_lt _ hk0
      have hne : es ≠ [] := fun e => by subst e; simp at hi
      have := hcell (j / k) _ (j % k) _ he (List.getElem?_eq_getElem hjk)
      rw [hkk hne, show o + j / k * k + j % k = o + j by rw [Nat.add_assoc, Nat.mul_comm, Nat.div_add_mod]] at this
      exact ⟨_, _, he, List.getElem?_eq_getElem hjk, this⟩
    have hget : ∀ j, j < es.length * k → ((List.range (es.length * k)).map fun j => f (j / k) (j % k))[j]? = some (f (j / k) (j % k)) := fun j hj => by
      rw [List.getElem?_map, List.getElem?_range hj]; rfl
    refine ⟨(List.range (es.length * k)).map fun j => f (j / k) (j % k), by simp, fun x hx => ?_, fun i e j x v h1 h2 h3 => ?_, .inr (.inr ⟨b, o, cap, rfl, hc, hm, fun j hj => ?_⟩)⟩
    · simp only [List.mem_map, List.mem_range] at hx
      obtain ⟨j, hj, rfl⟩ := hx
      obtain ⟨_, _, _, _, _, _, hr⟩ := key j hj
      exact hr.oneCell
    · have hj : j < k := by rw [← hk e (List.mem_of_getElem? h1)]; exact (List.getElem?_eq_some_iff.1 h2).1
      have hi := (List.getElem?_eq_some_iff.1 h1).1
      have hlt : i * k + j < es.length * k := by
        calc i * k + j < i * k + k := by omega
          _ = (i + 1) * k := by rw [Nat.add_mul, Nat.one_mul]
          _ ≤ es.length * k := Nat.mul_le_mul_right k hi
      rw [hget _ hlt, (idx_div hj).1, (idx_div hj).2] at h3
      cases h3
      exact (hcell i e j x h1 h2).2.2
    · obtain ⟨_, _, _, _, h1, h2, _⟩ := key j hj
      rw [hget j hj]; exact ⟨h2, h1⟩
theorem Inv.nilTok {c : Ctx} {E : Env} {st : St} {a : Act} {w : World} (hi : Inv c E st a w) {id : Nat} (hf : st.fresh id = true) (t : Tok) :
    Inv c ⟨E.φ, E.ρ, fun i => if i = id then .slice none 0 0 else E.η i⟩ ⟨st.fr, st.bx, (id, t) :: st.tk⟩ a w ∧
      (∀ (x : AV) (u : Value), AV.ment id x = false → RepA E w x u → RepA ⟨E.φ, E.ρ, fun i => if i = id then .slice none 0 0 else E.η i⟩ w x u) := by
  have mono : ∀ (x : AV) (u : Value), AV.ment id x = false → RepA E w x u → RepA ⟨E.φ, E.ρ, fun i => if i = id then .slice none 0 0 else E.η i⟩ w x u := fun x u hm hr =>
    RepA.mono (E := E) (w := w) (w' := w) (h := hr) (E' := ⟨E.φ, E.ρ, fun i => if i = id then .slice none 0 0 else E.η i⟩) (fun _ _ _ => rfl) (fun _ => Nat.le_refl _) (fun i hi' => by
      have : i ≠ id := fun e => by subst e; rw [hm] at hi'; cases hi'
      exact ⟨rfl, by simp [this]⟩)
  have hη : ∀ i, i ≠ id → (if i = id then Value.slice none 0 0 else E.η i) = E.η i := fun i h => by simp [h]
  refine ⟨⟨hi.defers, hi.size, fun s v hv => mono v _ (St.fresh_fr hf hv) (hi.slot s v hv), ?_⟩, mono⟩
  have base : HInv c ⟨E.φ, E.ρ, fun i => if i = id then .slice none 0 0 else E.η i⟩ st.bx st.tk w := by
    refine ⟨fun i b hb hn => ?_, fun i t' ht' => ?_, hi.heap.bb, fun i j t1 t2 g' hi' hj h1 h2 => ?_, fun i j b t1 hb hn hj => ?_, hi.heap.own, fun j t1 g' hj hg' => ?_, hi.heap.new, hi.heap.old, fun i hin => ?_, hi.heap.kept⟩
    · obtain ⟨h0, arr, ha, hl, h1, hr, hq⟩ := hi.heap.box i b hb hn
      exact ⟨h0, arr, ha, hl, h1, fun k x u hx hu => mono x u (AV.ments_false (St.fresh_bx hf hb).2 k x hx) (hr k x u hx hu), fun k cap he => hq k cap (by simpa only [hη i (St.fresh_bx hf hb).1] using he)⟩
    · rcases hi.heap.tok i t' ht' with hn | ⟨g, n, cap, cur, hv, rest⟩
      · exact .inl (by simp only; rw [hη i (St.fresh_tk hf ht')]; exact hn)
      · exact .inr ⟨g, n, cap, cur, by simp only; rw [hη i (St.fresh_tk hf ht')]; exact hv, rest⟩
    · simp only at h1 h2
      rw [hη i (St.fresh_tk hf hi')] at h1
      rw [hη j (St.fresh_tk hf hj)] at h2
      exact hi.heap.tt i j t1 t2 g' hi' hj h1 h2
    · simp only
      rw [hη j (St.fresh_tk hf hj)]
      exact hi.heap.bt i j b t1 hb hn hj
    · simp only at hg'
      rw [hη j (St.fresh_tk hf hj)] at hg'
      exact hi.heap.ownt j t1 g' hj hg'
    · obtain ⟨e1, e2, e3⟩ := hi.heap.ins i hin
      obtain ⟨b, hb⟩ := Option.isSome_iff_exists.1 e3
      exact ⟨e1, (hη i (St.fresh_bx hf hb).1).trans e2, e3⟩
  have hid : (if id = id then Value.slice none 0 0 else E.η id) = .slice none 0 0 := by simp
  refine base.addTok (.inl hid) (fun j t' g _ _ _ => ?_) (fun i b _ _ => ?_) (fun g hg => ?_)
  · show (if id = id then Value.slice none 0 0 else E.η id).ownBlock ≠ some g
    rw [hid]; simp [Value.ownBlock]
  · show (if id = id then Value.slice none 0 0 else E.η id).ownBlock ≠ some (E.ρ i)
    rw [hid]; simp [Value.ownBlock]
  · have hg' : (if id = id then Value.slice none 0 0 else E.η id).ownBlock = some g := hg
    rw [hid] at hg'; simp [Value.ownBlock] at hg'
theorem Inv.delTok {c : Ctx} {E : Env} {st : St} {a : Act} {w : World} (hi : Inv c E st a w) (id : Nat) : Inv c E ⟨st.fr, st.bx, Abs.delTok id st.tk⟩ a w :=
  ⟨hi.defers, hi.size, hi.slot, hi.heap.wk (st := st) (st' := ⟨st.fr, st.bx, Abs.delTok id st.tk⟩)
    ⟨fun i hin => (hi.heap.ins i hin).2.2, fun s v h => ⟨v, h, Sub.refl _⟩, fun i b h => ⟨b, h, rfl, Subs.refl _⟩, fun i t h => (delTok_get h).2⟩⟩
theorem fresh_delTok {id id' : Nat} {st : St} (hf : st.fresh id' = true) : St.fresh id' ⟨st.fr, st.bx, Abs.delTok id st.tk⟩ = true := by
  simp only [St.fresh, Bool.and_eq_true, List.all_eq_true] at hf ⊢
  exact ⟨hf.1, fun p hp => hf.2 p (List.mem_filter.1 hp).1⟩
section
variable {P : Program} {c : Ctx} {st : St} {ops : Array Oper} {Q : Exit → Act → World → Prop} {rest : List Oper} {o : Oper}
def Adds (P : Program) (c : Ctx) (st : St) (y : Operand) (k : Nat) (news : List (List IV)) : Prop :=
  ∀ (E : Env) (a : Act) (w : World), Inv c E st a w → ∃ us : List Value, Src P w (a.eval y) k news.length us ∧ us.length = news.length * k ∧ (∀ x ∈ us, x.oneCell' = true) ∧
    ∀ (i : Nat) (e : List IV) (j : Nat) (x : IV) (v : Value), news[i]? = some e → e[j]? = some x → us[i * k + j]? = some v → RepI E.φ w x v
theorem Adds.slice {y : Operand} {k : Nat} {news : List (List IV)} (hy : (st.ev y).sl? = some news) (hk : ∀ e ∈ news, e.length = k) (hk0 : 0 < k) : Adds P c st y k news := fun E a w hi => by
  obtain ⟨us, hl, h1, hr, hc⟩ := ((hi.ev y).sl hy).cellsOf hk hk0
  refine ⟨us, ?_, hl, h1, hr⟩
  rcases hc with ⟨hq, rfl⟩ | ⟨ad, cap, hq, _, rfl⟩ | ⟨b, o, cap, hq, _, _, hcell⟩
  · rw [hq]
    have : us = [] := List.eq_nil_of_length_eq_zero (by simpa using hl)
    subst this
    exact Src.nil P w k
  · rw [hq]
    have : us = [] := List.eq_nil_of_length_eq_zero (by simpa using hl)
    subst this
    exact Src.some (by simp) (fun j v hv => by simp at hv)
  · rw [hq]
    exact Src.some hl (fun j v hv => by
      have hj : j < news.length * k := by rw [← hl]; exact (List.getElem?_eq_some_iff.1 hv).1
      rw [Addr.add_none, (hcell j hj).1]; exact hv)
theorem Adds.string {y : Operand} {s : List UInt8} (hy : st.ev y = aS s) : Adds P c st y 1 (s.map fun b => [IV.im (.int .u8 b.toNat)]) := fun E a w hi => by
  refine ⟨s.map fun b => .int .u8 b.toNat, ?_, by simp, fun x hx => ?_, fun i e j x v h1 h2 h3 => ?_⟩
  · rw [hi.im hy]
    have he : ((ByteArray.mk s.toArray).extract 0 s.length) = ByteArray.mk s.toArray := by
      apply ByteArray.ext
      simp [ByteArray.data_extract]
    refine ⟨by simp [Builtin.lenOf, ByteArray.size], ?_, ?_⟩
    · simp only [List.length_map, Builtin.firstCells, Sem.run_pure, he]; simp
    · simp only [List.length_map, Builtin.firstCells, Sem.run_pure, he]; simp
  · simp only [List.mem_map] at hx
    obtain ⟨b, _, rfl⟩ := hx; rfl
  · simp only [List.getElem?_map, Option.map_eq_some_iff] at h1
    obtain ⟨b, hb, rfl⟩ := h1
    cases j with
    | zero =>
      simp at h2; subst h2
      simp only [Nat.mul_one, Nat.add_zero, List.getElem?_map, hb, Option.map_some, Option.some.injEq] at h3
      subst h3; exact .im rfl
    | succ j => simp at h2
theorem Makes.append {t t' e : TypeId} {d : TypeDesc} {x y : Operand} {id id' k bytes : Nat} {i : TypeInfo} {z : Value} {es news : List (List IV)}
    (ho : o.op = .call { callee := .builtin .append, args := #[x, y], argTypes := #[t, t'] }) (ht : P.underlying t = some (.slice e)) (hi0 : P.info? e = some i) (hik : i.size = k) (hib : i.bytes = bytes) (hiz : i.zero = some z) (hzk : z.cells.size = k)
    (hd : P.underlying t' = some d) (hn : notInt d) (hk0 : 0 < k)
    (hx : (st.ev x = .row id es ∧ st.tk.lookup id = some ⟨e, k⟩) ∨ (st.ev x = .nils ∧ es = []) ∨ (st.ev x = .emp ∧ es = [] ∧ news ≠ [])) (hes : ∀ e ∈ es, e.length = k) (hnk : ∀ e ∈ news, e.length = k) (hy : Adds P c st y k news)
    (hm : es.length + news.length ≤ maxLen) (hby : (es.length + news.length) * bytes ≤ 225000000000000) (hbs : bytes ≤ 100000) (hf : st.fresh id' = true) :
    Makes P c st o (.row id' (es ++ news)) st.bx ((id', ⟨e, k⟩) :: delTok id st.tk) := fun E a w hi => by
  subst hik; subst hib
  obtain ⟨us, hsrc, hul, hu1, hur⟩ := hy E a w hi
  have hsmall : es.length + news.length ≤ 9223372036854775807 := by simp only [maxLen] at hm; omega
  have hexec : (execOp a.eval o).run P w = ((Builtin.append_ #[t, t'] o.type #[a.eval x, a.eval y]).run P w).andThen fun v w' => .ok (.value v) w' := by
    simp [execOp, ho, resolve, invoke, builtin]
  have hcat : ∀ e ∈ es ++ news, e.length = i.size := fun e he => by
    rcases List.mem_append.1 he with h | h
    · exact hes e h
    · exact hnk e h
  -- what the cells stand for
  have hcells : ∀ (E' : Env) (w' : World) (olds tail : List Value), olds.length = es.length * i.size → Keeps E.φ w w' → (∀ b, E.φ b ≤ E'.φ b) →
      (∀ (j : Nat) (e : List IV) (n : Nat) (x : IV) (v : Value), es[j]? = some e → e[n]? = some x → olds[j * i.size + n]? = some v → RepI E.φ w x v) →
      ∀ (j : Nat) (e : List IV) (n : Nat) (x : IV) (v : Value), (es ++ news)[j]? = some e → e[n]? = some x → (olds ++ (us ++ tail))[j * i.size + n]? = some v → RepI E'.φ w' x v := by
    intro E' w' olds tail hol hkp hle hor j e n x v h1 h2 h3
    have hn' : n < i.size := by rw [← hcat e (List.mem_of_getElem? h1)]; exact (List.getElem?_eq_some_iff.1 h2).1
    by_cases hj : j < es.length
    · have hlt : j * i.size + n < olds.length := by
        rw [hol]
        calc j * i.size + n < j * i.size + i.size := by omega
          _ = (j + 1) * i.size := by rw [Nat.add_mul, Nat.one_mul]
          _ ≤ es.length * i.size := Nat.mul_le_mul_right _ hj
      rw [List.getElem?_append_left hj] at h1
      rw [List.getElem?_append_left hlt] at h3
      exact (hor j e n x v h1 h2 h3).mono hkp hle
    · have hge : olds.length ≤ j * i.size + n := by
        rw [hol]; exact Nat.le_trans (Nat.mul_le_mul_right _ (Nat.le_of_not_lt hj)) (Nat.le_add_right _ _)
      rw [List.getElem?_append_right (Nat.le_of_not_lt hj)] at h1
      rw [List.getElem?_append_right hge] at h3
      have he : j * i.size + n - olds.length = (j - es.length) * i.size + n := by
        rw [hol, Nat.sub_mul]
        have : es.length * i.size ≤ j * i.size := Nat.mul_le_mul_right _ (Nat.le_of_not_lt hj)
        omega
      rw [he] at h3
      have hlt : (j - es.length) * i.size + n < us.length := by
        have hjn := (List.getElem?_eq_some_iff.1 h1).1
        rw [hul]
        calc (j - es.length) * i.size + n < (j - es.length) * i.size + i.size := by omega
          _ = (j - es.length + 1) * i.size := by rw [Nat.add_mul, Nat.one_mul]
          _ ≤ news.length * i.size := Nat.mul_le_mul_right _ hjn
      rw [List.getElem?_append_left hlt] at h3
      exact (hur _ e n x v h1 h2 h3).mono hkp hle
  -- a new block
  have grown : ∀ (base : Option Addr) (cap : Nat) (olds : List Value), a.eval x = .slice base es.length cap → olds.length = es.length * i.size →
      (∀ (j : Nat) (e : List IV) (n : Nat) (x : IV) (v : Value), es[j]? = some e → e[n]? = some x → olds[j * i.size + n]? = some v → RepI E.φ w x v) →
      (Builtin.firstCells i.size es.length (.slice base es.length cap)).run P w.drew = .ok olds.toArray w.drew → cap < es.length + news.length →
      ∃ (u : Value) (E' : Env) (w' : World), (execOp a.eval o).run P w = .ok (.value u) w' ∧ Inv c E' ⟨st.fr, st.bx, (id', ⟨e, i.size⟩) :: delTok id st.tk⟩ a w' ∧ RepA E' w' (.row id' (es ++ news)) u := by
    intro base cap olds hq hol hor hfc hlt
    have hrun := app_grow (ty := o.type) ht hd hn hi0 hiz hsrc (base := base) (n := es.length) (cap := cap) (olds := olds) hfc hlt (by omega) (growslice_fits_wide hlt (by
      have : (es.length + news.length) / 4 * i.bytes ≤ (es.length + news.length) * i.bytes / 4 := by
        rw [Nat.le_div_iff_mul_le (by decide), Nat.mul_assoc, Nat.mul_comm i.bytes 4, ← Nat.mul_assoc]
        exact Nat.mul_le_mul_right _ (Nat.div_mul_le_self _ 4)
      rw [Nat.add_mul, Nat.add_mul]; omega))
    have hge : es.length + news.length ≤ grownCap w (es.length + news.length) cap e := grownCap_ge _ _ _ _
    have hcm := grownCap_le_maxLen w (es.length + news.length) cap e hm
    have hk1 : Keeps E.φ w w.drew := fun _ _ _ => rfl
    obtain ⟨E', hi', hv⟩ := ((hi.delTok id).drew).newRow (fresh_delTok hf) (ty := e) (k := i.size) (cap := grownCap w (es.length + news.length) cap e) (es := es ++ news)
      (us := olds ++ (us ++ (Builtin.zeroCells z.cells (grownCap w (es.length + news.length) cap e - (es.length + news.length))).toList))
      (fun j e' he => hcat e' (List.mem_of_getElem? he))
      (by
        simp only [List.length_append, hol, hul, Array.length_toList, size_zeroCells, hzk]
        rw [← Nat.add_assoc, ← Nat.add_mul, ← Nat.add_mul]; congr 1; omega)
      (by rw [List.length_append]; exact hge) hcm
      (hcells E w.drew olds _ hol hk1 (fun _ => Nat.le_refl _) hor)
    refine ⟨_, E', _, ?_, hi', hv⟩
    rw [hexec, hq, hrun]
    simp
  rcases hx with ⟨hx, htk⟩ | ⟨hx, rfl⟩ | ⟨hx, rfl, hm0⟩
  · have hxv := hi.ev x
    rw [hx] at hxv
    cases hxv with
    | row hu hrep =>
      obtain ⟨olds, hol, ho1, hor, hoc⟩ := hrep.cellsOf hes hk0
      have htok := hi.heap.tok id _ htk
      rcases hoc with ⟨hq, hes0⟩ | ⟨ad, cap, hq, hsp, _⟩ | ⟨b, off, cap, hq, hc1, hc2, hcell⟩
      · -- the row is nil
        subst hes0
        have hol' : olds = [] := List.eq_nil_of_length_eq_zero (by simpa using hol)
        subst hol'
        by_cases hm0 : news = []
        · subst hm0
          have hus : us = [] := List.eq_nil_of_length_eq_zero (by simpa using hul)
          subst hus
          have hrun := app_none (ty := o.type) ht hd hn hi0 hsrc
          obtain ⟨hi', mono⟩ := (hi.delTok id).nilTok (fresh_delTok hf) ⟨e, i.size⟩
          refine ⟨_, _, _, ?_, hi', .row (by simp) .nil⟩
          rw [hexec, hq, hrun]; rfl
        · have h1 : 0 < news.length := List.length_pos_iff.2 hm0
          exact grown none 0 [] (by rw [hq]; rfl) (by simp) hor (by simp [Builtin.firstCells]) (by simpa using h1)
      · exfalso
        rcases htok with hnil | ⟨g, n, cap', cur, hv, hg, hnc, hcm, hcs, hφ⟩
        · rw [← hu, hq] at hnil; cases hnil
        · rw [hu, hv] at hq
          simp only [Value.slice.injEq, Option.some.injEq] at hq
          obtain ⟨rfl, _, _⟩ := hq
          exact hsp rfl
      · by_cases hroom : es.length + news.length ≤ cap
        · -- it grows in place
          rcases htok with hnil | ⟨g, n, cap', cur, hv, hg, hnc, hcm, hcs, hφ⟩
          · rw [← hu, hq] at hnil; cases hnil
          · have hq' := hq
            rw [hu, hv] at hq'
            simp only [Value.slice.injEq, Option.some.injEq, Addr.mk.injEq] at hq'
            obtain ⟨⟨rfl, rfl, _⟩, rfl, rfl⟩ := hq'
            simp only at hcs hφ hg
            have hfit : es.length * i.size + us.length ≤ cur.size := by rw [hul, ← Nat.add_mul]; exact Nat.le_trans (Nat.mul_le_mul_right _ hroom) hcs
            have hrun := app_room (ty := o.type) ht hd hn hi0 hsrc hul hg hu1 hroom hfit
            have hes_le : es.length * i.size ≤ cur.size := by omega
            have holds : cur.toList.take (es.length * i.size) = olds := by
              apply List.ext_getElem?
              intro j
              rw [List.getElem?_take]
              split
              · rename_i hj
                have := (hcell j hj).1
                rw [Nat.zero_add, cell_of_row w g j cur _ _ hg] at this
                simpa using this
              · rw [List.getElem?_eq_none (by rw [hol]; omega)]
            obtain ⟨hi', hkp, hle⟩ := hi.growRow hf htk hv hg hφ (n' := es.length + news.length)
              (cur' := (cur.toList.take (es.length * i.size) ++ us ++ cur.toList.drop (es.length * i.size + us.length)).toArray)
              (by simp only [List.size_toArray, List.length_append, List.length_take, List.length_drop, Array.length_toList]; omega)
              (fun o' ho' => by
                simp only at ho'
                rw [List.append_assoc, List.getElem?_toArray, List.getElem?_append_left (by simp; omega), List.getElem?_take, if_pos ho']; simp)
              (by omega) hroom hcm
            refine ⟨.slice (some ⟨g, 0, none⟩) (es.length + news.length) cap', _, _, ?_, hi', ?_⟩
            · rw [hexec, hq, hrun]; rfl
            · refine .row (by simp) ?_
              have hll : (es ++ news).length = es.length + news.length := List.length_append
              refine Eq.mp (congrArg (fun n => RepI _ _ (IV.sl (es ++ news)) (Value.slice (some ⟨g, 0, none⟩) n cap')) hll) ?_
              refine .sl (k := i.size) (fun j n => (olds ++ (us ++ cur.toList.drop (es.length * i.size + us.length))).getD (j * i.size + n) undef) (by rw [hll]; exact hroom) hcm (fun j e' he => hcat e' (List.mem_of_getElem? he)) (fun j e' n x' h1 h2 => ?_) (fun j e' n x' h1 h2 => ?_) (fun j e' n x' h1 h2 => ?_)
              all_goals
                have hj := (List.getElem?_eq_some_iff.1 h1).1
                rw [hll] at hj
                have hn' : n < i.size := by rw [← hcat e' (List.mem_of_getElem? h1)]; exact (List.getElem?_eq_some_iff.1 h2).1
                have hlt : j * i.size + n < (es.length + news.length) * i.size := by
                  calc j * i.size + n < j * i.size + i.size := by omega
                    _ = (j + 1) * i.size := by rw [Nat.add_mul, Nat.one_mul]
                    _ ≤ (es.length + news.length) * i.size := Nat.mul_le_mul_right _ hj
                have hlt2 : j * i.size + n < (olds ++ (us ++ cur.toList.drop (es.length * i.size + us.length))).length := by
                  simp only [List.length_append, hol, hul]; rw [Nat.add_mul] at hlt; omega
                have hget : (olds ++ (us ++ cur.toList.drop (es.length * i.size + us.length)))[j * i.size + n]? = some ((olds ++ (us ++ cur.toList.drop (es.length * i.size + us.length))).getD (j * i.size + n) undef) := by
                  rw [List.getElem?_eq_getElem hlt2]; simp [List.getD, List.getElem?_eq_getElem hlt2]
              · simp only [if_true]; omega
              · rw [Nat.zero_add, cell_of_row _ _ _ _ _ _ (setRow_heap w g cur _ _ _ hg), holds, List.append_assoc, List.getElem?_toArray]
                exact hget
              · exact hcells _ _ olds _ hol hkp hle hor j e' n x' _ h1 h2 hget
        · refine grown (some ⟨b, off, none⟩) cap olds hq hol hor (run_firstCells_some w.drew i.size es.length _ _ cap olds hol (fun j v hv => ?_)) (by omega)
          have hj : j < es.length * i.size := by rw [← hol]; exact (List.getElem?_eq_some_iff.1 hv).1
          rw [Addr.add_none, World.cell?_drew, (hcell j hj).1]; exact hv
  · have hxv := hi.ev x
    rw [hx] at hxv
    generalize hq : a.eval x = q at hxv
    cases hxv
    by_cases hm0 : news = []
    · subst hm0
      have hus : us = [] := List.eq_nil_of_length_eq_zero (by simpa using hul)
      subst hus
      have hrun := app_none (ty := o.type) ht hd hn hi0 hsrc
      obtain ⟨hi', mono⟩ := (hi.delTok id).nilTok (fresh_delTok hf) ⟨e, i.size⟩
      refine ⟨_, _, _, ?_, hi', .row (by simp) .nil⟩
      rw [hexec, hq, hrun]; rfl
    · have h1 : 0 < news.length := List.length_pos_iff.2 hm0
      exact grown none 0 [] hq (by simp) (fun j e n x v h1 => by simp at h1) (by simp [Builtin.firstCells]) (by simpa using h1)
  · have hxv := hi.ev x
    rw [hx] at hxv
    generalize hq : a.eval x = q at hxv
    cases hxv with
    | @emp base _ hu =>
      subst hu
      have h1 : 0 < news.length := List.length_pos_iff.2 hm0
      exact grown base 0 [] hq (by simp) (fun j e n x v h1 => by simp at h1) (by cases base with
        | none => simp [Builtin.firstCells]
        | some ad => exact run_firstCells_some w.drew i.size 0 _ _ 0 [] (by simp) (fun j v hv => by simp at hv)) (by simpa using h1)
end
end Go.Abs
/- A logic of abstract states, part 9: calls by contract, entering a function, returning, branches, loops. Conditions: each rule's own premises; over any program. -/
namespace Go.Abs
open Go.RowKit (Below)
set_option linter.unusedVariables false
mutual
def AV.mentIn (l : List Nat) : AV → Bool
  | .any | .iv _ | .nils | .emp | .el _ => true
  | .row i _ => l.contains i
  | .ptr i _ => l.contains i
  | .bsl i _ _ _ => l.contains i
  | .bsh i _ _ _ => l.contains i
  | .agg cs => AV.mentsIn l cs
  | .tup cs => AV.mentsIn l cs
  | .fn _ cs => AV.mentsIn l cs
  | .opt _ v => AV.mentIn l v
def AV.mentsIn (l : List Nat) : List AV → Bool
  | [] => true
  | c :: cs => AV.mentIn l c && AV.mentsIn l cs
end
mutual
theorem AV.mentIn_mem {l : List Nat} {id : Nat} : ∀ (v : AV), AV.mentIn l v = true → AV.ment id v = true → id ∈ l
  | .any, _, h => by simp [AV.ment] at h
  | .iv _, _, h => by simp [AV.ment] at h
  | .nils, _, h => by simp [AV.ment] at h
  | .emp, _, h => by simp [AV.ment] at h
  | .el _, _, h => by simp [AV.ment] at h
  | .row i _, h1, h => by simp [AV.ment] at h; subst h; simpa [AV.mentIn] using h1
  | .ptr i _, h1, h => by simp [AV.ment] at h; subst h; simpa [AV.mentIn] using h1
  | .bsl i _ _ _, h1, h => by simp [AV.ment] at h; subst h; simpa [AV.mentIn] using h1
  | .bsh i _ _ _, h1, h => by simp [AV.ment] at h; subst h; simpa [AV.mentIn] using h1
  | .agg cs, h1, h => AV.mentsIn_mem cs (by simpa [AV.mentIn] using h1) (by simpa [AV.ment] using h)
  | .tup cs, h1, h => AV.mentsIn_mem cs (by simpa [AV.mentIn] using h1) (by simpa [AV.ment] using h)
  | .fn _ cs, h1, h => AV.mentsIn_mem cs (by simpa [AV.mentIn] using h1) (by simpa [AV.ment] using h)
  | .opt _ v, h1, h => AV.mentIn_mem v (by simpa [AV.mentIn] using h1) (by simpa [AV.ment] using h)
theorem AV.mentsIn_mem {l : List Nat} {id : Nat} : ∀ (cs : List AV), AV.mentsIn l cs = true → AV.ments id cs = true → id ∈ l
  | [], _, h => by simp [AV.ments] at h
  | c :: cs, h1, h => by
    simp only [AV.mentsIn, Bool.and_eq_true] at h1
    simp only [AV.ments, Bool.or_eq_true] at h
    rcases h with h | h
    · exact AV.mentIn_mem c h1.1 h
    · exact AV.mentsIn_mem cs h1.2 h
end
def keys {β : Type} (l : List (Nat × β)) : List Nat := l.map (·.1)
theorem mem_keys {β : Type} : ∀ {l : List (Nat × β)} {id : Nat}, id ∈ keys l → ∃ b, l.lookup id = some b
  | [], id, h => by simp [keys] at h
  | (t, u) :: l, id, h => by
    by_cases e : id = t
    · exact ⟨u, by rw [e]; exact lookup_cons_eq⟩
    · rw [lookup_cons_ne e]
      exact mem_keys (by simp only [keys, List.map_cons, List.mem_cons] at h ⊢; exact h.resolve_left e)
theorem keys_mem {β : Type} {l : List (Nat × β)} {id : Nat} {b : β} (h : l.lookup id = some b) : id ∈ keys l := List.mem_map.2 ⟨_, lookup_mem h, rfl⟩
def CallA (P : Program) (f : FuncId) (args : List AV) (bx bx' : List (Nat × Box)) (tk' : List (Nat × Tok)) (res : AV) : Prop :=
  ∀ (E : Env) (w : World) (us : List Value), RelL E w args us → HInv ⟨0, w, E, keys bx⟩ E bx [] w →
    Calls P f us.toArray w fun e w' => ∃ (u : Value) (E' : Env), e = .returned u ∧ RepA E' w' res u ∧ HInv ⟨0, w, E, keys bx⟩ E' bx' tk' w'
def Post (c : Ctx) (bx' : List (Nat × Box)) (tk' : List (Nat × Tok)) (res : AV) (e : Ending) (w' : World) : Prop :=
  ∃ (u : Value) (E' : Env), e = .returned u ∧ RepA E' w' res u ∧ HInv c E' bx' tk' w'
theorem HInv.join {c : Ctx} {E E' : Env} {st : St} {w w' : World} {bxi bxo : List (Nat × Box)} {tko : List (Nat × Tok)} (h : HInv c E st.bx st.tk w) (h' : HInv ⟨0, w, E, keys bxi⟩ E' bxo tko w')
    {N : List Nat} (hN : ∀ id ∈ N, st.fresh id = true) (hbi : ∀ id ∈ keys bxi, ∃ b, st.bx.lookup id = some b ∧ b.cs ≠ []) (hbo : ∀ id ∈ keys bxo, id ∈ N ∨ id ∈ keys bxi) (hto : ∀ id ∈ keys tko, id ∈ N)
    (hm : ∀ (id : Nat) (b : Box), bxo.lookup id = some b → AV.mentsIn (N ++ keys bxi) b.cs = true) :
    HInv c ⟨E'.φ, fun i => if i ∈ N then E'.ρ i else E.ρ i, fun i => if i ∈ N then E'.η i else E.η i⟩ (bxo ++ st.bx) (tko ++ st.tk) w' ∧
      (∀ (x : AV) (u : Value), AV.mentIn (N ++ keys bxi) x = true → RepA E' w' x u → RepA ⟨E'.φ, fun i => if i ∈ N then E'.ρ i else E.ρ i, fun i => if i ∈ N then E'.η i else E.η i⟩ w' x u) ∧
      (∀ (x : AV) (u : Value), (∀ id ∈ N, AV.ment id x = false) → RepA E w x u → RepA ⟨E'.φ, fun i => if i ∈ N then E'.ρ i else E.ρ i, fun i => if i ∈ N then E'.η i else E.η i⟩ w' x u) := by
  -- passed boxes
  have hbN : ∀ (i : Nat) (b : Box), st.bx.lookup i = some b → i ∉ N := fun i b hb hi => (St.fresh_bx (hN i hi) hb).1 rfl
  have htN : ∀ (i : Nat) (t : Tok), st.tk.lookup i = some t → i ∉ N := fun i t ht hi => St.fresh_tk (hN i hi) ht rfl
  have hMi : ∀ g, Ctx.M ⟨0, w, E, keys bxi⟩ g → ∃ (id : Nat) (b : Box), id ∈ keys bxi ∧ st.bx.lookup id = some b ∧ b.cs ≠ [] ∧ E.ρ id = g := fun g ⟨id, hid, e, _⟩ => by
    obtain ⟨b, hb, hn⟩ := hbi id hid; exact ⟨id, b, hid, hb, hn, e⟩
  have hφM : ∀ g, Ctx.M ⟨0, w, E, keys bxi⟩ g → E.φ g = 0 := fun g hg => by
    obtain ⟨id, b, _, hb, hn, rfl⟩ := hMi g hg; exact (h.box id b hb hn).1
  have hkp : Keeps E.φ w w' := fun b o ho => by
    have hlt : b < w.heap.size := by
      rcases Nat.lt_or_ge b w.heap.size with h1 | h1
      · exact h1
      · rw [h.new b h1] at ho; cases ho
    have hnM : ¬ Ctx.M ⟨0, w, E, keys bxi⟩ b := fun hM => by rw [hφM b hM] at ho; cases ho
    exact World.cell?_of_block (h'.kept.block b hlt hnM)
  have hle : ∀ b, E.φ b ≤ E'.φ b := fun b => by
    rcases Nat.lt_or_ge b w.heap.size with h1 | h1
    · rw [h'.old b h1]; exact Nat.le_refl _
    · rw [h.new b h1]; exact Nat.zero_le _
  have monoC : ∀ (x : AV) (u : Value), (∀ id ∈ N, AV.ment id x = false) → RepA E w x u → RepA ⟨E'.φ, fun i => if i ∈ N then E'.ρ i else E.ρ i, fun i => if i ∈ N then E'.η i else E.η i⟩ w' x u := fun x u hx hr =>
    RepA.mono (h := hr) (E' := ⟨E'.φ, fun i => if i ∈ N then E'.ρ i else E.ρ i, fun i => if i ∈ N then E'.η i else E.η i⟩) hkp hle (fun id hid => by
      have : id ∉ N := fun hin => by rw [hx id hin] at hid; cases hid
      simp [this])
  have monoN : ∀ (x : AV) (u : Value), AV.mentIn (N ++ keys bxi) x = true → RepA E' w' x u → RepA ⟨E'.φ, fun i => if i ∈ N then E'.ρ i else E.ρ i, fun i => if i ∈ N then E'.η i else E.η i⟩ w' x u := fun x u hx hr =>
    RepA.mono (E := E') (w := w') (h := hr) (E' := ⟨E'.φ, fun i => if i ∈ N then E'.ρ i else E.ρ i, fun i => if i ∈ N then E'.η i else E.η i⟩) (fun _ _ _ => rfl) (fun _ => Nat.le_refl _) (fun id hid => by
      by_cases hin : id ∈ N
      · simp [hin]
      · have hmem := AV.mentIn_mem x hx hid
        have hk : id ∈ keys bxi := (List.mem_append.1 hmem).resolve_left hin
        obtain ⟨e1, e2, _⟩ := h'.ins id hk
        simp [hin, e1, e2])
  have hρo : ∀ (i : Nat) (b : Box), bxo.lookup i = some b → (if i ∈ N then E'.ρ i else E.ρ i) = E'.ρ i := fun i b hb => by
    by_cases hin : i ∈ N
    · simp [hin]
    · have hk := (hbo i (keys_mem hb)).resolve_left hin
      simp [hin, (h'.ins i hk).1]
  have hηob : ∀ (i : Nat) (b : Box), bxo.lookup i = some b → (if i ∈ N then E'.η i else E.η i) = E'.η i := fun i b hb => by
    by_cases hin : i ∈ N
    · simp [hin]
    · have hk := (hbo i (keys_mem hb)).resolve_left hin
      simp [hin, (h'.ins i hk).2.1]
  have hηo : ∀ (i : Nat) (t : Tok), tko.lookup i = some t → (if i ∈ N then E'.η i else E.η i) = E'.η i := fun i t ht => by simp [hto i (keys_mem ht)]
  have hρc : ∀ (i : Nat) (b : Box), st.bx.lookup i = some b → (if i ∈ N then E'.ρ i else E.ρ i) = E.ρ i := fun i b hb => by simp [hbN i b hb]
  have hηc : ∀ (i : Nat) (t : Tok), st.tk.lookup i = some t → (if i ∈ N then E'.η i else E.η i) = E.η i := fun i t ht => by simp [htN i t ht]
  have splitB : ∀ (i : Nat) (b : Box), (bxo ++ st.bx).lookup i = some b → bxo.lookup i = some b ∨ (bxo.lookup i = none ∧ st.bx.lookup i = some b) := fun i b hb => by
    rw [List.lookup_append] at hb
    cases hq : bxo.lookup i with
    | none => rw [hq] at hb; exact .inr ⟨rfl, by simpa using hb⟩
    | some b' => rw [hq] at hb; exact .inl (by simpa using hb)
  have splitT : ∀ (i : Nat) (t : Tok), (tko ++ st.tk).lookup i = some t → tko.lookup i = some t ∨ st.tk.lookup i = some t := fun i t ht => by
    rw [List.lookup_append] at ht
    cases hq : tko.lookup i with
    | none => rw [hq] at ht; exact .inr (by simpa using ht)
    | some b' => rw [hq] at ht; exact .inl (by simpa using ht)
  have notPassed : ∀ (i : Nat), bxo.lookup i = none → i ∉ keys bxi := fun i hn hk => by
    have := (h'.ins i hk).2.2; rw [hn] at this; cases this
  have blkB : ∀ (i : Nat) (b : Box), bxo.lookup i = none → st.bx.lookup i = some b → b.cs ≠ [] → E.ρ i < w.heap.size ∧ ¬ Ctx.M ⟨0, w, E, keys bxi⟩ (E.ρ i) := fun i b hn hb hc =>
    ⟨box_lt (h.box i b hb hc), fun hM => by
      obtain ⟨id, b', hid, hb', hc', e⟩ := hMi _ hM
      exact notPassed i hn (h.bb id i b' b hb' hb hc' hc e ▸ hid)⟩
  have blkT : ∀ (i : Nat) (t : Tok) (g : Nat), st.tk.lookup i = some t → (E.η i).ownBlock = some g → g < w.heap.size ∧ ¬ Ctx.M ⟨0, w, E, keys bxi⟩ g := fun i t g ht hg =>
    ⟨ownBlock_lt (h.tok i t ht) hg, fun hM => by
      obtain ⟨id, b', hid, hb', hc', e⟩ := hMi _ hM
      exact h.bt id i b' t hb' hc' ht (by rw [hg, e])⟩
  have blkO : ∀ (i : Nat) (b : Box), bxo.lookup i = some b → b.cs ≠ [] → w.heap.size ≤ E'.ρ i ∨ Ctx.M ⟨0, w, E, keys bxi⟩ (E'.ρ i) := fun i b hb hc => h'.own i b hb hc
  have blkOT : ∀ (i : Nat) (t : Tok) (g : Nat), tko.lookup i = some t → (E'.η i).ownBlock = some g → w.heap.size ≤ g := fun i t g ht hg => h'.ownt i t g ht hg
  refine ⟨⟨fun i b hb hc => ?_, fun i t ht => ?_, fun i j b b' hi hj hc hc' he => ?_, fun i j t t' g hi hj h1 h2 => ?_, fun i j b t hb hc ht hg => ?_, fun i b hb hc => ?_, fun j t g ht hg => ?_, h'.new, fun b hb => ?_, fun i hin => ?_, ?_⟩, monoN, monoC⟩
  · rcases splitB i b hb with hb | ⟨hn, hb⟩
    · obtain ⟨h0, arr, ha, hl, h1, hr, hq⟩ := h'.box i b hb hc
      refine ⟨by simp only; rw [hρo i b hb]; exact h0, arr, by simp only; rw [hρo i b hb]; exact ha, hl, h1, fun k x u hx hu => monoN x u ?_ (hr k x u hx hu), fun k cap he => hq k cap (by simpa only [hηob i b hb] using he)⟩
      have hall := hm i b hb
      clear ha hl h1 hr h0 hq
      have : ∀ (cs : List AV) (k : Nat), AV.mentsIn (N ++ keys bxi) cs = true → cs[k]? = some x → AV.mentIn (N ++ keys bxi) x = true := by
        intro cs
        induction cs with
        | nil => intro k _ h; simp at h
        | cons y ys ih =>
          intro k hall hk
          simp only [AV.mentsIn, Bool.and_eq_true] at hall
          cases k with
          | zero => simp at hk; subst hk; exact hall.1
          | succ k => exact ih k hall.2 (by simpa using hk)
      exact this b.cs k hall hx
    · obtain ⟨hlt, hnM⟩ := blkB i b hn hb hc
      obtain ⟨h0, arr, ha, hl, h1, hr, hq⟩ := h.box i b hb hc
      refine ⟨by simp only; rw [hρc i b hb, h'.old _ hlt]; exact h0, arr, by simp only; rw [hρc i b hb, h'.kept.block _ hlt hnM]; exact ha, hl, h1, fun k x u hx hu => monoC x u (fun id hid => AV.ments_false (St.fresh_bx (hN id hid) hb).2 k x hx) (hr k x u hx hu), fun k cap he => hq k cap (by simpa only [if_neg (hbN i b hb)] using he)⟩
  · rcases splitT i t ht with ht | ht
    · rcases h'.tok i t ht with hn | ⟨g, n, cap, cur, hv, rest⟩
      · exact .inl (by simp only; rw [hηo i t ht]; exact hn)
      · exact .inr ⟨g, n, cap, cur, by simp only; rw [hηo i t ht]; exact hv, rest⟩
    · rcases h.tok i t ht with hn | ⟨g, n, cap, cur, hv, hg, r1, r2, r3, r4⟩
      · exact .inl (by simp only; rw [hηc i t ht]; exact hn)
      · obtain ⟨hlt, hnM⟩ := blkT i t g ht (by rw [hv]; rfl)
        exact .inr ⟨g, n, cap, cur, by simp only; rw [hηc i t ht]; exact hv, by rw [h'.kept.block _ hlt hnM]; exact hg, r1, r2, r3, by rw [h'.old _ hlt]; exact r4⟩
  · simp only at he
    rcases splitB i b hi with hi | ⟨hn, hi⟩
    · rw [hρo i b hi] at he
      rcases splitB j b' hj with hj | ⟨hn', hj⟩
      · rw [hρo j b' hj] at he; exact h'.bb i j b b' hi hj hc hc' he
      · rw [hρc j b' hj] at he
        obtain ⟨hlt, hnM⟩ := blkB j b' hn' hj hc'
        rcases blkO i b hi hc with h1 | h1
        · omega
        · rw [he] at h1; exact (hnM h1).elim
    · rw [hρc i b hi] at he
      obtain ⟨hlt, hnM⟩ := blkB i b hn hi hc
      rcases splitB j b' hj with hj | ⟨hn', hj⟩
      · rw [hρo j b' hj] at he
        rcases blkO j b' hj hc' with h1 | h1
        · omega
        · rw [← he] at h1; exact (hnM h1).elim
      · rw [hρc j b' hj] at he; exact h.bb i j b b' hi hj hc hc' he
  · simp only at h1 h2
    rcases splitT i t hi with hi | hi
    · rw [hηo i t hi] at h1
      rcases splitT j t' hj with hj | hj
      · rw [hηo j t' hj] at h2; exact h'.tt i j t t' g hi hj h1 h2
      · rw [hηc j t' hj] at h2
        have := blkOT i t g hi h1
        have := (blkT j t' g hj h2).1
        omega
    · rw [hηc i t hi] at h1
      rcases splitT j t' hj with hj | hj
      · rw [hηo j t' hj] at h2
        have := blkOT j t' g hj h2
        have := (blkT i t g hi h1).1
        omega
      · rw [hηc j t' hj] at h2; exact h.tt i j t t' g hi hj h1 h2
  · simp only at hg
    rcases splitB i b hb with hb | ⟨hn, hb⟩
    · rw [hρo i b hb] at hg
      rcases splitT j t ht with ht | ht
      · rw [hηo j t ht] at hg; exact h'.bt i j b t hb hc ht hg
      · rw [hηc j t ht] at hg
        obtain ⟨hlt, hnM⟩ := blkT j t _ ht hg
        rcases blkO i b hb hc with h1 | h1
        · omega
        · exact hnM h1
    · rw [hρc i b hb] at hg
      rcases splitT j t ht with ht | ht
      · rw [hηo j t ht] at hg
        have := blkOT j t _ ht hg
        have := (blkB i b hn hb hc).1
        omega
      · rw [hηc j t ht] at hg; exact h.bt i j b t hb hc ht hg
  · simp only
    rcases splitB i b hb with hb | ⟨hn, hb⟩
    · rw [hρo i b hb]
      rcases blkO i b hb hc with h1 | h1
      · exact .inl (Nat.le_trans h.kept.size h1)
      · obtain ⟨id, b', hid, hb', hc', e⟩ := hMi _ h1
        rw [← e]; exact h.own id b' hb' hc'
    · rw [hρc i b hb]; exact h.own i b hb hc
  · simp only at hg
    rcases splitT j t ht with ht | ht
    · rw [hηo j t ht] at hg; exact Nat.le_trans h.kept.size (blkOT j t g ht hg)
    · rw [hηc j t ht] at hg; exact h.ownt j t g ht hg
  · simp only
    rw [h'.old b (Nat.lt_of_lt_of_le hb h.kept.size)]; exact h.old b hb
  · obtain ⟨e1, e2, e3⟩ := h.ins i hin
    obtain ⟨b, hb⟩ := Option.isSome_iff_exists.1 e3
    have := hbN i b hb
    refine ⟨by simp [this, e1], by simp [this, e2], ?_⟩
    rw [List.lookup_append]
    cases bxo.lookup i with
    | none => simpa using e3
    | some _ => rfl
  · refine h.kept.next h'.kept.os h'.kept.tape h'.kept.output h'.kept.size (fun k hk hm' => h'.kept.block k (Nat.lt_of_lt_of_le hk h.kept.size) (fun hM => ?_))
    obtain ⟨id, b', hid, hb', hc', e⟩ := hMi _ hM
    rcases h.own id b' hb' hc' with h1 | h1
    · omega
    · rw [e] at h1; exact hm' h1
end Go.Abs
