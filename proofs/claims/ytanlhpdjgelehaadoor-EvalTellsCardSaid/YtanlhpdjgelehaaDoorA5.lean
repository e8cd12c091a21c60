/- A logic of abstract states, part 5: new blocks, literals, stores, append. Conditions: each rule's own premises; over any program. -/
import Derived.Test.YtanlhpdjgelehaaDoorA4
namespace Go.Abs
open Go.RowKit (Below)
set_option linter.unusedVariables false

/-- nothing in st speaks of object id -/
def St.fresh (id : Nat) (st : St) : Bool :=
  st.fr.all (fun p => !AV.ment id p.2) && st.bx.all (fun p => p.1 != id && !AV.ments id p.2.cs) && st.tk.all (fun p => p.1 != id)

theorem lookup_mem {β : Type} : ∀ {l : List (Nat × β)} {s : Nat} {v : β}, l.lookup s = some v → (s, v) ∈ l
  | [], s, v, h => by simp at h
  | (t, u) :: l, s, v, h => by
    by_cases e : s = t
    · subst e; simp [List.lookup] at h; subst h; exact List.mem_cons_self
    · have e' : (s == t) = false := by simpa using e
      exact List.mem_cons_of_mem _ (lookup_mem (by simpa [List.lookup, e'] using h))

theorem St.fresh_fr {id : Nat} {st : St} (h : st.fresh id = true) {s : Nat} {v : AV} (hl : st.fr.lookup s = some v) : AV.ment id v = false := by
  simp only [St.fresh, Bool.and_eq_true, List.all_eq_true] at h
  simpa using h.1.1 _ (lookup_mem hl)
theorem St.fresh_bx {id : Nat} {st : St} (h : st.fresh id = true) {s : Nat} {b : Box} (hl : st.bx.lookup s = some b) : s ≠ id ∧ AV.ments id b.cs = false := by
  simp only [St.fresh, Bool.and_eq_true, List.all_eq_true] at h
  simpa using h.1.2 _ (lookup_mem hl)
theorem St.fresh_tk {id : Nat} {st : St} (h : st.fresh id = true) {s : Nat} {t : Tok} (hl : st.tk.lookup s = some t) : s ≠ id := by
  simp only [St.fresh, Bool.and_eq_true, List.all_eq_true] at h
  simpa using h.2 _ (lookup_mem hl)

/-- the environment, turned at object id and at one new block -/
def Env.upd (E : Env) (id g p : Nat) (v : Value) : Env :=
  ⟨fun b => if b = g then p else E.φ b, fun i => if i = id then g else E.ρ i, fun i => if i = id then v else E.η i⟩

theorem Keeps.alloc {φ : Nat → Nat} {w : World} (hn : ∀ b, w.heap.size ≤ b → φ b = 0) (ob : Obj) : Keeps φ w (w.alloc ob) := fun b o ho => by
  have hb : b < w.heap.size := by
    rcases Nat.lt_or_ge b w.heap.size with h | h
    · exact h
    · rw [hn b h] at ho; cases ho
  exact World.cell?_alloc_lt _ _ _ hb

theorem heapOld (w : World) (ob : Obj) (i : Nat) (h : i < w.heap.size) : (w.alloc ob).heap[i]? = w.heap[i]? := by
  show (w.heap.push ob)[i]? = w.heap[i]?
  rw [Array.getElem?_push, if_neg (Nat.ne_of_lt h)]
theorem heapNew (w : World) (ob : Obj) : (w.alloc ob).heap[w.heap.size]? = some ob := by
  show (w.heap.push ob)[w.heap.size]? = some ob
  simp

theorem HInv.alloc {c : Ctx} {E : Env} {st : St} {w : World} (h : HInv c E st.bx st.tk w) {id : Nat} (hf : st.fresh id = true) (ob : Obj) (p : Nat) (v : Value) :
    HInv c (E.upd id w.heap.size p v) st.bx st.tk (w.alloc ob) ∧ (∀ (x : AV) (u : Value), AV.ment id x = false → RepA E w x u → RepA (E.upd id w.heap.size p v) (w.alloc ob) x u) := by
  have hk : Keeps E.φ w (w.alloc ob) := Keeps.alloc h.new ob
  have hle : ∀ b, E.φ b ≤ (E.upd id w.heap.size p v).φ b := fun b => by
    simp only [Env.upd]; split
    · rename_i e; rw [h.new b (by omega)]; exact Nat.zero_le _
    · exact Nat.le_refl _
  have hρ : ∀ i, i ≠ id → (E.upd id w.heap.size p v).ρ i = E.ρ i := fun i hi => by simp [Env.upd, hi]
  have hη : ∀ i, i ≠ id → (E.upd id w.heap.size p v).η i = E.η i := fun i hi => by simp [Env.upd, hi]
  have mono : ∀ (x : AV) (u : Value), AV.ment id x = false → RepA E w x u → RepA (E.upd id w.heap.size p v) (w.alloc ob) x u := fun x u hm hr =>
    hr.mono hk hle (fun i hi => by
      have : i ≠ id := fun e => by subst e; rw [hm] at hi; cases hi
      exact ⟨hρ i this, hη i this⟩)
  refine ⟨⟨fun i b hb => ?_, fun i t ht => ?_, fun i j b b' hi hj he => ?_, fun i j t t' g hi hj h1 h2 => ?_, fun i j b t hi hj => ?_, fun i b hi => ?_, fun j t g hj hg => ?_, fun b hb => ?_, fun b hb => ?_, fun i hin => ?_, ?_⟩, mono⟩
  · obtain ⟨hne, hm⟩ := St.fresh_bx hf hb
    obtain ⟨h0, arr, ha, hl, h1, hr⟩ := h.box i b hb
    have hlt : E.ρ i < w.heap.size := (Array.getElem?_eq_some_iff.1 ha).1
    rw [BoxOk, hρ i hne]
    refine ⟨by simp only [Env.upd]; rw [if_neg (by omega)]; exact h0, arr, by rw [heapOld w ob _ hlt]; exact ha, hl, h1, fun k x u hx hu => mono x u ?_ (hr k x u hx hu)⟩
    exact AV.ments_false hm k x hx
  · have hne := St.fresh_tk hf ht
    rcases h.tok i t ht with hn | ⟨g, n, cap, cur, hv, hg, hnc, hcm, hcs, hφ⟩
    · exact .inl (by rw [hη i hne]; exact hn)
    · have hlt : g < w.heap.size := (Array.getElem?_eq_some_iff.1 hg).1
      exact .inr ⟨g, n, cap, cur, by rw [hη i hne]; exact hv, by rw [heapOld w ob _ hlt]; exact hg, hnc, hcm, hcs, by simp only [Env.upd]; rw [if_neg (by omega)]; exact hφ⟩
  · rw [hρ i (St.fresh_bx hf hi).1, hρ j (St.fresh_bx hf hj).1] at he
    exact h.bb i j b b' hi hj he
  · rw [hη i (St.fresh_tk hf hi)] at h1
    rw [hη j (St.fresh_tk hf hj)] at h2
    exact h.tt i j t t' g hi hj h1 h2
  · rw [hρ i (St.fresh_bx hf hi).1, hη j (St.fresh_tk hf hj)]
    exact h.bt i j b t hi hj
  · rw [hρ i (St.fresh_bx hf hi).1]; exact h.own i b hi
  · rw [hη j (St.fresh_tk hf hj)] at hg; exact h.ownt j t g hj hg
  · have hb' : w.heap.size < b := by simp at hb; omega
    simp only [Env.upd]; rw [if_neg (by omega)]; exact h.new b (by omega)
  · have : b < w.heap.size := Nat.lt_of_lt_of_le hb h.kept.size
    simp only [Env.upd]; rw [if_neg (by omega)]; exact h.old b hb
  · obtain ⟨e1, e2, e3⟩ := h.ins i hin
    obtain ⟨b, hb⟩ := Option.isSome_iff_exists.1 e3
    have hne := (St.fresh_bx hf hb).1
    exact ⟨(hρ i hne).trans e1, (hη i hne).trans e2, e3⟩
  · refine h.kept.next rfl rfl rfl (by simp) (fun k hk _ => ?_)
    exact heapOld w ob k (Nat.lt_of_lt_of_le hk h.kept.size)

theorem lookup_cons_ne {β : Type} {s t : Nat} {v : β} {l : List (Nat × β)} (h : s ≠ t) : List.lookup s ((t, v) :: l) = l.lookup s := by
  have e' : (s == t) = false := by simpa using h
  simp [List.lookup, e']
theorem lookup_cons_eq {β : Type} {s : Nat} {v : β} {l : List (Nat × β)} : List.lookup s ((s, v) :: l) = some v := by simp [List.lookup]

theorem HInv.addBox {c : Ctx} {E : Env} {bx : List (Nat × Box)} {tk : List (Nat × Tok)} {w : World} (h : HInv c E bx tk w) {id : Nat} {b : Box} (hn : bx.lookup id = none) (hb : BoxOk E w id b)
    (h1 : ∀ (j : Nat) (b' : Box), bx.lookup j = some b' → E.ρ j ≠ E.ρ id) (h2 : ∀ (j : Nat) (t : Tok), tk.lookup j = some t → (E.η j).ownBlock ≠ some (E.ρ id)) (h3 : c.w0.heap.size ≤ E.ρ id ∨ c.M (E.ρ id)) :
    HInv c E ((id, b) :: bx) tk w := by
  refine ⟨fun i b' hi => ?_, h.tok, fun i j b1 b2 hi hj he => ?_, h.tt, fun i j b1 t hi hj => ?_, fun i b' hi => ?_, h.ownt, h.new, h.old, fun i hin => ?_, h.kept⟩
  · by_cases e : i = id
    · subst e; rw [lookup_cons_eq] at hi; cases hi; exact hb
    · rw [lookup_cons_ne e] at hi; exact h.box i b' hi
  · by_cases e : i = id
    · by_cases e' : j = id
      · rw [e, e']
      · rw [lookup_cons_ne e'] at hj; subst e; exact (h1 j b2 hj he.symm).elim
    · rw [lookup_cons_ne e] at hi
      by_cases e' : j = id
      · subst e'; exact (h1 i b1 hi he).elim
      · rw [lookup_cons_ne e'] at hj; exact h.bb i j b1 b2 hi hj he
  · by_cases e : i = id
    · subst e; exact h2 j t hj
    · rw [lookup_cons_ne e] at hi; exact h.bt i j b1 t hi hj
  · by_cases e : i = id
    · subst e; exact h3
    · rw [lookup_cons_ne e] at hi; exact h.own i b' hi
  · obtain ⟨e1, e2, e3⟩ := h.ins i hin
    refine ⟨e1, e2, ?_⟩
    by_cases e : i = id
    · subst e; rw [lookup_cons_eq]; rfl
    · rw [lookup_cons_ne e]; exact e3

theorem HInv.addTok {c : Ctx} {E : Env} {bx : List (Nat × Box)} {tk : List (Nat × Tok)} {w : World} (h : HInv c E bx tk w) {id : Nat} {t : Tok} (ht : TokOk E w id t)
    (h1 : ∀ (j : Nat) (t' : Tok) (g : Nat), j ≠ id → tk.lookup j = some t' → (E.η j).ownBlock = some g → (E.η id).ownBlock ≠ some g) (h2 : ∀ (i : Nat) (b : Box), bx.lookup i = some b → (E.η id).ownBlock ≠ some (E.ρ i))
    (h3 : ∀ g, (E.η id).ownBlock = some g → c.w0.heap.size ≤ g) : HInv c E bx ((id, t) :: tk) w := by
  refine ⟨h.box, fun i t' hi => ?_, h.bb, fun i j t1 t2 g hi hj e1 e2 => ?_, fun i j b t' hi hj => ?_, h.own, fun j t' g hj hg => ?_, h.new, h.old, h.ins, h.kept⟩
  · by_cases e : i = id
    · subst e; rw [lookup_cons_eq] at hi; cases hi; exact ht
    · rw [lookup_cons_ne e] at hi; exact h.tok i t' hi
  · by_cases e : i = id
    · by_cases e' : j = id
      · rw [e, e']
      · rw [lookup_cons_ne e'] at hj; subst e; exact (h1 j t2 g e' hj e2 e1).elim
    · rw [lookup_cons_ne e] at hi
      by_cases e' : j = id
      · subst e'; exact (h1 i t1 g e hi e1 e2).elim
      · rw [lookup_cons_ne e'] at hj; exact h.tt i j t1 t2 g hi hj e1 e2
  · by_cases e : j = id
    · subst e; exact h2 i b hi
    · rw [lookup_cons_ne e] at hj; exact h.bt i j b t' hi hj
  · by_cases e : j = id
    · subst e; exact h3 g hg
    · rw [lookup_cons_ne e] at hj; exact h.ownt j t' g hj hg

theorem ownBlock_lt {E : Env} {w : World} {id : Nat} {t : Tok} (h : TokOk E w id t) {g : Nat} (hg : (E.η id).ownBlock = some g) : g < w.heap.size := by
  rcases h with hn | ⟨g', n, cap, cur, hv, hh, _⟩
  · rw [hn] at hg; simp [Value.ownBlock] at hg
  · rw [hv] at hg; simp [Value.ownBlock] at hg; subst hg; exact (Array.getElem?_eq_some_iff.1 hh).1
theorem box_lt {E : Env} {w : World} {id : Nat} {b : Box} (h : BoxOk E w id b) : E.ρ id < w.heap.size := by
  obtain ⟨_, arr, ha, _⟩ := h; exact (Array.getElem?_eq_some_iff.1 ha).1

/-- a new box -/
theorem Inv.newBox {c : Ctx} {E : Env} {st : St} {a : Act} {w : World} (hi : Inv c E st a w) {id : Nat} (hf : st.fresh id = true) {ty : TypeId} {cs : List AV} {us : List Value}
    (hr : RelL E w cs us) (h1 : ∀ u ∈ us, u.oneCell' = true) (hm : AV.ments id cs = false) :
    Inv c (E.upd id w.heap.size 0 (E.η id)) ⟨st.fr, (id, ⟨ty, cs⟩) :: st.bx, st.tk⟩ a (w.alloc (.cells us.toArray ty (0, 0))) := by
  obtain ⟨hh, mono⟩ := hi.heap.alloc hf (.cells us.toArray ty (0, 0)) 0 (E.η id)
  have hid : (E.upd id w.heap.size 0 (E.η id)).ρ id = w.heap.size := by simp [Env.upd]
  refine ⟨hi.defers, hi.size, fun s v hv => mono v _ (St.fresh_fr hf hv) (hi.slot s v hv), hh.addBox ?_ ?_ ?_ ?_ ?_⟩
  · cases hq : st.bx.lookup id with
    | none => rfl
    | some b => exact ((St.fresh_bx hf hq).1 rfl).elim
  · refine ⟨by rw [hid]; simp [Env.upd], us, by rw [hid]; exact heapNew w _, hr.1, h1, fun i x u hx hu => mono x u (AV.ments_false hm i x hx) (hr.2 i x u hx hu)⟩
  · intro j b' hj
    rw [hid]
    have : (E.upd id w.heap.size 0 (E.η id)).ρ j = E.ρ j := by simp [Env.upd, (St.fresh_bx hf hj).1]
    rw [this]
    have := box_lt (hi.heap.box j b' hj)
    omega
  · intro j t hj
    rw [hid]
    have e : (E.upd id w.heap.size 0 (E.η id)).η j = E.η j := by simp [Env.upd, St.fresh_tk hf hj]
    rw [e]
    intro hg
    have := ownBlock_lt (hi.heap.tok j t hj) hg
    omega
  · rw [hid]; exact .inl hi.heap.kept.size

/-- a new published row, that may grow -/
theorem Inv.newRow {c : Ctx} {E : Env} {st : St} {a : Act} {w : World} (hi : Inv c E st a w) {id : Nat} (hf : st.fresh id = true) {ty : TypeId} {k cap : Nat} {es : List (List IV)} {us : List Value}
    (hk : ∀ (i : Nat) (e : List IV), es[i]? = some e → e.length = k) (hl : us.length = cap * k) (hc : es.length ≤ cap) (hm : cap ≤ maxLen)
    (hr : ∀ (i : Nat) (e : List IV) (j : Nat) (x : IV) (u : Value), es[i]? = some e → e[j]? = some x → us[i * k + j]? = some u → RepI E.φ w x u) :
    ∃ E', Inv c E' ⟨st.fr, st.bx, (id, ⟨ty, k⟩) :: st.tk⟩ a (w.alloc (.cells us.toArray ty (0, 0))) ∧
      RepA E' (w.alloc (.cells us.toArray ty (0, 0))) (.row id es) (.slice (some ⟨w.heap.size, 0, none⟩) es.length cap) := by
  obtain ⟨hh, mono⟩ := hi.heap.alloc hf (.cells us.toArray ty (0, 0)) (es.length * k) (.slice (some ⟨w.heap.size, 0, none⟩) es.length cap)
  have hid : (E.upd id w.heap.size (es.length * k) (.slice (some ⟨w.heap.size, 0, none⟩) es.length cap)).η id = .slice (some ⟨w.heap.size, 0, none⟩) es.length cap := by simp [Env.upd]
  have hidx : ∀ (i : Nat) (e : List IV) (j : Nat) (x : IV), es[i]? = some e → e[j]? = some x → i * k + j < es.length * k := fun i e j x h1 h2 => by
    have hi' := (List.getElem?_eq_some_iff.1 h1).1
    have hj' := (List.getElem?_eq_some_iff.1 h2).1
    rw [hk i e h1] at hj'
    calc i * k + j < i * k + k := by omega
      _ = (i + 1) * k := by rw [Nat.add_mul, Nat.one_mul]
      _ ≤ es.length * k := Nat.mul_le_mul_right k hi'
  have hle2 : es.length * k ≤ cap * k := Nat.mul_le_mul_right k hc
  have hkk : Keeps E.φ w (w.alloc (.cells us.toArray ty (0, 0))) := Keeps.alloc hi.heap.new _
  have hle : ∀ b, E.φ b ≤ (E.upd id w.heap.size (es.length * k) (.slice (some ⟨w.heap.size, 0, none⟩) es.length cap)).φ b := fun b => by
    simp only [Env.upd]; split
    · rename_i e; rw [hi.heap.new b (by omega)]; exact Nat.zero_le _
    · exact Nat.le_refl _
  refine ⟨_, ⟨hi.defers, hi.size, fun s v hv => mono v _ (St.fresh_fr hf hv) (hi.slot s v hv), hh.addTok ?_ ?_ ?_ ?_⟩, .row hid.symm ?_⟩
  · refine .inr ⟨w.heap.size, es.length, cap, us.toArray, hid, heapNew w _, hc, hm, by simpa using hl, by simp [Env.upd]⟩
  · intro j t' g hne hj hg
    rw [hid]
    simp only [Value.ownBlock, ne_eq, Option.some.injEq]
    have e : (E.upd id w.heap.size (es.length * k) (.slice (some ⟨w.heap.size, 0, none⟩) es.length cap)).η j = E.η j := by simp [Env.upd, hne]
    rw [e] at hg
    have := ownBlock_lt (hi.heap.tok j t' hj) hg
    omega
  · intro i b hb
    rw [hid]
    simp only [Value.ownBlock, ne_eq, Option.some.injEq]
    have e : (E.upd id w.heap.size (es.length * k) (.slice (some ⟨w.heap.size, 0, none⟩) es.length cap)).ρ i = E.ρ i := by simp [Env.upd, (St.fresh_bx hf hb).1]
    rw [e]
    have := box_lt (hi.heap.box i b hb)
    omega
  · intro g hg
    rw [hid] at hg
    simp [Value.ownBlock] at hg
    subst hg; exact hi.heap.kept.size
  · refine .sl (k := k) (fun i j => us.getD (i * k + j) undef) hc hm hk (fun i e j x h1 h2 => ?_) (fun i e j x h1 h2 => ?_) (fun i e j x h1 h2 => ?_)
    · have := hidx i e j x h1 h2
      simp only [Env.upd, if_true]; omega
    · have := hidx i e j x h1 h2
      rw [Nat.zero_add, World.cell?_alloc_new]
      have hlt : i * k + j < us.length := by omega
      simp [hlt]
    · have := hidx i e j x h1 h2
      have hlt : i * k + j < us.length := by omega
      have hu : us[i * k + j]? = some (us.getD (i * k + j) undef) := by simp [List.getElem?_eq_getElem hlt]
      exact (hr i e j x _ h1 h2 hu).mono hkk hle

/-- a draw -/
theorem Inv.drew {c : Ctx} {E : Env} {st : St} {a : Act} {w : World} (hi : Inv c E st a w) : Inv c E st a w.drew := by
  have hk : Keeps E.φ w w.drew := fun _ _ _ => rfl
  refine ⟨hi.defers, hi.size, fun s v hv => (hi.slot s v hv).keep hk, ⟨fun i b hb => ?_, fun i t ht => hi.heap.tok i t ht, hi.heap.bb, hi.heap.tt, hi.heap.bt, hi.heap.own, hi.heap.ownt, hi.heap.new, hi.heap.old, hi.heap.ins, ?_⟩⟩
  · obtain ⟨h0, arr, ha, hl, h1, hr⟩ := hi.heap.box i b hb
    exact ⟨h0, arr, ha, hl, h1, fun k x u hx hu => (hr k x u hx hu).keep hk⟩
  · exact hi.heap.kept.next rfl rfl rfl (Nat.le_refl _) (fun _ _ _ => rfl)

section
variable {P : Program} {c : Ctx} {st : St} {ops : Array Oper} {Q : Exit → Act → World → Prop} {rest : List Oper} {o : Oper}

/-- o hands back what v stands for; then the state's memory is bx, tk -/
def Makes (P : Program) (c : Ctx) (st : St) (o : Oper) (v : AV) (bx : List (Nat × Box)) (tk : List (Nat × Tok)) : Prop :=
  ∀ (E : Env) (a : Act) (w : World), Inv c E st a w → ∃ (u : Value) (E' : Env) (w' : World), (execOp a.eval o).run P w = .ok (.value u) w' ∧ Inv c E' ⟨st.fr, bx, tk⟩ a w' ∧ RepA E' w' v u

theorem L.make {d : Nat} {v : AV} {bx : List (Nat × Box)} {tk : List (Nat × Tok)} (hg : o.guard = none) (hd : o.dst = some d) (hlt : Nat.ble (d + 1) c.nt = true) (hy : Makes P c st o v bx tk)
    (h : L c ⟨(d, v) :: st.fr, bx, tk⟩ (wpList P ops Q rest)) : L c st (wpList P ops Q (o :: rest)) := by
  rintro a w ⟨E, hi⟩
  obtain ⟨u, E', w', hr, hi', hv⟩ := hy E a w hi
  refine wpList_plain hg (fun K hK => Oper.wp_value hr (hK _ _ ?_))
  rw [hd]
  exact h _ _ ⟨E', hi'.put (Nat.le_of_ble_eq_true hlt) hv⟩

def zeroOk (P : Program) (t : TypeId) (zs : List Value) (z : Value) : Prop := ∃ i, P.info? t = some i ∧ i.zero = some z ∧ z.cells = zs.toArray

theorem Makes.box {t : TypeId} {x : Operand} {id : Nat} {v : AV} (ho : o.op = .box t x) (hx : st.ev x = v) (hv : v.lays = true) (hf : st.fresh id = true) (hm : AV.ments id v.cells = false) :
    Makes P c st o (.ptr id 0) ((id, ⟨t, v.cells⟩) :: st.bx) st.tk := fun E a w hi => by
  have h := hi.ev x; rw [hx] at h
  obtain ⟨hr, h1⟩ := h.lay hv
  refine ⟨_, _, _, ?_, hi.newBox hf (ty := t) hr h1 hm, .ptr rfl⟩
  simp [execOp, ho, Instr.box, newVar, newRow, Env.upd]
theorem Makes.alloc {t : TypeId} {id : Nat} {z : Value} {i : TypeInfo} (ho : o.op = .alloc t) (hz : (P.info? t).bind (·.zero) = some z) (h1 : z.cells.toList.all (·.oneCell') = true) (hf : st.fresh id = true)
    (hm : AV.ments id (z.cells.toList.map constCell) = false) :
    Makes P c st o (.ptr id 0) ((id, ⟨t, z.cells.toList.map constCell⟩) :: st.bx) st.tk := fun E a w hi => by
  refine ⟨_, _, _, ?_, hi.newBox hf (ty := t) (RelL.consts E w _ h1) (List.all_eq_true.1 h1) hm, .ptr rfl⟩
  cases hq : P.info? t with
  | none => simp [hq] at hz
  | some i =>
    simp only [hq, Option.bind_some] at hz
    simp [execOp, ho, Instr.alloc, zeroValue, typeInfo, hq, hz, newVar, newRow, Env.upd]
end
end Go.Abs
