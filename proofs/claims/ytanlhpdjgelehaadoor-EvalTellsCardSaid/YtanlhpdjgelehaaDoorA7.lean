/- A logic of abstract states, part 7: stores into own blocks, append. Conditions: each rule's own premises; over any program. -/
import Derived.Test.YtanlhpdjgelehaaDoorA6
namespace Go.Abs
open Go.RowKit (Below)
set_option linter.unusedVariables false

theorem lookup_filter_ne {β : Type} {p : Nat → Bool} : ∀ {l : List (Nat × β)} {s : Nat} {v : β}, (l.filter (fun q => p q.1)).lookup s = some v → p s = true
  | [], s, v, h => by simp at h
  | (t, u) :: l, s, v, h => by
    by_cases hp : p t = true
    · by_cases e : s = t
      · rw [e]; exact hp
      · have e' : (s == t) = false := by simpa using e
        exact lookup_filter_ne (l := l) (by simpa [List.filter_cons, hp, List.lookup, e'] using h)
    · simp only [Bool.not_eq_true] at hp
      exact lookup_filter_ne (l := l) (by simpa [List.filter_cons, hp] using h)

def delTok (id : Nat) (tk : List (Nat × Tok)) : List (Nat × Tok) := tk.filter (fun p => (fun n => n != id) p.1)
theorem delTok_get {id j : Nat} {tk : List (Nat × Tok)} {t : Tok} (h : (delTok id tk).lookup j = some t) : j ≠ id ∧ tk.lookup j = some t :=
  ⟨by simpa using lookup_filter_ne (p := fun n => n != id) h, lookup_filter_key (fun n => n != id) tk j t h⟩

theorem cell_setRow_ne (w : World) (g : Nat) (cs : Array Value) (b o : Nat) (h : b ≠ g) : (w.setRow g cs).cell? ⟨b, o, none⟩ = w.cell? ⟨b, o, none⟩ := cell_setRow_other w g cs ⟨b, o, none⟩ h

section
variable {c : Ctx} {E : Env} {st : St} {a : Act} {w : World}

/-- a box's cells turn -/
theorem Inv.setBox (hi : Inv c E st a w) {id : Nat} {b : Box} (hb : st.bx.lookup id = some b) {cs : List AV} {us : List Value} (hl : us.length = b.cs.length) (hr : RelL E w cs us) (h1 : ∀ u ∈ us, u.oneCell' = true) :
    Inv c E ⟨st.fr, (id, ⟨b.ty, cs⟩) :: st.bx, st.tk⟩ a (w.setRow (E.ρ id) us.toArray) := by
  obtain ⟨h0, arr, ha, hla, h1a, hra⟩ := hi.heap.box id b hb
  have hk : Keeps E.φ w (w.setRow (E.ρ id) us.toArray) := fun b' o ho => by
    have : b' ≠ E.ρ id := fun e => by rw [e, h0] at ho; cases ho
    exact cell_setRow_ne w _ _ _ _ this
  have hlt : E.ρ id < w.heap.size := (Array.getElem?_eq_some_iff.1 ha).1
  refine ⟨hi.defers, hi.size, fun s v hv => (hi.slot s v hv).keep hk, ⟨fun i b' hb' => ?_, fun i t ht => ?_, fun i j b1 b2 hi' hj he => ?_, hi.heap.tt, fun i j b1 t hi' hj => ?_, fun i b1 hi' => ?_, hi.heap.ownt, fun b' hb' => ?_, hi.heap.old, fun i hin => ?_, ?_⟩⟩
  · by_cases e : i = id
    · subst e; rw [lookup_cons_eq] at hb'; cases hb'
      refine ⟨h0, us, ?_, hr.1, h1, fun i x u hx hu => (hr.2 i x u hx hu).keep hk⟩
      exact setRow_heap w _ _ _ _ _ ha
    · rw [lookup_cons_ne e] at hb'
      obtain ⟨h0', arr', ha', hla', h1a', hra'⟩ := hi.heap.box i b' hb'
      refine ⟨h0', arr', ?_, hla', h1a', fun i x u hx hu => (hra' i x u hx hu).keep hk⟩
      rw [setRow_other w _ _ _ (fun e' => e (hi.heap.bb i id b' b hb' hb e'))]; exact ha'
  · rcases hi.heap.tok i t ht with hn | ⟨g, n, cap, cur, hv, hg, rest⟩
    · exact .inl hn
    · refine .inr ⟨g, n, cap, cur, hv, ?_, rest⟩
      rw [setRow_other w _ _ _ (fun e' => hi.heap.bt id i b t hb ht (by rw [hv]; simp [Value.ownBlock, e']))]; exact hg
  · have f : ∀ (i : Nat) (b1 : Box), List.lookup i ((id, ⟨b.ty, cs⟩) :: st.bx) = some b1 → ∃ b2, st.bx.lookup i = some b2 := fun i b1 h => by
      by_cases e : i = id
      · subst e; exact ⟨b, hb⟩
      · rw [lookup_cons_ne e] at h; exact ⟨b1, h⟩
    obtain ⟨b3, h3⟩ := f i b1 hi'
    obtain ⟨b4, h4⟩ := f j b2 hj
    exact hi.heap.bb i j b3 b4 h3 h4 he
  · by_cases e : i = id
    · subst e; exact hi.heap.bt i j b t hb hj
    · rw [lookup_cons_ne e] at hi'; exact hi.heap.bt i j b1 t hi' hj
  · by_cases e : i = id
    · subst e; exact hi.heap.own i b hb
    · rw [lookup_cons_ne e] at hi'; exact hi.heap.own i b1 hi'
  · exact hi.heap.new b' (by simpa using hb')
  · obtain ⟨e1, e2, e3⟩ := hi.heap.ins i hin
    refine ⟨e1, e2, ?_⟩
    by_cases e : i = id
    · subst e; rw [lookup_cons_eq]; rfl
    · rw [lookup_cons_ne e]; exact e3
  · refine hi.heap.kept.next rfl rfl rfl (by simp) (fun k hk' hm => ?_)
    have : k ≠ E.ρ id := fun e => by
      rcases hi.heap.own id b hb with h | h
      · omega
      · rw [← e] at h; exact hm h
    exact setRow_other w _ _ _ this

/-- a row grows in place -/
theorem Inv.growRow (hi : Inv c E st a w) {id id' : Nat} (hf : st.fresh id' = true) {t : Tok} (ht : st.tk.lookup id = some t) {g n n' cap : Nat} {cur cur' : Array Value} (hv : E.η id = .slice (some ⟨g, 0, none⟩) n cap)
    (hg : w.heap[g]? = some (.cells cur t.ty (0, 0))) (hφ : E.φ g ≤ n * t.k) (hs : cur'.size = cap * t.k) (hsame : ∀ o, o < n * t.k → cur'[o]? = cur[o]?) (hn : n ≤ n') (hc : n' ≤ cap) (hm : cap ≤ maxLen) :
    Inv c ⟨fun b => if b = g then n' * t.k else E.φ b, E.ρ, fun i => if i = id' then .slice (some ⟨g, 0, none⟩) n' cap else E.η i⟩ ⟨st.fr, st.bx, (id', t) :: delTok id st.tk⟩ a (w.setRow g cur') ∧
      Keeps E.φ w (w.setRow g cur') ∧ ∀ b, E.φ b ≤ (if b = g then n' * t.k else E.φ b) := by
  have hk : Keeps E.φ w (w.setRow g cur') := fun b o ho => by
    by_cases e : b = g
    · subst e
      rw [cell_of_row _ _ _ _ _ _ (setRow_heap w b cur cur' _ _ hg), cell_of_row w _ _ _ _ _ hg]
      exact hsame o (by omega)
    · exact cell_setRow_ne w _ _ _ _ e
  have hle : ∀ b, E.φ b ≤ (if b = g then n' * t.k else E.φ b) := fun b => by
    split
    · rename_i e; subst e; exact Nat.le_trans hφ (Nat.mul_le_mul_right _ hn)
    · exact Nat.le_refl _
  have hlt : g < w.heap.size := (Array.getElem?_eq_some_iff.1 hg).1
  have hown : (E.η id).ownBlock = some g := by rw [hv]; rfl
  have hidne : id ≠ id' := St.fresh_tk hf ht
  have mono : ∀ (x : AV) (u : Value), AV.ment id' x = false → RepA E w x u → RepA ⟨fun b => if b = g then n' * t.k else E.φ b, E.ρ, fun i => if i = id' then .slice (some ⟨g, 0, none⟩) n' cap else E.η i⟩ (w.setRow g cur') x u := fun x u hm hr =>
    hr.mono hk hle (fun i hi' => by
      have : i ≠ id' := fun e => by subst e; rw [hm] at hi'; cases hi'
      exact ⟨rfl, by simp [this]⟩)
  refine ⟨⟨hi.defers, hi.size, fun s v hv => mono v _ (St.fresh_fr hf hv) (hi.slot s v hv), ?_⟩, hk, hle⟩
  have base : HInv c ⟨fun b => if b = g then n' * t.k else E.φ b, E.ρ, fun i => if i = id' then .slice (some ⟨g, 0, none⟩) n' cap else E.η i⟩ st.bx (delTok id st.tk) (w.setRow g cur') := by
    have hη : ∀ i, i ≠ id' → (if i = id' then Value.slice (some ⟨g, 0, none⟩) n' cap else E.η i) = E.η i := fun i h => by simp [h]
    refine ⟨fun i b hb => ?_, fun i t' ht' => ?_, hi.heap.bb, fun i j t1 t2 g' hi' hj h1 h2 => ?_, fun i j b t1 hb hj => ?_, hi.heap.own, fun j t1 g' hj hg' => ?_, fun b hb => ?_, fun b hb => ?_, fun i hin => ?_, ?_⟩
    · obtain ⟨h0, arr, ha, hl, h1, hr⟩ := hi.heap.box i b hb
      have hne : E.ρ i ≠ g := fun e => hi.heap.bt i id b t hb ht (by rw [hown, e])
      refine ⟨by simp only; rw [if_neg hne]; exact h0, arr, by rw [setRow_other w _ _ _ hne]; exact ha, hl, h1, fun k x u hx hu => mono x u (AV.ments_false (St.fresh_bx hf hb).2 k x hx) (hr k x u hx hu)⟩
    · obtain ⟨hne, hl⟩ := delTok_get ht'
      have hne' := St.fresh_tk hf hl
      rcases hi.heap.tok i t' hl with hn' | ⟨g', m, cap', cur1, hv', hg', r1, r2, r3, r4⟩
      · exact .inl (by simp only; rw [hη i hne']; exact hn')
      · have hgg : g' ≠ g := fun e => hne (hi.heap.tt i id t' t g hl ht (by rw [hv', e]; rfl) hown)
        exact .inr ⟨g', m, cap', cur1, by simp only; rw [hη i hne']; exact hv', by rw [setRow_other w _ _ _ hgg]; exact hg', r1, r2, r3, by simp only; rw [if_neg hgg]; exact r4⟩
    · obtain ⟨n1, l1⟩ := delTok_get hi'
      obtain ⟨n2, l2⟩ := delTok_get hj
      simp only at h1 h2
      rw [hη i (St.fresh_tk hf l1)] at h1
      rw [hη j (St.fresh_tk hf l2)] at h2
      exact hi.heap.tt i j t1 t2 g' l1 l2 h1 h2
    · obtain ⟨n2, l2⟩ := delTok_get hj
      simp only
      rw [hη j (St.fresh_tk hf l2)]
      exact hi.heap.bt i j b t1 hb l2
    · obtain ⟨n2, l2⟩ := delTok_get hj
      simp only at hg'
      rw [hη j (St.fresh_tk hf l2)] at hg'
      exact hi.heap.ownt j t1 g' l2 hg'
    · simp only
      have hb' : w.heap.size ≤ b := by simpa using hb
      rw [if_neg (by omega)]
      exact hi.heap.new b hb'
    · simp only
      have : c.w0.heap.size ≤ g := hi.heap.ownt id t g ht hown
      rw [if_neg (by omega)]
      exact hi.heap.old b hb
    · obtain ⟨e1, e2, e3⟩ := hi.heap.ins i hin
      obtain ⟨b, hb⟩ := Option.isSome_iff_exists.1 e3
      exact ⟨e1, (hη i (St.fresh_bx hf hb).1).trans e2, e3⟩
    · refine hi.heap.kept.next rfl rfl rfl (by simp) (fun k hk' hm => ?_)
      have : c.w0.heap.size ≤ g := hi.heap.ownt id t g ht hown
      exact setRow_other w _ _ _ (by omega)
  have hid : (if id' = id' then Value.slice (some ⟨g, 0, none⟩) n' cap else E.η id') = .slice (some ⟨g, 0, none⟩) n' cap := by simp
  refine base.addTok ?_ ?_ ?_ ?_
  · exact .inr ⟨g, n', cap, cur', hid, setRow_heap w g cur cur' _ _ hg, hc, hm, hs, by simp⟩
  · intro j t' g' hne hj hg'
    show (if id' = id' then Value.slice (some ⟨g, 0, none⟩) n' cap else E.η id').ownBlock ≠ some g'
    rw [hid]
    obtain ⟨n2, l2⟩ := delTok_get hj
    simp only [hne, if_false] at hg'
    intro e
    simp only [Value.ownBlock, Option.some.injEq] at e
    subst e
    exact n2 (hi.heap.tt j id t' t g l2 ht hg' hown)
  · intro i b hb
    show (if id' = id' then Value.slice (some ⟨g, 0, none⟩) n' cap else E.η id').ownBlock ≠ some (E.ρ i)
    rw [hid]
    intro e
    simp only [Value.ownBlock, Option.some.injEq] at e
    exact hi.heap.bt i id b t hb ht (by rw [hown, e])
  · intro g' hg'
    have hg2 : (if id' = id' then Value.slice (some ⟨g, 0, none⟩) n' cap else E.η id').ownBlock = some g' := hg'
    rw [hid] at hg2
    simp only [Value.ownBlock, Option.some.injEq] at hg2
    subst hg2; exact hi.heap.ownt id t g ht hown
end

section
variable {P : Program} {c : Ctx} {st : St} {ops : Array Oper} {Q : Exit → Act → World → Prop} {rest : List Oper} {o : Oper}

def Does (P : Program) (c : Ctx) (st : St) (o : Oper) (bx : List (Nat × Box)) (tk : List (Nat × Tok)) : Prop :=
  ∀ (E : Env) (a : Act) (w : World), Inv c E st a w → ∃ (E' : Env) (w' : World), (execOp a.eval o).run P w = .ok .skip w' ∧ Inv c E' ⟨st.fr, bx, tk⟩ a w'
theorem L.does {bx : List (Nat × Box)} {tk : List (Nat × Tok)} (hg : o.guard = none) (hd : o.dst = none) (hy : Does P c st o bx tk)
    (h : L c ⟨st.fr, bx, tk⟩ (wpList P ops Q rest)) : L c st (wpList P ops Q (o :: rest)) := by
  rintro a w ⟨E, hi⟩
  obtain ⟨E', w', hr, hi'⟩ := hy E a w hi
  refine wpList_plain hg (fun K hK => ?_)
  unfold Oper.wp
  rw [hr]
  simp only [Oper.upon_skip, hd, Act.put]
  exact hK _ _ (h _ _ ⟨E', hi'⟩)

theorem Does.store {t : TypeId} {x y : Operand} {id off k : Nat} {b : Box} {v : AV} {agg : Bool} (ho : o.op = .store t x y) (ht : varOk P t agg k = true) (hx : st.ev x = .ptr id off) (hb : st.bx.lookup id = some b)
    (hy : st.ev y = v) (hv : v.lays = true) (hk : v.cells.length = k) (hle : off + k ≤ b.cs.length) : Does P c st o ((id, ⟨b.ty, setA b.cs off v.cells⟩) :: st.bx) st.tk := fun E a w hi => by
  obtain ⟨arr, ha, hr, h1, hc⟩ := hi.boxCell hb
  have hyv := hi.ev y
  rw [hy] at hyv
  obtain ⟨hrv, h1v⟩ := hyv.lay hv
  have hul : (a.eval y).cells.toList.length = k := by rw [hrv.1, hk]
  have hrun := run_storeCells_at P (E.ρ id) off b.ty (a.eval y).cells.toList 0 arr.toArray w ha (by rw [hul]; simp [hr.1]; exact hle) h1v
  have hnew : RelL E w (setA b.cs off v.cells) (arr.take off ++ ((a.eval y).cells.toList ++ arr.drop (off + k))) := by
    unfold setA; rw [hk]; exact (hr.take off).append (hrv.append (hr.drop (off + k)))
  refine ⟨E, _, ?_, hi.setBox hb (us := arr.take off ++ ((a.eval y).cells.toList ++ arr.drop (off + k))) ?_ hnew ?_⟩
  · have hsz : (a.eval y).cells.size = k := by simpa using hul
    have hrun' : (storeCells ⟨E.ρ id, off, none⟩ (a.eval y).cells.toList).run P w = .ok () (w.setRow (E.ρ id) (arr.take off ++ ((a.eval y).cells.toList ++ arr.drop (off + k))).toArray) := by
      rw [hrun]; simp only [Nat.add_zero, hul, List.append_assoc]
    simp [execOp, ho, hi.ptr hx, Instr.storeAt, Instr.sureAddr, storeVar, (varOk_agg ht w).2, hsz, hrun']
  · simp only [List.length_append, List.length_take, List.length_drop, hul, hr.1]; omega
  · intro u hu
    rcases List.mem_append.1 hu with hu | hu
    · exact h1 u (List.mem_of_mem_take hu)
    · rcases List.mem_append.1 hu with hu | hu
      · exact h1v u hu
      · exact h1 u (List.mem_of_mem_drop hu)
end
end Go.Abs
