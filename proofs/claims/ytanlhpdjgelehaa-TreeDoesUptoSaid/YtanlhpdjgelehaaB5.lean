/- A logic of abstract states, part 16: steps that no operation takes: a slice's room laid open, a row under a new name, a box given up. Conditions: each rule's own premises; over any program. -/
import Derived.Test.YtanlhpdjgelehaaB4
namespace Go.Abs
open Go.RowKit (Below)
set_option linter.unusedVariables false

/-- a box said otherwise -/
theorem HInv.reBox {c : Ctx} {E : Env} {bx : List (Nat × Box)} {tk : List (Nat × Tok)} {w : World} (h : HInv c E bx tk w) {id : Nat} {b b' : Box} (hb : bx.lookup id = some b) (hbn : b.cs ≠ []) (hb' : b'.cs ≠ [] → BoxOk E w id b') :
    HInv c E ((id, b') :: bx) tk w := by
  have f : ∀ (i : Nat) (b1 : Box), List.lookup i ((id, b') :: bx) = some b1 → b1.cs ≠ [] → ∃ b2, bx.lookup i = some b2 ∧ b2.cs ≠ [] := fun i b1 h hn => by
    by_cases e : i = id
    · subst e; exact ⟨b, hb, hbn⟩
    · rw [lookup_cons_ne e] at h; exact ⟨b1, h, hn⟩
  refine ⟨fun i b1 hi hn => ?_, h.tok, fun i j b1 b2 hi hj hn hn' he => ?_, h.tt, fun i j b1 t hi hn hj => ?_, fun i b1 hi hn => ?_, h.ownt, h.new, h.old, fun i hin => ?_, h.kept⟩
  · by_cases e : i = id
    · subst e; rw [lookup_cons_eq] at hi; cases hi; exact hb' hn
    · rw [lookup_cons_ne e] at hi; exact h.box i b1 hi hn
  · obtain ⟨b3, h3, n3⟩ := f i b1 hi hn
    obtain ⟨b4, h4, n4⟩ := f j b2 hj hn'
    exact h.bb i j b3 b4 h3 h4 n3 n4 he
  · obtain ⟨b3, h3, n3⟩ := f i b1 hi hn
    exact h.bt i j b3 t h3 n3 hj
  · obtain ⟨b3, h3, n3⟩ := f i b1 hi hn
    exact h.own i b3 h3 n3
  · obtain ⟨e1, e2, e3⟩ := h.ins i hin
    refine ⟨e1, e2, ?_⟩
    by_cases e : i = id
    · subst e; rw [lookup_cons_eq]; rfl
    · rw [lookup_cons_ne e]; exact e3

/-- an object of which nothing speaks is turned -/
theorem HInv.turn {c : Ctx} {E : Env} {st : St} {w : World} (h : HInv c E st.bx st.tk w) {id : Nat} (hf : st.fresh id = true) (g : Nat) (v : Value) :
    HInv c ⟨E.φ, fun i => if i = id then g else E.ρ i, fun i => if i = id then v else E.η i⟩ st.bx st.tk w ∧
      (∀ (x : AV) (u : Value), AV.ment id x = false → RepA E w x u → RepA ⟨E.φ, fun i => if i = id then g else E.ρ i, fun i => if i = id then v else E.η i⟩ w x u) := by
  have hρ : ∀ i, i ≠ id → (if i = id then g else E.ρ i) = E.ρ i := fun i hi => by simp [hi]
  have hη : ∀ i, i ≠ id → (if i = id then v else E.η i) = E.η i := fun i hi => by simp [hi]
  have mono : ∀ (x : AV) (u : Value), AV.ment id x = false → RepA E w x u → RepA ⟨E.φ, fun i => if i = id then g else E.ρ i, fun i => if i = id then v else E.η i⟩ w x u := fun x u hm hr =>
    RepA.mono (E := E) (w := w) (h := hr) (E' := ⟨E.φ, fun i => if i = id then g else E.ρ i, fun i => if i = id then v else E.η i⟩) (fun _ _ _ => rfl) (fun _ => Nat.le_refl _) (fun i hi => by
      have : i ≠ id := fun e => by subst e; rw [hm] at hi; cases hi
      exact ⟨hρ i this, hη i this⟩)
  refine ⟨⟨fun i b hb hn => ?_, fun i t ht => ?_, fun i j b b' hi hj hn hn' he => ?_, fun i j t t' g' hi hj h1 h2 => ?_, fun i j b t hi hn hj => ?_, fun i b hi hn => ?_, fun j t g' hj hg => ?_, h.new, h.old, fun i hin => ?_, h.kept⟩, mono⟩
  · obtain ⟨hne, hm⟩ := St.fresh_bx hf hb
    obtain ⟨h0, arr, ha, hl, h1, hr, hq⟩ := h.box i b hb hn
    refine ⟨by simp only [hρ i hne]; exact h0, arr, by simp only [hρ i hne]; exact ha, hl, h1, fun k x u hx hu => mono x u (AV.ments_false hm k x hx) (hr k x u hx hu), fun k cap he => hq k cap (by simpa only [hη i hne] using he)⟩
  · have := h.tok i t ht
    simp only [TokOk, hη i (St.fresh_tk hf ht)] at this ⊢
    exact this
  · simp only [hρ i (St.fresh_bx hf hi).1, hρ j (St.fresh_bx hf hj).1] at he
    exact h.bb i j b b' hi hj hn hn' he
  · simp only [hη i (St.fresh_tk hf hi)] at h1
    simp only [hη j (St.fresh_tk hf hj)] at h2
    exact h.tt i j t t' g' hi hj h1 h2
  · simp only [hρ i (St.fresh_bx hf hi).1, hη j (St.fresh_tk hf hj)]
    exact h.bt i j b t hi hn hj
  · simp only [hρ i (St.fresh_bx hf hi).1]; exact h.own i b hi hn
  · simp only [hη j (St.fresh_tk hf hj)] at hg; exact h.ownt j t g' hj hg
  · obtain ⟨e1, e2, e3⟩ := h.ins i hin
    obtain ⟨b, hb⟩ := Option.isSome_iff_exists.1 e3
    have hne := (St.fresh_bx hf hb).1
    exact ⟨(hρ i hne).trans e1, (hη i hne).trans e2, e3⟩

section
variable {c : Ctx} {st : St} {X : Act → World → Prop}

/-- a slice's room, laid open -/
theorem L.openRow (s : Nat) {id n k m : Nat} {ty : TypeId} {xs : List IV} (hs : st.fr.lookup s = some (.bsh id 0 n k)) (hb : st.bx.lookup id = some ⟨ty, .r xs m⟩) (hbn : xs ≠ [] ∨ 0 < m) (hl : n * k ≤ xs.length + m)
    (h : ∀ cap, n ≤ cap → cap ≤ maxLen → L c ⟨(s, .bsl id 0 n cap) :: st.fr, (id, ⟨ty, .r xs (cap * k - xs.length)⟩) :: st.bx, st.tk⟩ X) : L c st X := by
  rintro a w ⟨E, hi⟩
  have hbn' : (⟨ty, .r xs m⟩ : Box).cs ≠ [] := fun e => by
    simp only [Box.cs_r, List.append_eq_nil_iff, List.map_eq_nil_iff, List.replicate_eq_nil_iff] at e
    rcases hbn with h | h
    · exact h e.1
    · omega
  obtain ⟨cap, o, hq, hn, hm, he, hoo⟩ := (hi.slot s _ hs).bsh_inv
  obtain ⟨h0, arr, ha, hla, h1, hr, hη⟩ := hi.heap.box id _ hb hbn'
  simp only [Box.cs_r, List.length_append, List.length_map, List.length_replicate] at hla
  refine h cap (by omega) hm a w ⟨E, hi.defers, hi.size, fun s' v hv => ?_, hi.heap.reBox hb hbn' (fun _ => ⟨h0, arr, ha, ?_, h1, fun i x u hx hu => ?_, hη⟩)⟩
  · by_cases e : s' = s
    · subst e; rw [lookup_cons_eq] at hv; cases hv
      exact .bsl (o := o) (by omega) hm (fun h => by rw [hoo (by omega)]; simp) (by rw [hq]; simp)
    · rw [lookup_cons_ne e] at hv; exact hi.slot s' v hv
  · have := hη k cap he
    simp only [Box.cs_r, List.length_append, List.length_map, List.length_replicate]; omega
  · simp only [Box.cs_r] at hx
    rw [List.getElem?_append] at hx
    split at hx
    · rename_i hlt
      exact hr i x u (by simp only [Box.cs_r]; rw [List.getElem?_append_left hlt]; exact hx) hu
    · simp only [List.getElem?_replicate] at hx
      split at hx
      · cases hx; exact .any
      · cases hx

/-- a box given up -/
theorem L.kill (id : Nat) {b : Box} (hb : st.bx.lookup id = some b) (hbn : b.cs ≠ []) (h : L c ⟨st.fr, (id, ⟨b.ty, .l []⟩) :: st.bx, st.tk⟩ X) : L c st X := by
  rintro a w ⟨E, hi⟩
  exact h a w ⟨E, hi.defers, hi.size, hi.slot, hi.heap.reBox hb hbn (fun h => (h rfl).elim)⟩

/-- a box said in other words -/
theorem L.recell (id : Nat) {b b' : Box} (hb : st.bx.lookup id = some b) (ht : b.ty = b'.ty) (hc : Subs b.cs b'.cs) (h : L c ⟨st.fr, (id, b') :: st.bx, st.tk⟩ X) : L c st X := by
  rintro a w ⟨E, hi⟩
  exact h a w ⟨E, hi.defers, hi.size, hi.slot, hi.heap.recell hb ht hc⟩

/-- a row under a new name, its room hidden -/
theorem L.rename (s N : Nat) {id n cap m : Nat} (k : Nat) {ty : TypeId} {xs : List IV} (hs : st.fr.lookup s = some (.bsl id 0 n cap)) (hb : st.bx.lookup id = some ⟨ty, .r xs m⟩) (hf : st.fresh N = true) (hbn : xs ≠ [] ∨ 0 < m) (hcap : cap * k ≤ xs.length + m)
    (h : L c ⟨(s, .bsh N 0 n k) :: st.fr, (N, ⟨ty, .r (xs.take (n * k)) 0⟩) :: (id, ⟨ty, .l []⟩) :: st.bx, st.tk⟩ X) : L c st X := by
  rintro a w ⟨E, hi⟩
  have hbn' : (⟨ty, .r xs m⟩ : Box).cs ≠ [] := fun e => by
    simp only [Box.cs_r, List.append_eq_nil_iff, List.map_eq_nil_iff, List.replicate_eq_nil_iff] at e
    rcases hbn with h | h
    · exact h e.1
    · omega
  have hne : id ≠ N := (St.fresh_bx hf hb).1
  obtain ⟨o, hq, hn, hmx, hoo⟩ := (hi.slot s _ hs).bsl_inv
  obtain ⟨h0, arr, ha, hl, h1, hr, hη⟩ := hi.heap.box id _ hb hbn'
  simp only [Box.cs_r, List.length_append, List.length_map, List.length_replicate] at hl
  obtain ⟨hh, mono⟩ := hi.heap.turn hf (E.ρ id) (capV k cap)
  have hid : (if id = N then E.ρ id else E.ρ id) = E.ρ id := by simp
  have hk := hh.reBox (b' := ⟨ty, .l []⟩) hb hbn' (fun h => (h rfl).elim)
  refine h a w ⟨⟨E.φ, fun i => if i = N then E.ρ id else E.ρ i, fun i => if i = N then capV k cap else E.η i⟩, hi.defers, hi.size, fun s' v hv => ?_, hk.addBox ?_ ?_ ?_ ?_ ?_⟩
  · by_cases e : s' = s
    · subst e; rw [lookup_cons_eq] at hv; cases hv
      exact .bsh (cap := cap) (o := o) (by omega) hmx (by simp) (fun h => by rw [hoo (by omega)]; simp) (by rw [hq]; simp)
    · rw [lookup_cons_ne e] at hv; exact mono v _ (St.fresh_fr hf hv) (hi.slot s' v hv)
  · rw [lookup_cons_ne (Ne.symm hne)]
    cases hq' : st.bx.lookup N with
    | none => rfl
    | some b1 => exact ((St.fresh_bx hf hq').1 rfl).elim
  · refine ⟨by simp only [if_true]; exact h0, arr, by simp only [if_true]; exact ha, ?_, h1, fun i x u hx hu => ?_, fun k' cap' he => ?_⟩
    · simp only [Box.cs_r, List.length_append, List.length_map, List.length_replicate, List.length_take]; omega
    · simp only [Box.cs_r, List.replicate_zero, List.append_nil, List.map_take] at hx
      rw [List.getElem?_take] at hx
      split at hx
      · refine mono x u ?_ (hr i x u ?_ hu)
        · rw [List.getElem?_map, Option.map_eq_some_iff] at hx
          obtain ⟨y, _, rfl⟩ := hx
          rfl
        · simp only [Box.cs_r]
          have := (List.getElem?_eq_some_iff.1 hx).1
          rw [List.getElem?_append_left this]; exact hx
      · cases hx
    · simp only [if_true] at he
      obtain ⟨rfl, rfl⟩ := capV_inj he
      omega
  · intro j b1 hj hjn
    by_cases e : j = id
    · subst e; rw [lookup_cons_eq] at hj; cases hj; exact (hjn rfl).elim
    · rw [lookup_cons_ne e] at hj
      simp only [if_true, if_neg (St.fresh_bx hf hj).1]
      exact fun he => e (hi.heap.bb j id b1 _ hj hb hjn hbn' he)
  · intro j t hj
    simp only [if_true, if_neg (St.fresh_tk hf hj)]
    exact hi.heap.bt id j _ t hb hbn' hj
  · simp only [if_true]; exact hi.heap.own id _ hb hbn'
end
end Go.Abs
