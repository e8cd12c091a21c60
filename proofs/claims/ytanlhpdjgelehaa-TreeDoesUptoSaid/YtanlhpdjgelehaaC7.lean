/- A logic of abstract states, part 26: rows that grow in the cells of a box. Conditions: each rule's own premises; over any program. -/
import Derived.Test.YtanlhpdjgelehaaC6
namespace Go.Abs
open Go.RowKit (Below)
set_option linter.unusedVariables false
set_option linter.unusedSimpArgs false
variable {P : Program} {c : Ctx} {st : St}

/-- a row under another number, at places -/
inductive Tk (a b : Nat) : AV → AV → Prop
  | same {v : AV} : Tk a b v v
  | row {es : List (List IV)} : Tk a b (.row a es) (.row b es)
  | agg {l l' : List AV} (hl : l'.length = l.length) (h : ∀ (i : Nat) (x y : AV), l[i]? = some x → l'[i]? = some y → Tk a b x y) : Tk a b (.agg l) (.agg l')
inductive Tks (a b : Nat) : List AV → List AV → Prop
  | nil : Tks a b [] []
  | cons {v v' : AV} {l l' : List AV} (h : Tk a b v v') (t : Tks a b l l') : Tks a b (v :: l) (v' :: l')
theorem Tks.get {a b : Nat} {l l' : List AV} (h : Tks a b l l') : l'.length = l.length ∧ ∀ (i : Nat) (v : AV), l'[i]? = some v → ∃ v0, l[i]? = some v0 ∧ Tk a b v0 v := by
  induction h with
  | nil => exact ⟨rfl, fun i v h => by simp at h⟩
  | cons h _ ih =>
    refine ⟨by simp [ih.1], fun i v hv => ?_⟩
    cases i with
    | zero => simp at hv; subst hv; exact ⟨_, rfl, h⟩
    | succ i => exact ih.2 i v (by simpa using hv)
theorem Tk.rep {a b : Nat} {E : Env} (he : E.η b = E.η a) {w : World} {v v' : AV} (h : Tk a b v v') : ∀ {u : Value}, RepA E w v u → RepA E w v' u := by
  induction h with
  | same => exact fun hu => hu
  | row =>
    intro u hu
    cases hu with
    | row hu h => exact .row (by rw [he]; exact hu) h
  | agg hl h ih =>
    intro u hu
    cases hu with
    | agg hl2 h1 hr =>
      refine .agg (by rw [hl2, hl]) h1 (fun i x y hx hy => ?_)
      have hi := (List.getElem?_eq_some_iff.1 hx).1
      rw [hl] at hi
      exact ih i _ x (List.getElem?_eq_getElem hi) hx (hr i _ y (List.getElem?_eq_getElem hi) hy)

/-- cells of a box, said otherwise -/
theorem HInv.recs {E : Env} {w : World} {tk : List (Nat × Tok)} {bx : List (Nat × Box)} (hh : HInv c E bx tk w) {j : Nat} {bj : Box} {cs : List AV} (hj : bx.lookup j = some bj) (hjn : bj.cs ≠ [])
    (hl : cs.length = bj.cs.length) (h : ∀ (i : Nat) (v : AV), cs[i]? = some v → ∃ v0, bj.cs[i]? = some v0 ∧ ∀ u, RepA E w v0 u → RepA E w v u) : HInv c E ((j, ⟨bj.ty, .l cs⟩) :: bx) tk w := by
  refine hh.reBox hj hjn (fun hn => ?_)
  obtain ⟨g0, arr, ha, hla, h1, hr, hη⟩ := hh.box j bj hj hjn
  refine ⟨g0, arr, ha, by simpa [hl] using hla, h1, fun i x u hx hu => ?_, hη⟩
  obtain ⟨v0, hv0, hp0⟩ := h i x hx
  exact hp0 u (hr i v0 u hv0 hu)

theorem retok_core {t : Tok} (a b : Nat) (ht : st.tk.lookup a = some t) (hf : st.fresh b = true) (hin : c.ins.contains b = false) {E : Env} {act : Act} {w : World} (hi : Inv c E st act w) :
    ∃ E' : Env, Inv c E' ⟨st.fr, st.bx, (b, t) :: delTok a st.tk⟩ act w ∧ E'.η b = E'.η a := by
  have hab : a ≠ b := St.fresh_tk hf ht
  have mono : ∀ (v : AV) (u : Value), AV.ment b v = false → RepA E w v u → RepA ⟨E.φ, E.ρ, fun i => if i = b then E.η a else E.η i⟩ w v u := fun v u hm hr =>
    hr.mono (E := E) (E' := ⟨E.φ, E.ρ, fun i => if i = b then E.η a else E.η i⟩) (fun _ _ _ => rfl) (fun _ => Nat.le_refl _) (fun i hi' => ⟨rfl, by
      have : i ≠ b := fun e => by subst e; rw [hm] at hi'; cases hi'
      simp [this]⟩)
  have hh : HInv c ⟨E.φ, E.ρ, fun i => if i = b then E.η a else E.η i⟩ st.bx st.tk w := hi.heap.reEta
    (fun i bb h0 k v u hv hr => mono v u (AV.ments_false (St.fresh_bx hf h0).2 k v hv) hr)
    (fun j t' hj => by simp only [if_neg (St.fresh_tk hf hj)])
    (fun id hid => by
      have : id ≠ b := fun e => by subst e; simp at hin; exact hin hid
      simp only [if_neg this])
    (fun i bb h0 => by simp only [if_neg (St.fresh_bx hf h0).1])
  have hh' : HInv c ⟨E.φ, E.ρ, fun i => if i = b then E.η a else E.η i⟩ st.bx (delTok a st.tk) w := by
    have hw : Wk c st ⟨st.fr, st.bx, delTok a st.tk⟩ := ⟨fun id hid => (hi.heap.ins id hid).2.2, fun s v hv => ⟨v, hv, Sub.refl _⟩, fun id bb hb => ⟨bb, hb, rfl, Subs.refl _⟩, fun id t' ht' => by
      simp only at ht'; rw [delTok_look'] at ht'
      split at ht'
      · cases ht'
      · exact ht'⟩
    exact hh.wk (st := st) (st' := ⟨st.fr, st.bx, delTok a st.tk⟩) hw
  refine ⟨⟨E.φ, E.ρ, fun i => if i = b then E.η a else E.η i⟩, ⟨hi.defers, hi.size, fun s' v hv => mono v _ (St.fresh_fr hf hv) (hi.slot s' v hv), ?_⟩, by simp [hab]⟩
  refine hh'.addTok ?_ (fun j t' g hj hl hg => ?_) (fun i bb hb hn => ?_) (fun g hg => ?_)
  · have := hi.heap.tok a t ht
    simp only [TokOk, if_true] at this ⊢
    exact this
  · rw [delTok_look'] at hl
    split at hl
    · cases hl
    · rename_i hja
      simp only [if_neg hj, if_true] at hg ⊢
      intro hg'
      exact hja (hi.heap.tt j a t' t g hl ht hg hg')
  · simp only [if_true]
    exact hi.heap.bt i a bb t hb hn ht
  · simp only [if_true] at hg
    exact hi.heap.ownt a t g ht hg
/-- a row in a box's cells under another number -/
theorem L.retokB {t : Tok} {X : Act → World → Prop} {bj : Box} {cs : List AV} (j a b : Nat) (hj : st.bx.lookup j = some bj) (hjn : bj.cs ≠ []) (ht : st.tk.lookup a = some t) (hf : st.fresh b = true) (hin : c.ins.contains b = false) (hp : Tks a b bj.cs cs)
    (h : L c ⟨st.fr, (j, ⟨bj.ty, .l cs⟩) :: st.bx, (b, t) :: delTok a st.tk⟩ X) : L c st X := by
  rintro act w ⟨E, hi⟩
  obtain ⟨E', hi2, he⟩ := retok_core a b ht hf hin hi
  obtain ⟨hl, hg⟩ := hp.get
  exact h act w ⟨E', hi2.defers, hi2.size, hi2.slot, hi2.heap.recs hj hjn hl (fun i v hv => by
    obtain ⟨v0, h0, hq⟩ := hg i v hv
    exact ⟨v0, h0, fun u hu => hq.rep he hu⟩)⟩
/-- nil as an empty row, at places -/
inductive Ad (id : Nat) : AV → AV → Prop
  | same {v : AV} : Ad id v v
  | here : Ad id .nils (.row id [])
inductive Ads (id : Nat) : List AV → List AV → Prop
  | nil : Ads id [] []
  | cons {v v' : AV} {l l' : List AV} (h : Ad id v v') (t : Ads id l l') : Ads id (v :: l) (v' :: l')
theorem Ads.get {id : Nat} {l l' : List AV} (h : Ads id l l') : l'.length = l.length ∧ ∀ (i : Nat) (v : AV), l'[i]? = some v → ∃ v0, l[i]? = some v0 ∧ Ad id v0 v := by
  induction h with
  | nil => exact ⟨rfl, fun i v h => by simp at h⟩
  | cons h _ ih =>
    refine ⟨by simp [ih.1], fun i v hv => ?_⟩
    cases i with
    | zero => simp at hv; subst hv; exact ⟨_, rfl, h⟩
    | succ i => exact ih.2 i v (by simpa using hv)
theorem adopt_core (id : Nat) (t : TypeId) (k : Nat) (hf : st.fresh id = true) (hin : c.ins.contains id = false) {E : Env} {a : Act} {w : World} (hi : Inv c E st a w) :
    ∃ E' : Env, Inv c E' ⟨st.fr, st.bx, (id, ⟨t, k⟩) :: st.tk⟩ a w ∧ E'.η id = .slice none 0 0 := by
  have mono : ∀ (v : AV) (u : Value), AV.ment id v = false → RepA E w v u → RepA ⟨E.φ, E.ρ, fun i => if i = id then .slice none 0 0 else E.η i⟩ w v u := fun v u hm hr =>
    hr.mono (E := E) (E' := ⟨E.φ, E.ρ, fun i => if i = id then .slice none 0 0 else E.η i⟩) (fun _ _ _ => rfl) (fun _ => Nat.le_refl _) (fun i hi' => ⟨rfl, by
      have : i ≠ id := fun e => by subst e; rw [hm] at hi'; cases hi'
      simp [this]⟩)
  have hh : HInv c ⟨E.φ, E.ρ, fun i => if i = id then .slice none 0 0 else E.η i⟩ st.bx st.tk w := hi.heap.reEta
    (fun i bb h0 k v u hv hr => mono v u (AV.ments_false (St.fresh_bx hf h0).2 k v hv) hr)
    (fun j t' hj => by simp only [if_neg (St.fresh_tk hf hj)])
    (fun i hid => by
      have : i ≠ id := fun e => by subst e; simp at hin; exact hin hid
      simp only [if_neg this])
    (fun i bb h0 => by simp only [if_neg (St.fresh_bx hf h0).1])
  refine ⟨⟨E.φ, E.ρ, fun i => if i = id then .slice none 0 0 else E.η i⟩, ⟨hi.defers, hi.size, fun s' v hv => mono v _ (St.fresh_fr hf hv) (hi.slot s' v hv), ?_⟩, by simp⟩
  exact hh.addTok (.inl (by simp)) (fun j t' g hj hl hg => by simp [Value.ownBlock]) (fun i b hb hn => by simp [Value.ownBlock]) (fun g hg => by simp [Value.ownBlock] at hg)
/-- nil in a box's cells as an empty row of one's own -/
theorem L.adoptB {X : Act → World → Prop} {bj : Box} {cs : List AV} (j id : Nat) (t : TypeId) (k : Nat) (hj : st.bx.lookup j = some bj) (hjn : bj.cs ≠ []) (hf : st.fresh id = true) (hin : c.ins.contains id = false) (hp : Ads id bj.cs cs)
    (h : L c ⟨st.fr, (j, ⟨bj.ty, .l cs⟩) :: st.bx, (id, ⟨t, k⟩) :: st.tk⟩ X) : L c st X := by
  rintro act w ⟨E, hi⟩
  obtain ⟨E', hi2, he⟩ := adopt_core id t k hf hin hi
  obtain ⟨hl, hg⟩ := hp.get
  exact h act w ⟨E', hi2.defers, hi2.size, hi2.slot, hi2.heap.recs hj hjn hl (fun i v hv => by
    obtain ⟨v0, h0, hq⟩ := hg i v hv
    refine ⟨v0, h0, fun u hu => ?_⟩
    cases hq with
    | same => exact hu
    | here => cases hu; exact .row (by rw [he]) .nil)⟩
end Go.Abs
