/- A logic of abstract states, part 21: a box of one's own is published. Conditions: each rule's own premises; over any program. -/
import Derived.Test.YtanlhpdjgelehaaB9
namespace Go.Abs
open Go.RowKit (Below)
set_option linter.unusedVariables false

/-- at places of v the row K is said as published contents x -/
inductive Pub (K n k : Nat) (x : IV) : AV → AV → Prop
  | same {v : AV} : Pub K n k x v v
  | here : Pub K n k x (.bsh K 0 n k) (.iv x)
inductive Pubs (K n k : Nat) (x : IV) : List AV → List AV → Prop
  | nil : Pubs K n k x [] []
  | cons {v v' : AV} {l l' : List AV} (h : Pub K n k x v v') (t : Pubs K n k x l l') : Pubs K n k x (v :: l) (v' :: l')
theorem Pubs.get {K n k : Nat} {x : IV} {l l' : List AV} (h : Pubs K n k x l l') : l'.length = l.length ∧ ∀ (i : Nat) (v : AV), l'[i]? = some v → ∃ v0, l[i]? = some v0 ∧ Pub K n k x v0 v := by
  induction h with
  | nil => exact ⟨rfl, fun i v h => by simp at h⟩
  | cons h _ ih =>
    refine ⟨by simp [ih.1], fun i v hv => ?_⟩
    cases i with
    | zero => simp at hv; subst hv; exact ⟨_, rfl, h⟩
    | succ i => exact ih.2 i v (by simpa using hv)

theorem lookup_map {β : Type} (f : β → β) : ∀ (l : List (Nat × β)) (s : Nat), (l.map (fun p => (p.1, f p.2))).lookup s = (l.lookup s).map f
  | [], s => rfl
  | (t, v) :: l, s => by
    by_cases e : s = t
    · subst e; simp [List.lookup]
    · have e' : (s == t) = false := by simpa using e
      simpa [List.lookup, e'] using lookup_map f l s

theorem publish_core (K : Nat) {c : Ctx} {st : St} {n k : Nat} {b : Box} {xs : List IV} (hin : c.ins = []) (hb : st.bx.lookup K = some b) (hx : toIs b.cs = some xs) (hl : b.cs.length = n * k) (hk0 : 0 < k) (hpos : 0 < n) {E : Env} {a : Act} {w : World} (hi : Inv c E st a w) :
    ∃ E2 : Env, Inv c E2 ⟨st.fr, (K, ⟨b.ty, .l []⟩) :: st.bx, st.tk⟩ a w ∧ (∀ (v : AV) (u : Value), RepA E w v u → RepA E2 w v u) ∧ (∀ u, RepA E w (.bsh K 0 n k) u → RepA E2 w (.iv (.sl (chunks k n xs))) u) ∧ E2.ρ = E.ρ := by
  have hnk : 0 < n * k := Nat.mul_pos hpos hk0
  have hbn : b.cs ≠ [] := fun e => by rw [e] at hl; simp at hl; omega
  obtain ⟨h0, arr, ha, hla, h1, hr, hη⟩ := hi.heap.box K b hb hbn
  obtain ⟨hxl, hxg⟩ := toIs_get hx
  have hlt : E.ρ K < w.heap.size := (Array.getElem?_eq_some_iff.1 ha).1
  have hown : c.w0.heap.size ≤ E.ρ K := by
    rcases hi.heap.own K b hb hbn with h | ⟨id, hid, _⟩
    · exact h
    · rw [hin] at hid; cases hid
  have hφ : ∀ g, E.φ g ≤ (if g = E.ρ K then n * k else E.φ g) := fun g => by
    split
    · rename_i e; rw [e, h0]; exact Nat.zero_le _
    · exact Nat.le_refl _
  have hp : ∀ u, RepA E w (.bsh K 0 n k) u → RepI (fun g => if g = E.ρ K then n * k else E.φ g) w (.sl (chunks k n xs)) u := fun u hu => by
    obtain ⟨cap, o, rfl, hn, hm, _, hoo⟩ := hu.bsh_inv
    rw [hoo (by omega)]
    have hidx : ∀ (i : Nat) (e : List IV) (j : Nat) (x : IV), (chunks k n xs)[i]? = some e → e[j]? = some x → i * k + j < n * k ∧ xs[i * k + j]? = some x := fun i e j x h2 h3 => by
      rw [chunks_get k n xs i e h2, List.getElem?_take] at h3
      split at h3
      · rw [List.getElem?_drop] at h3
        have := (List.getElem?_eq_some_iff.1 h3).1
        exact ⟨by omega, h3⟩
      · cases h3
    have hres := RepI.sl (φ := fun g => if g = E.ρ K then n * k else E.φ g) (w := w) (es := chunks k n xs) (b := E.ρ K) (o := 0) (cap := cap) (k := k) (fun i j => arr.getD (i * k + j) undef) (by rw [chunks_length]; omega) hm
      (fun i e he => by
        have hlt' := (List.getElem?_eq_some_iff.1 he).1
        rw [chunks_length] at hlt'
        rw [chunks_get k n xs i e he, List.length_take, List.length_drop, hxl, hl]
        have : (i + 1) * k ≤ n * k := Nat.mul_le_mul_right k hlt'
        rw [Nat.add_mul, Nat.one_mul] at this
        omega)
      (fun i e j x h2 h3 => by simp only [if_true]; have := (hidx i e j x h2 h3).1; omega)
      (fun i e j x h2 h3 => by
        have := (hidx i e j x h2 h3).1
        rw [cell_of_row w _ _ _ _ _ ha, Nat.zero_add]
        have hlt' : i * k + j < arr.length := by omega
        simp [hlt'])
      (fun i e j x h2 h3 => by
        obtain ⟨h4, h5⟩ := hidx i e j x h2 h3
        have hlt' : i * k + j < arr.length := by omega
        have hcs : i * k + j < b.cs.length := by omega
        have hu : arr[i * k + j]? = some (arr.getD (i * k + j) undef) := by simp [List.getElem?_eq_getElem hlt']
        exact ((hr _ _ _ (List.getElem?_eq_getElem hcs) hu).toI (hxg _ _ x (List.getElem?_eq_getElem hcs) h5)).mono (fun _ _ _ => rfl) hφ)
    rw [chunks_length] at hres
    simpa using hres
  have hmap : ∀ (i : Nat) (b1 : Box), List.lookup i ((K, (⟨b.ty, .l []⟩ : Box)) :: st.bx) = some b1 → b1.cs ≠ [] → i ≠ K ∧ st.bx.lookup i = some b1 := fun i b1 h hn => by
    by_cases e : i = K
    · subst e; rw [lookup_cons_eq] at h; cases h; exact (hn rfl).elim
    · rw [lookup_cons_ne e] at h; exact ⟨e, h⟩
  have pub : ∀ {v : AV} {u : Value}, RepA E w v u → RepA ⟨fun g => if g = E.ρ K then n * k else E.φ g, E.ρ, E.η⟩ w v u := fun hv => hv.mono (E' := ⟨fun g => if g = E.ρ K then n * k else E.φ g, E.ρ, E.η⟩) (fun _ _ _ => rfl) hφ (fun _ _ => ⟨rfl, rfl⟩)
  refine ⟨⟨fun g => if g = E.ρ K then n * k else E.φ g, E.ρ, E.η⟩, ⟨hi.defers, hi.size, fun s v hv => pub (hi.slot s v hv), ⟨fun i b1 hi1 hn => ?_, fun i t ht => ?_, fun i j b1 b2 h2 h3 hn hn' he => ?_, hi.heap.tt, fun i j b1 t h2 hn hj => ?_, fun i b1 h2 hn => ?_, hi.heap.ownt, fun g hg => ?_, fun g hg => ?_, fun i hi1 => ?_, hi.heap.kept⟩⟩, fun v u hv => pub hv, fun u hu => .iv (hp u hu), rfl⟩
  · obtain ⟨hne, h2⟩ := hmap i b1 hi1 hn
    obtain ⟨g0, arr', ha', hl', h1', hr', hη'⟩ := hi.heap.box i b1 h2 hn
    refine ⟨?_, arr', ha', hl', h1', fun p x u hx hu => pub (hr' p x u hx hu), hη'⟩
    have : E.ρ i ≠ E.ρ K := fun e => hne (hi.heap.bb i K b1 b h2 hb hn hbn e)
    simp only [if_neg this]; exact g0
  · rcases hi.heap.tok i t ht with hn | ⟨g, n', cap, cur, hv, hg, r1, r2, r3, r4⟩
    · exact .inl hn
    · have : g ≠ E.ρ K := fun e => hi.heap.bt K i b t hb hbn ht (by rw [hv, e]; rfl)
      exact .inr ⟨g, n', cap, cur, hv, hg, r1, r2, r3, by simp only [if_neg this]; exact r4⟩
  · exact hi.heap.bb i j b1 b2 (hmap i b1 h2 hn).2 (hmap j b2 h3 hn').2 hn hn' he
  · exact hi.heap.bt i j b1 t (hmap i b1 h2 hn).2 hn hj
  · exact hi.heap.own i b1 (hmap i b1 h2 hn).2 hn
  · simp only; rw [if_neg (by omega)]; exact hi.heap.new g hg
  · simp only; rw [if_neg (by omega)]; exact hi.heap.old g hg
  · rw [hin] at hi1; cases hi1
/-- a row is published; a slot that holds it says so -/
theorem L.publishS (K s : Nat) {c : Ctx} {st : St} {X : Act → World → Prop} {n k : Nat} {b : Box} {xs : List IV} {v v' : AV} (hin : c.ins = []) (hb : st.bx.lookup K = some b) (hx : toIs b.cs = some xs) (hl : b.cs.length = n * k) (hk0 : 0 < k) (hpos : 0 < n)
    (hs : st.fr.lookup s = some v) (hp : Pub K n k (.sl (chunks k n xs)) v v') (h : L c ⟨(s, v') :: st.fr, (K, ⟨b.ty, .l []⟩) :: st.bx, st.tk⟩ X) : L c st X := by
  rintro a w ⟨E, hi⟩
  obtain ⟨E2, hi2, hm, hpub, _⟩ := publish_core K hin hb hx hl hk0 hpos hi
  refine h a w ⟨E2, hi2.defers, hi2.size, fun s' u hu => ?_, hi2.heap⟩
  by_cases e : s' = s
  · subst e
    simp only [lookup_cons_eq, Option.some.injEq] at hu
    subst hu
    have := hi.slot s' v hs
    cases hp with
    | same => exact hm _ _ this
    | here => exact hpub _ this
  · simp only [lookup_cons_ne e] at hu; exact hi2.slot s' u hu
/-- a row is published; a box that holds it says so -/
theorem L.publishB (K j : Nat) {c : Ctx} {st : St} {X : Act → World → Prop} {n k : Nat} {b bj : Box} {xs : List IV} {cs : List AV} (hin : c.ins = []) (hb : st.bx.lookup K = some b) (hx : toIs b.cs = some xs) (hl : b.cs.length = n * k) (hk0 : 0 < k) (hpos : 0 < n)
    (hj : st.bx.lookup j = some bj) (hjn : bj.cs ≠ []) (hjk : (j == K) = false) (hp : Pubs K n k (.sl (chunks k n xs)) bj.cs cs) (h : L c ⟨st.fr, (j, ⟨bj.ty, .l cs⟩) :: (K, ⟨b.ty, .l []⟩) :: st.bx, st.tk⟩ X) : L c st X := by
  rintro a w ⟨E, hi⟩
  obtain ⟨E2, hi2, hm, hpub, hρ⟩ := publish_core K hin hb hx hl hk0 hpos hi
  have hne : j ≠ K := by simpa using hjk
  have hj2 : List.lookup j ((K, (⟨b.ty, .l []⟩ : Box)) :: st.bx) = some bj := by rw [lookup_cons_ne hne]; exact hj
  refine h a w ⟨E2, hi2.defers, hi2.size, hi2.slot, HInv.reBox hi2.heap hj2 hjn (fun hn => ?_)⟩
  obtain ⟨_, arr0, ha0, hl0, _, hr0, _⟩ := hi.heap.box j bj hj hjn
  obtain ⟨g0, arr, ha, hla, h1, hr, hη⟩ := hi2.heap.box j bj hj2 hjn
  have harr : arr = arr0 := by
    rw [hρ] at ha; rw [ha] at ha0
    simp only [Option.some.injEq, Obj.cells.injEq] at ha0
    exact congrArg Array.toList ha0.1
  subst harr
  obtain ⟨e1, e2⟩ := hp.get
  refine ⟨g0, arr, ha, by simpa [e1] using hla, h1, fun i x u hx hu => ?_, hη⟩
  simp only [Box.cs_l] at hx
  obtain ⟨v0, hv0, hp0⟩ := e2 i x hx
  cases hp0 with
  | same => exact hr i x u hv0 hu
  | here =>
    exact hpub u (hr0 i _ u hv0 hu)
end Go.Abs
