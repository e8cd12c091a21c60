/- A logic of abstract states, part 14: the return, with its results as published values. Conditions: each rule's own premises; over any program. -/
import Derived.Test.YtanlhpdjgelehaaDoorA13
namespace Go.Abs
set_option linter.unusedVariables false
/-! what a slot is given, worked out -/
theorem n_some {α : Type} {X : Option α} {l l' : α} (h : X = some l) (hl : l = l') : X = some l' := h.trans (congrArg some hl)
theorem nl_nil {α : Type} {X : List α} (h : X = []) : X = [] := h
theorem nl_cons {α : Type} {X : List α} {x x' : α} {t t' : List α} (h : X = x :: t) (hx : x = x') (ht : t = t') : X = x' :: t' := by rw [h, hx, ht]
theorem nIm {x : AV} {v : Value} (h : x = .iv (.im v)) : x = .iv (.im v) := h
theorem nSl {x : AV} {es : List (List IV)} (h : x = .iv (.sl es)) : x = .iv (.sl es) := h
theorem nIv {x : AV} {y : IV} (h : x = .iv y) : x = .iv y := h
theorem nRow {x : AV} {id : Nat} {es : List (List IV)} (h : x = .row id es) : x = .row id es := h
theorem nNil {x : AV} (h : x = .nils) : x = .nils := h
theorem nPtr {x : AV} {id off : Nat} (h : x = .ptr id off) : x = .ptr id off := h
theorem nAny {x : AV} (h : x = .any) : x = .any := h
theorem nIIm {x : IV} {v : Value} (h : x = .im v) : x = .im v := h
theorem nISl {x : IV} {es : List (List IV)} (h : x = .sl es) : x = .sl es := h

/-! lists by place -/
theorem getS {α : Type} {m : List α} {i : Nat} {b : α} (h : m[i]? = some b) : m[((i : Nat) : Int).toNat]? = some b := by simpa using h
theorem ltT {α : Type} {l : List α} {i : Nat} {v : α} (h : l[i]? = some v) : decide ((i : Int) < (l.length : Int)) = true := by
  have := (List.getElem?_eq_some_iff.1 h).1
  simpa using this
theorem ltF {α : Type} {l : List α} {i : Nat} (h : l[i]? = none) : decide ((i : Int) < (l.length : Int)) = false := by
  have := List.getElem?_eq_none_iff.1 h
  simpa using this
theorem getF {α β : Type} {f : α → β} {l : List α} {i : Nat} {v : α} (h : l[i]? = some v) : (l.map f)[i]? = some (f v) := by simp [h]
theorem getFN {α β : Type} {f : α → β} {l : List α} {i : Nat} (h : l[i]? = none) : (l.map f)[i]? = none := by simpa using h
theorem len_nil {k : Nat} : ∀ e ∈ ([] : List (List IV)), e.length = k := fun e h => by cases h
theorem len_app {k : Nat} {a b : List (List IV)} (h1 : ∀ e ∈ a, e.length = k) (h2 : ∀ e ∈ b, e.length = k) : ∀ e ∈ a ++ b, e.length = k := fun e h => (List.mem_append.1 h).elim (h1 e) (h2 e)
theorem len_map {α : Type} {k : Nat} {f : α → List IV} {l : List α} (h : ∀ x, (f x).length = k) : ∀ e ∈ l.map f, e.length = k := fun e he => by
  obtain ⟨x, _, rfl⟩ := List.mem_map.1 he; exact h x
theorem len_cons {k : Nat} {a : List IV} {l : List (List IV)} (h : a.length = k) (t : ∀ e ∈ l, e.length = k) : ∀ e ∈ a :: l, e.length = k := fun e he => by
  rcases List.mem_cons.1 he with rfl | he
  · exact h
  · exact t e he
theorem len_chunks {k : Nat} : ∀ {n : Nat} {xs : List IV}, xs.length = n * k → ∀ e ∈ chunks k n xs, e.length = k
  | 0, _, _, e, he => by cases he
  | n + 1, xs, h, e, he => by
    rw [Nat.add_mul, Nat.one_mul] at h
    simp only [chunks, List.mem_cons] at he
    rcases he with rfl | he
    · simp; omega
    · exact len_chunks (n := n) (xs := xs.drop k) (by simp; omega) e he
theorem ltN {α : Type} {l : List α} {i : Nat} {v : α} (h : l[i]? = some v) : i < l.length := (List.getElem?_eq_some_iff.1 h).1
theorem dropC {α : Type} {l : List α} {i : Nat} {v : α} (h : l[i]? = some v) : l.drop i = v :: l.drop (i + 1) := by
  obtain ⟨hl, hv⟩ := List.getElem?_eq_some_iff.1 h
  rw [List.drop_eq_getElem_cons hl, hv]
theorem dropN {α : Type} {l : List α} {i : Nat} (h : l[i]? = none) : l.drop i = [] := List.drop_eq_nil_of_le (List.getElem?_eq_none_iff.1 h)
theorem takeC {α : Type} {l : List α} {i : Nat} {v : α} (h : l[i]? = some v) : l.take (i + 1) = l.take i ++ [v] := by
  rw [List.take_add_one, h]; rfl
theorem takeN {α : Type} {l : List α} {i : Nat} (h : l[i]? = none) : l.take i = l := List.take_of_length_le (List.getElem?_eq_none_iff.1 h)

section
variable {P : Program} {c : Ctx} {st : St}
/-- the slots l alone, each as it is now -/
def St.only (l : List Nat) (st : St) : St := ⟨l.filterMap fun s => (st.fr.lookup s).map fun v => (s, v), st.bx, st.tk⟩
theorem only_get (fr : List (Nat × AV)) : ∀ (l : List Nat) (s : Nat) (v : AV), (l.filterMap fun s => (fr.lookup s).map fun v => (s, v)).lookup s = some v → fr.lookup s = some v
  | [], s, v, h => by simp at h
  | a :: l, s, v, h => by
    cases hq : fr.lookup a with
    | none => simp only [List.filterMap_cons, hq, Option.map_none] at h; exact only_get fr l s v h
    | some u =>
      simp only [List.filterMap_cons, hq, Option.map_some] at h
      by_cases e : s = a
      · subst e; rw [lookup_cons_eq] at h; cases h; exact hq
      · rw [lookup_cons_ne e] at h; exact only_get fr l s v h
theorem L.only (l : List Nat) {X : Act → World → Prop} (h : L c (st.only l) X) : L c st X := fun a w hr => by
  obtain ⟨E, hi⟩ := hr
  exact h a w ⟨E, hi.defers, hi.size, fun s v hv => hi.slot s v (only_get st.fr l s v hv), hi.heap⟩
/-- a loop whose state i comes with a fact -/
theorem L.loopP {ι : Type} {Q : Exit → Act → World → Prop} (inv : ι → St) (n : ι → Nat) (I : ι → Prop) {i0 : ι} (h0 : Wk c st (inv i0)) (p0 : I i0) {x : Code}
    (h : ∀ i, I i → ∀ K : Act → World → Prop, (∀ st' i', I i' → n i' < n i → Wk c st' (inv i') → L c st' K) → L c (inv i) (x.wp P (Exit.then K Q))) : L c st ((Code.loop x).wp P Q) :=
  L.loop (ι := {i : ι // I i}) (fun i => inv i.1) (fun i => n i.1) (i0 := ⟨i0, p0⟩) h0 fun i K hK => h i.1 i.2 K fun st' i' hi' hn hw => hK st' ⟨i', hi'⟩ hn hw
theorem pubs_length : ∀ l : List AV, (AV.pub.pubs l).length = l.length
  | [] => rfl
  | _ :: l => by simp [AV.pub.pubs, pubs_length l]
theorem Sub.resOf {vs : List AV} : Sub (Go.Abs.resOf vs) (Go.Abs.resOf (AV.pub.pubs vs)) := by
  match vs with
  | [] => exact Sub.refl _
  | [v] => exact Sub.pub v
  | v :: w :: r => exact Sub.tup (Subs.pubs (v :: w :: r))
theorem L.endsP {fn : Func} {bx' : List (Nat × Box)} {res : AV} {rs : List ResultVar} {vs : List AV} (hfn : fn.results = rs.toArray) (hv : (st.ress P rs).map AV.pub.pubs = some vs) (hi : c.ins = []) (he : resOf vs = res) :
    L c st (bodyPost P fn (Post c [] [] res) .ret) := by
  cases h : st.ress P rs with
  | none => rw [h] at hv; cases hv
  | some us => rw [h] at hv; cases hv; exact L.ends hfn h (he ▸ Sub.resOf) (Wk.none hi)
theorem L.endsPN {fn : Func} {bx' : List (Nat × Box)} {res : AV} {rs : List ResultVar} {vs : List AV} (hfn : fn.results = rs.toArray) (hv : (st.ress P rs).map AV.pub.pubs = some vs) (hi : c.ins = []) (he : resOf vs = res) :
    L c st (bodyPost P fn (Post c [] [] res) .normal) := by
  cases h : st.ress P rs with
  | none => rw [h] at hv; cases hv
  | some us => rw [h] at hv; cases hv; exact L.endsN hfn h (he ▸ Sub.resOf) (Wk.none hi)
section
variable {fn : Func} {res : AV} {rs : List ResultVar} {y z u : IV} {cs : List AV}
theorem L.ends1 (hfn : fn.results = rs.toArray) (hv : (st.ress P rs).map AV.pub.pubs = some [.iv y]) (hi : c.ins = []) (he : AV.iv y = res) : L c st (bodyPost P fn (Post c [] [] res) .ret) := L.endsP (bx' := []) hfn hv hi he
theorem L.ends1A (hfn : fn.results = rs.toArray) (hv : (st.ress P rs).map AV.pub.pubs = some [.agg cs]) (hi : c.ins = []) (he : AV.agg cs = res) : L c st (bodyPost P fn (Post c [] [] res) .ret) := L.endsP (bx' := []) hfn hv hi he
theorem L.ends2 (hfn : fn.results = rs.toArray) (hv : (st.ress P rs).map AV.pub.pubs = some [.iv y, .iv z]) (hi : c.ins = []) (he : AV.tup [.iv y, .iv z] = res) : L c st (bodyPost P fn (Post c [] [] res) .ret) := L.endsP (bx' := []) hfn hv hi he
theorem L.ends2A (hfn : fn.results = rs.toArray) (hv : (st.ress P rs).map AV.pub.pubs = some [.agg cs, .iv z]) (hi : c.ins = []) (he : AV.tup [.agg cs, .iv z] = res) : L c st (bodyPost P fn (Post c [] [] res) .ret) := L.endsP (bx' := []) hfn hv hi he
theorem L.ends3 (hfn : fn.results = rs.toArray) (hv : (st.ress P rs).map AV.pub.pubs = some [.iv y, .iv z, .iv u]) (hi : c.ins = []) (he : AV.tup [.iv y, .iv z, .iv u] = res) : L c st (bodyPost P fn (Post c [] [] res) .ret) := L.endsP (bx' := []) hfn hv hi he
end
end
end Go.Abs
