/- A logic of abstract states, part 1: what values stand for (published contents, addresses of own blocks, rows that grow). Conditions: none; definitions and lemmas over any world. -/
import Derived.WalkKit
import Derived.Orders
import Derived.Below
namespace Go.Abs
open Go.RowKit (Below)
set_option linter.unusedVariables false

/-- published contents: one cell -/
inductive IV where
  | im (v : Value)
  | sl (es : List (List IV))

inductive RepI (φ : Nat → Nat) (w : World) : IV → Value → Prop
  | im {v : Value} (h : v.oneCell' = true) : RepI φ w (.im v) v
  | emp {a : Option Addr} {cap : Nat} (hn : a = none → cap = 0) (hm : cap ≤ maxLen) : RepI φ w (.sl []) (.slice a 0 cap)
  | sl {es : List (List IV)} {b o cap k : Nat} (f : Nat → Nat → Value) (hc : es.length ≤ cap) (hm : cap ≤ maxLen)
      (hk : ∀ (i : Nat) (e : List IV), es[i]? = some e → e.length = k)
      (hφ : ∀ (i : Nat) (e : List IV) (j : Nat) (x : IV), es[i]? = some e → e[j]? = some x → o + i * k + j < φ b)
      (hcell : ∀ (i : Nat) (e : List IV) (j : Nat) (x : IV), es[i]? = some e → e[j]? = some x → w.cell? ⟨b, o + i * k + j, none⟩ = some (f i j))
      (hrep : ∀ (i : Nat) (e : List IV) (j : Nat) (x : IV), es[i]? = some e → e[j]? = some x → RepI φ w x (f i j)) :
      RepI φ w (.sl es) (.slice (some ⟨b, o, none⟩) es.length cap)

theorem RepI.nil {φ : Nat → Nat} {w : World} : RepI φ w (.sl []) (.slice none 0 0) := .emp (fun _ => rfl) (Nat.zero_le _)
theorem RepI.oneCell {φ : Nat → Nat} {w : World} {x : IV} {v : Value} (h : RepI φ w x v) : v.oneCell' = true := by
  cases h <;> first | assumption | rfl

theorem RepI.im_eq {φ : Nat → Nat} {w : World} {v u : Value} (h : RepI φ w (.im v) u) : u = v := by
  cases h; rfl

/-- what is published stays as it is -/
def Keeps (φ : Nat → Nat) (w w' : World) : Prop := ∀ b o, o < φ b → w'.cell? ⟨b, o, none⟩ = w.cell? ⟨b, o, none⟩

theorem RepI.mono {φ φ' : Nat → Nat} {w w' : World} (hk : Keeps φ w w') (hφ : ∀ b, φ b ≤ φ' b) {x : IV} {v : Value} (h : RepI φ w x v) : RepI φ' w' x v := by
  induction h with
  | im h => exact .im h
  | emp hn hm => exact .emp hn hm
  | sl f hc hm hkk hph hcell _ ih =>
    exact .sl f hc hm hkk (fun i e j x h1 h2 => Nat.lt_of_lt_of_le (hph i e j x h1 h2) (hφ _))
      (fun i e j x h1 h2 => (hk _ _ (hph i e j x h1 h2)).trans (hcell i e j x h1 h2)) ih

/-- what a slot, or a cell of an own block, holds -/
inductive AV where
  | any
  | iv (x : IV)
  | nils
  | row (id : Nat) (es : List (List IV))
  | ptr (id off : Nat)
  | el (cs : List IV)
  | agg (cs : List AV)
  | tup (vs : List AV)
  | fn (f : FuncId) (caps : List AV)
  | opt (c : Bool) (v : AV)

structure Env where
  φ : Nat → Nat
  ρ : Nat → Nat
  η : Nat → Value

inductive RepA (E : Env) (w : World) : AV → Value → Prop
  | any {u : Value} : RepA E w .any u
  | iv {x : IV} {u : Value} (h : RepI E.φ w x u) : RepA E w (.iv x) u
  | nils : RepA E w .nils (.slice none 0 0)
  | row {id : Nat} {es : List (List IV)} {u : Value} (hu : u = E.η id) (h : RepI E.φ w (.sl es) u) : RepA E w (.row id es) u
  | ptr {id off : Nat} {u : Value} (hu : u = .pointer (some ⟨E.ρ id, off, none⟩)) : RepA E w (.ptr id off) u
  | el {cs : List IV} {b o : Nat} (f : Nat → Value) (hc : ∀ (j : Nat) (x : IV), cs[j]? = some x → o + j < E.φ b ∧ w.cell? ⟨b, o + j, none⟩ = some (f j))
      (hr : ∀ (j : Nat) (x : IV), cs[j]? = some x → RepI E.φ w x (f j)) : RepA E w (.el cs) (.pointer (some ⟨b, o, none⟩))
  | agg {cs : List AV} {us : List Value} (hl : us.length = cs.length) (h1 : ∀ u ∈ us, u.oneCell' = true)
      (h : ∀ (i : Nat) (c : AV) (u : Value), cs[i]? = some c → us[i]? = some u → RepA E w c u) : RepA E w (.agg cs) (.agg us.toArray)
  | tup {cs : List AV} {us : List Value} (hl : us.length = cs.length)
      (h : ∀ (i : Nat) (c : AV) (u : Value), cs[i]? = some c → us[i]? = some u → RepA E w c u) : RepA E w (.tup cs) (.tuple us.toArray)
  | fn {f : FuncId} {caps : List AV} {us : List Value} (hl : us.length = caps.length)
      (h : ∀ (i : Nat) (c : AV) (u : Value), caps[i]? = some c → us[i]? = some u → RepA E w c u) : RepA E w (.fn f caps) (.func (.func f) #[] us.toArray)
  | optT {v : AV} {u : Value} (h : RepA E w v u) : RepA E w (.opt true v) u
  | optF {v : AV} : RepA E w (.opt false v) undef

mutual
/-- does it speak of object id? -/
def AV.ment (id : Nat) : AV → Bool
  | .any | .iv _ | .nils | .el _ => false
  | .row i _ => i == id
  | .ptr i _ => i == id
  | .agg cs => AV.ments id cs
  | .tup cs => AV.ments id cs
  | .fn _ cs => AV.ments id cs
  | .opt _ v => AV.ment id v
def AV.ments (id : Nat) : List AV → Bool
  | [] => false
  | c :: cs => AV.ment id c || AV.ments id cs
end

theorem AV.ments_false {id : Nat} : ∀ {cs : List AV}, AV.ments id cs = false → ∀ (i : Nat) (c : AV), cs[i]? = some c → AV.ment id c = false
  | [], _, i, c, h => by simp at h
  | d :: cs, hm, 0, c, h => by
    simp only [AV.ments, Bool.or_eq_false_iff] at hm
    simp at h; subst h; exact hm.1
  | d :: cs, hm, i + 1, c, h => by
    simp only [AV.ments, Bool.or_eq_false_iff] at hm
    exact AV.ments_false hm.2 i c (by simpa using h)

/-- the step from (E, w) to (E', w') keeps what v stands for, if E' differs only at objects of which v does not speak -/
theorem RepA.mono {E E' : Env} {w w' : World} (hk : Keeps E.φ w w') (hφ : ∀ b, E.φ b ≤ E'.φ b) {v : AV} {u : Value} (h : RepA E w v u) :
    (∀ id, AV.ment id v = true → E'.ρ id = E.ρ id ∧ E'.η id = E.η id) → RepA E' w' v u := by
  induction h with
  | any => exact fun _ => .any
  | iv h => exact fun _ => .iv (h.mono hk hφ)
  | nils => exact fun _ => .nils
  | row hu h => exact fun hm => .row (by rw [hu]; exact (hm _ (by simp [AV.ment])).2.symm) (h.mono hk hφ)
  | ptr hu => exact fun hm => .ptr (by rw [hu, (hm _ (by simp [AV.ment])).1])
  | el f hc hr => exact fun _ => .el f (fun j x hx => ⟨Nat.lt_of_lt_of_le (hc j x hx).1 (hφ _), (hk _ _ (hc j x hx).1).trans (hc j x hx).2⟩) (fun j x hx => (hr j x hx).mono hk hφ)
  | agg hl h1 _ ih =>
    refine fun hm => .agg hl h1 (fun i c u hc hu => ih i c u hc hu (fun id hid => hm id ?_))
    cases hq : AV.ment id (.agg _) with
    | true => rfl
    | false => simp only [AV.ment] at hq; rw [AV.ments_false hq i c hc] at hid; cases hid
  | tup hl _ ih =>
    refine fun hm => .tup hl (fun i c u hc hu => ih i c u hc hu (fun id hid => hm id ?_))
    cases hq : AV.ment id (.tup _) with
    | true => rfl
    | false => simp only [AV.ment] at hq; rw [AV.ments_false hq i c hc] at hid; cases hid
  | fn hl _ ih =>
    refine fun hm => .fn hl (fun i c u hc hu => ih i c u hc hu (fun id hid => hm id ?_))
    cases hq : AV.ment id (.fn _ _) with
    | true => rfl
    | false => simp only [AV.ment] at hq; rw [AV.ments_false hq i c hc] at hid; cases hid
  | optT h ih => exact fun hm => .optT (ih (fun id hid => hm id (by simpa [AV.ment] using hid)))
  | optF => exact fun _ => .optF

/-- in an unchanged environment -/
theorem RepA.keep {E : Env} {w w' : World} (hk : Keeps E.φ w w') {v : AV} {u : Value} (h : RepA E w v u) : RepA E w' v u :=
  h.mono hk (fun _ => Nat.le_refl _) (fun _ _ => ⟨rfl, rfl⟩)

/-! what can be read off -/
theorem RepA.iv_im {E : Env} {w : World} {v u : Value} (h : RepA E w (.iv (.im v)) u) : u = v := by
  cases h with | iv h => exact h.im_eq
theorem RepA.iv_inv {E : Env} {w : World} {x : IV} {u : Value} (h : RepA E w (.iv x) u) : RepI E.φ w x u := by
  cases h with | iv h => exact h
theorem RepA.ptr_inv {E : Env} {w : World} {id off : Nat} {u : Value} (h : RepA E w (.ptr id off) u) : u = .pointer (some ⟨E.ρ id, off, none⟩) := by
  cases h with | ptr h => exact h

/-- one cell's values -/
def AV.one : AV → Bool
  | .agg _ | .tup _ | .any | .opt _ _ => false
  | _ => true
theorem RepA.oneCell {E : Env} {w : World} {v : AV} {u : Value} (h : RepA E w v u) (h1 : v.one = true) : u.oneCell' = true := by
  cases h with
  | iv h => exact h.oneCell
  | nils => rfl
  | row hu h => exact h.oneCell
  | ptr hu => subst hu; rfl
  | el => rfl
  | fn => rfl
  | _ => simp [AV.one] at h1

/-- the cells that a value lays -/
def AV.cells : AV → List AV
  | .agg cs => cs
  | v => [v]

theorem RepA.cells {E : Env} {w : World} {v : AV} {u : Value} (h : RepA E w v u) (h1 : v.one = true ∨ ∃ cs, v = .agg cs) :
    u.cells.toList.length = v.cells.length ∧ (∀ x ∈ u.cells.toList, x.oneCell' = true) ∧
      ∀ (i : Nat) (c : AV) (x : Value), v.cells[i]? = some c → u.cells.toList[i]? = some x → RepA E w c x := by
  rcases h1 with h1 | ⟨cs, rfl⟩
  · have ho := h.oneCell h1
    have e1 : u.cells = #[u] := by cases u <;> first | rfl | simp [Value.oneCell'] at ho
    have e2 : v.cells = [v] := by cases v <;> first | rfl | simp [AV.one] at h1
    rw [e1, e2]
    refine ⟨by simp, by simpa using ho, fun i c x hc hx => ?_⟩
    cases i with
    | zero => simp at hc hx; subst hc; subst hx; exact h
    | succ i => simp at hc
  · cases h with
    | agg hl h1 h => exact ⟨by simpa [AV.cells, Value.cells] using hl, by simpa [Value.cells] using h1, fun i c x hc hx => h i c x hc (by simpa [Value.cells] using hx)⟩

end Go.Abs
