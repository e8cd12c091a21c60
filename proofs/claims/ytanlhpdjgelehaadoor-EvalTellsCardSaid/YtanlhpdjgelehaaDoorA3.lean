/- A logic of abstract states, part 3: operations that hand back a value and leave the world alone. Conditions: each rule's own premises; over any program. -/
import Derived.Test.YtanlhpdjgelehaaDoorA2
namespace Go.Abs
open Go.RowKit (Below)
set_option linter.unusedVariables false

/-- a string by its bytes; an int; a bool; a byte -/
abbrev vS (l : List UInt8) : Value := .string ⟨l.toArray⟩
abbrev S (l : List UInt8) : IV := .im (.string ⟨l.toArray⟩)
abbrev I (n : Int) : IV := .im (.int .i64 n)
abbrev B (b : Bool) : IV := .im (.bool b)
abbrev aS (l : List UInt8) : AV := .iv (.im (.string ⟨l.toArray⟩))
abbrev aI (n : Int) : AV := .iv (.im (.int .i64 n))
abbrev aB (b : Bool) : AV := .iv (.im (.bool b))

def constCell : Value → AV
  | .slice none 0 0 => .nils
  | v => .iv (.im v)
def constAV : Value → AV
  | .slice none 0 0 => .nils
  | .agg cs => if cs.toList.all (·.oneCell') then .agg (cs.toList.map constCell) else .any
  | .tuple _ => .any
  | v => .iv (.im v)

theorem constCell_rep (E : Env) (w : World) (v : Value) (h : v.oneCell' = true) : RepA E w (constCell v) v := by
  unfold constCell; split
  · exact .nils
  · exact .iv (.im h)
theorem constAV_rep (E : Env) (w : World) (v : Value) : RepA E w (constAV v) v := by
  unfold constAV; split
  · exact .nils
  · rename_i cs
    split
    · rename_i hall
      have : (Value.agg cs) = .agg cs.toList.toArray := by simp
      rw [this]
      refine .agg (by simp) (fun u hu => by simpa using List.all_eq_true.1 hall u hu) (fun i c u hc hu => ?_)
      simp only [List.getElem?_map] at hc
      rw [hu] at hc
      simp at hc; subst hc
      exact constCell_rep E w u (List.all_eq_true.1 hall u (List.mem_of_getElem? hu))
    · exact .any
  · exact .any
  · rename_i h1 h2 h3
    exact .iv (.im (by cases v <;> first | rfl | (exact (h2 _ rfl).elim) | (exact (h3 _ rfl).elim)))

def AV.strip : AV → AV
  | .opt true v => v.strip
  | v => v
theorem RepA.strip {E : Env} {w : World} : ∀ {v : AV} {u : Value}, RepA E w v u → RepA E w v.strip u
  | .opt true v, u, h => by cases h with | optT h => exact RepA.strip (v := v) h
  | .opt false v, u, h => h
  | .any, u, h => h
  | .iv _, u, h => h
  | .nils, u, h => h
  | .row _ _, u, h => h
  | .ptr _ _, u, h => h
  | .el _, u, h => h
  | .agg _, u, h => h
  | .tup _, u, h => h
  | .fn _ _, u, h => h

def St.ev (st : St) : Operand → AV
  | .tmp t => match st.fr.lookup t with
    | some v => v.strip
    | none => .any
  | .const v => constAV v
  | .func f => .fn f []
  | .global _ => .any

theorem Inv.ev {c : Ctx} {E : Env} {st : St} {a : Act} {w : World} (h : Inv c E st a w) (x : Operand) : RepA E w (st.ev x) (a.eval x) := by
  cases x with
  | tmp t =>
    simp only [St.ev, Act.eval]
    split
    · rename_i v hv; exact (h.slot t v hv).strip
    · exact .any
  | const v => exact constAV_rep E w v
  | global g => exact .any
  | func f => exact .fn (us := []) rfl (fun i c u hc hu => by simp at hc)

theorem Inv.put {c : Ctx} {E : Env} {st : St} {a : Act} {w : World} (h : Inv c E st a w) {d : Nat} (hd : d < c.nt) {v : AV} {u : Value} (hr : RepA E w v u) :
    Inv c E ⟨(d, v) :: st.fr, st.bx, st.tk⟩ (a.put (some d) u) w := by
  refine ⟨h.defers, by simpa [Act.put] using h.size, fun s v' hv => ?_, h.heap⟩
  by_cases e : s = d
  · subst e
    simp [List.lookup] at hv; subst hv
    have : s < a.tmps.size := by rw [h.size]; exact hd
    simpa [Act.put, this] using hr
  · have e' : (s == d) = false := by simpa using e
    have := h.slot s v' (by simpa [List.lookup, e'] using hv)
    have hne : d ≠ s := fun x => e x.symm
    simpa [Act.put, Array.getElem?_setIfInBounds_ne hne] using this

section
variable {P : Program} {c : Ctx} {st : St} {ops : Array Oper} {Q : Exit → Act → World → Prop} {rest : List Oper} {o : Oper}

/-- o hands back what v stands for, and the world is as it was -/
def Yields (P : Program) (c : Ctx) (st : St) (o : Oper) (v : AV) : Prop :=
  ∀ (E : Env) (a : Act) (w : World), Inv c E st a w → ∃ u, (execOp a.eval o).run P w = .ok (.value u) w ∧ RepA E w v u


theorem Oper.wp_value {a : Act} {w w' : World} {K : Act → World → Prop} {u : Value} (hr : (execOp a.eval o).run P w = .ok (.value u) w') (h : K (a.put o.dst u) w') : o.wp P a w K Q := by
  unfold Oper.wp; rw [hr]; exact h

theorem L.val {d : Nat} {v : AV} (hg : o.guard = none) (hd : o.dst = some d) (hlt : Nat.ble (d + 1) c.nt = true) (hy : Yields P c st o v)
    (h : L c ⟨(d, v) :: st.fr, st.bx, st.tk⟩ (wpList P ops Q rest)) : L c st (wpList P ops Q (o :: rest)) := by
  rintro a w ⟨E, hi⟩
  obtain ⟨u, hr, hv⟩ := hy E a w hi
  refine wpList_plain hg (fun K hK => Oper.wp_value hr (hK _ _ ?_))
  rw [hd]
  exact h _ _ ⟨E, hi.put (Nat.le_of_ble_eq_true hlt) hv⟩

theorem L.nil (h : L c st (Q .normal)) : L c st (wpList P ops Q []) := h

/-- a guarded operation that is wanted -/
theorem L.guardDo {dst : Option Tmp} {op : Op} {ty : TypeId} {pos : String} {after : Array Edge} {j s : Nat} {b : Bool}
    (hj : (ops[j]?).bind (·.dst) = some s) (hb : st.ev (.tmp s) = aB b)
    (h : L c st (wpList P ops Q (⟨dst, op, ty, pos, after, none⟩ :: rest))) : L c st (wpList P ops Q (⟨dst, op, ty, pos, after, some (j, b)⟩ :: rest)) := by
  rintro a w hr
  have h' := h a w hr
  obtain ⟨E, hi⟩ := hr
  have hv := (hi.ev (.tmp s))
  rw [hb] at hv
  have hq := hv.iv_im
  have hy : yielded ops a.tmps j = some b := by
    simp only [yielded, hj, Option.bind_some]
    simp only [Act.eval, Array.getD_eq_getD_getElem?] at hq
    cases hx : a.tmps[s]? with
    | none => rw [hx] at hq; simp [undef] at hq
    | some x => rw [hx] at hq; simp at hq; subst hq; rfl
  unfold wpList at h' ⊢
  simp only [Region.wanted, if_true, hy] at h' ⊢
  rw [if_pos (by simp)]
  exact h'

/-- a guarded operation that is not wanted -/
theorem L.guardSkip {d : Nat} {op : Op} {ty : TypeId} {pos : String} {after : Array Edge} {j s : Nat} {b b' : Bool} (hlt : Nat.ble (d + 1) c.nt = true)
    (hj : (ops[j]?).bind (·.dst) = some s) (hb : st.ev (.tmp s) = aB b') (hne : b' ≠ b)
    (h : L c ⟨(d, .opt false .any) :: st.fr, st.bx, st.tk⟩ (wpList P ops Q rest)) : L c st (wpList P ops Q (⟨some d, op, ty, pos, after, some (j, b)⟩ :: rest)) := by
  rintro a w ⟨E, hi⟩
  have hv := (hi.ev (.tmp s))
  rw [hb] at hv
  have hq := hv.iv_im
  have hy : yielded ops a.tmps j = some b' := by
    simp only [yielded, hj, Option.bind_some]
    simp only [Act.eval, Array.getD_eq_getD_getElem?] at hq
    cases hx : a.tmps[s]? with
    | none => rw [hx] at hq; simp [undef] at hq
    | some x => rw [hx] at hq; simp at hq; subst hq; rfl
  unfold wpList
  simp only [Region.wanted, hy]
  rw [if_neg (by simpa using hne)]
  exact h _ _ ⟨E, hi.put (Nat.le_of_ble_eq_true hlt) .optF⟩

/-- a guard that was itself not wanted -/
theorem L.guardSkipU {d : Nat} {op : Op} {ty : TypeId} {pos : String} {after : Array Edge} {j s : Nat} {b : Bool} (hlt : Nat.ble (d + 1) c.nt = true)
    (hj : (ops[j]?).bind (·.dst) = some s) (hb : st.ev (.tmp s) = .opt false .any)
    (h : L c ⟨(d, .opt false .any) :: st.fr, st.bx, st.tk⟩ (wpList P ops Q rest)) : L c st (wpList P ops Q (⟨some d, op, ty, pos, after, some (j, b)⟩ :: rest)) := by
  rintro a w ⟨E, hi⟩
  have hv := (hi.ev (.tmp s))
  rw [hb] at hv
  have hq : a.eval (.tmp s) = undef := by generalize a.eval (.tmp s) = u at hv; cases hv; rfl
  have hy : yielded ops a.tmps j = none := by
    simp only [yielded, hj, Option.bind_some]
    simp only [Act.eval, Array.getD_eq_getD_getElem?] at hq
    cases hx : a.tmps[s]? with
    | none => rfl
    | some x => rw [hx] at hq; simp at hq; subst hq; rfl
  unfold wpList
  simp only [Region.wanted, hy]
  rw [if_neg (by simp)]
  exact h _ _ ⟨E, hi.put (Nat.le_of_ble_eq_true hlt) .optF⟩

/-! ### values -/
theorem Yields.of_eval {x : Operand} (h : ∀ a : Act, (execOp a.eval o) = pure (.value (a.eval x))) : Yields P c st o (st.ev x) :=
  fun E a w hi => ⟨_, by rw [h a]; rfl, hi.ev x⟩
theorem Yields.move {x : Operand} (ho : o.op = .move x) : Yields P c st o (st.ev x) := .of_eval fun a => by simp [execOp, ho]
theorem Yields.assign {x : Operand} (ho : o.op = .assign x) : Yields P c st o (st.ev x) := .of_eval fun a => by simp [execOp, ho]

theorem Yields.mv {x : Operand} {v : AV} (ho : o.op = .move x ∨ o.op = .assign x) (hx : st.ev x = v) : Yields P c st o v := by
  subst hx
  rcases ho with ho | ho
  · exact .move ho
  · exact .assign ho
theorem Yields.sub {v v' : AV} (h : Yields P c st o v) (hs : Sub v v') : Yields P c st o v' := fun E a w hi => by
  obtain ⟨u, h1, h2⟩ := h E a w hi; exact ⟨u, h1, hs _ _ _ h2⟩

theorem Yields.pickT {x y z : Operand} (ho : o.op = .pick x y z) (hx : st.ev x = aB true) : Yields P c st o (st.ev y) := fun E a w hi => by
  have h := hi.ev x; rw [hx] at h
  exact ⟨_, by simp [execOp, ho, h.iv_im, asBool], hi.ev y⟩
theorem Yields.pickF {x y z : Operand} (ho : o.op = .pick x y z) (hx : st.ev x = aB false) : Yields P c st o (st.ev z) := fun E a w hi => by
  have h := hi.ev x; rw [hx] at h
  exact ⟨_, by simp [execOp, ho, h.iv_im, asBool], hi.ev z⟩

/-- one value in hand -/
theorem Yields.im {u : Value} (h1 : u.oneCell' = true) (h : ∀ (E : Env) (a : Act) (w : World), Inv c E st a w → (execOp a.eval o).run P w = .ok (.value u) w) : Yields P c st o (.iv (.im u)) :=
  fun E a w hi => ⟨u, h E a w hi, .iv (.im h1)⟩

theorem Inv.im {E : Env} {a : Act} {w : World} (hi : Inv c E st a w) {x : Operand} {u : Value} (hx : st.ev x = .iv (.im u)) : a.eval x = u := by
  have h := hi.ev x; rw [hx] at h; exact h.iv_im

/-! integers -/
theorem Yields.addI {x y : Operand} {t t' : TypeId} {m n : Int} (ho : o.op = .binOp .add t x y t') (hx : st.ev x = aI m) (hy : st.ev y = aI n)
    (hlo : -9223372036854775808 ≤ m + n) (hhi : m + n ≤ 9223372036854775807) : Yields P c st o (aI (m + n)) :=
  .im rfl fun E a w hi => by
    have : IntKind.i64.wrap (m + n) = m + n := IntWalk.i64_in _ ⟨hlo, hhi⟩
    simp [execOp, ho, hi.im hx, hi.im hy, eqGuard, binOp, Op.intArith, this]
theorem Yields.subI {x y : Operand} {t t' : TypeId} {m n : Int} (ho : o.op = .binOp .sub t x y t') (hx : st.ev x = aI m) (hy : st.ev y = aI n)
    (hlo : -9223372036854775808 ≤ m - n) (hhi : m - n ≤ 9223372036854775807) : Yields P c st o (aI (m - n)) :=
  .im rfl fun E a w hi => by
    have : IntKind.i64.wrap (m - n) = m - n := IntWalk.i64_in _ ⟨hlo, hhi⟩
    simp [execOp, ho, hi.im hx, hi.im hy, eqGuard, binOp, Op.intArith, this]
theorem Yields.mulI {x y : Operand} {t t' : TypeId} {m n : Int} (ho : o.op = .binOp .mul t x y t') (hx : st.ev x = aI m) (hy : st.ev y = aI n)
    (hlo : -9223372036854775808 ≤ m * n) (hhi : m * n ≤ 9223372036854775807) : Yields P c st o (aI (m * n)) :=
  .im rfl fun E a w hi => by
    have : IntKind.i64.wrap (m * n) = m * n := IntWalk.i64_in _ ⟨hlo, hhi⟩
    simp [execOp, ho, hi.im hx, hi.im hy, eqGuard, binOp, Op.intArith, this]
theorem Yields.eqlI {x y : Operand} {t t' : TypeId} {k : IntKind} {m n : Int} (ho : o.op = .binOp .eql t x y t') (hx : st.ev x = .iv (.im (.int k m))) (hy : st.ev y = .iv (.im (.int k n))) : Yields P c st o (aB (m == n)) :=
  .im rfl fun E a w hi => by simp [execOp, ho, hi.im hx, hi.im hy, eqGuard, binOp, Op.intCmp]
theorem Yields.neqI {x y : Operand} {t t' : TypeId} {k : IntKind} {m n : Int} (ho : o.op = .binOp .neq t x y t') (hx : st.ev x = .iv (.im (.int k m))) (hy : st.ev y = .iv (.im (.int k n))) : Yields P c st o (aB (m != n)) :=
  .im rfl fun E a w hi => by simp [execOp, ho, hi.im hx, hi.im hy, eqGuard, binOp, Op.intCmp]
theorem Yields.lssI {x y : Operand} {t t' : TypeId} {k : IntKind} {m n : Int} (ho : o.op = .binOp .lss t x y t') (hx : st.ev x = .iv (.im (.int k m))) (hy : st.ev y = .iv (.im (.int k n))) : Yields P c st o (aB (decide (m < n))) :=
  .im rfl fun E a w hi => by simp [execOp, ho, hi.im hx, hi.im hy, eqGuard, binOp, Op.intCmp]
theorem Yields.leqI {x y : Operand} {t t' : TypeId} {k : IntKind} {m n : Int} (ho : o.op = .binOp .leq t x y t') (hx : st.ev x = .iv (.im (.int k m))) (hy : st.ev y = .iv (.im (.int k n))) : Yields P c st o (aB (decide (m ≤ n))) :=
  .im rfl fun E a w hi => by simp [execOp, ho, hi.im hx, hi.im hy, eqGuard, binOp, Op.intCmp]
theorem Yields.gtrI {x y : Operand} {t t' : TypeId} {k : IntKind} {m n : Int} (ho : o.op = .binOp .gtr t x y t') (hx : st.ev x = .iv (.im (.int k m))) (hy : st.ev y = .iv (.im (.int k n))) : Yields P c st o (aB (decide (n < m))) :=
  .im rfl fun E a w hi => by simp [execOp, ho, hi.im hx, hi.im hy, eqGuard, binOp, Op.intCmp]
theorem Yields.geqI {x y : Operand} {t t' : TypeId} {k : IntKind} {m n : Int} (ho : o.op = .binOp .geq t x y t') (hx : st.ev x = .iv (.im (.int k m))) (hy : st.ev y = .iv (.im (.int k n))) : Yields P c st o (aB (decide (n ≤ m))) :=
  .im rfl fun E a w hi => by simp [execOp, ho, hi.im hx, hi.im hy, eqGuard, binOp, Op.intCmp]

/-! any kind of integer, with its wrap -/
theorem Yields.arith {x y : Operand} {t t' : TypeId} {op : BinOp} {k : IntKind} {m n r : Int} (ho : o.op = .binOp op t x y t') (hx : st.ev x = .iv (.im (.int k m))) (hy : st.ev y = .iv (.im (.int k n)))
    (hr : ∀ w, (binOp op t (.int k m) (.int k n)).run P w = .ok (.int k r) w) (hq : ∀ w, (eqGuard op t x y (.int k m) (.int k n)).run P w = .ok () w) : Yields P c st o (.iv (.im (.int k r))) :=
  .im rfl fun E a w hi => by simp [execOp, ho, hi.im hx, hi.im hy, hr, hq]
theorem Yields.conv {x : Operand} {s t : TypeId} {k k' : IntKind} {m : Int} (ho : o.op = .convert s t x) (hx : st.ev x = .iv (.im (.int k m)))
    (ht : P.underlying t = some (.int k')) (hs : (P.underlying s).isSome = true) : Yields P c st o (.iv (.im (.int k' (k'.wrap m)))) :=
  .im rfl fun E a w hi => by
    obtain ⟨d, hd⟩ := Option.isSome_iff_exists.1 hs
    simp [execOp, ho, hi.im hx, convert, run_underlying hd, run_underlying ht, Conv.intToInt]

/-! bools -/
theorem Yields.not {x : Operand} {t : TypeId} {b : Bool} (ho : o.op = .unOp .not t x) (hx : st.ev x = aB b) : Yields P c st o (aB (!b)) :=
  .im rfl fun E a w hi => by simp [execOp, ho, hi.im hx, Op.unary]
theorem Yields.eqlB {x y : Operand} {t t' : TypeId} {m n : Bool} (ho : o.op = .binOp .eql t x y t') (hx : st.ev x = aB m) (hy : st.ev y = aB n) (ht : P.underlying t = some .bool) : Yields P c st o (aB (m == n)) :=
  .im rfl fun E a w hi => by simp [execOp, ho, hi.im hx, hi.im hy, eqGuard, run_eql_bool w t m n ht]
theorem Yields.neqB {x y : Operand} {t t' : TypeId} {m n : Bool} (ho : o.op = .binOp .neq t x y t') (hx : st.ev x = aB m) (hy : st.ev y = aB n) (ht : P.underlying t = some .bool) : Yields P c st o (aB (!(m == n))) :=
  .im rfl fun E a w hi => by simp [execOp, ho, hi.im hx, hi.im hy, eqGuard, run_neq_bool w t m n ht]
theorem Yields.negI {x : Operand} {t : TypeId} {m : Int} (ho : o.op = .unOp .neg t x) (hx : st.ev x = aI m) (hlo : -9223372036854775808 ≤ 0 - m) (hhi : 0 - m ≤ 9223372036854775807) : Yields P c st o (aI (0 - m)) :=
  .im rfl fun E a w hi => by
    have : IntKind.i64.wrap (0 - m) = 0 - m := IntWalk.i64_in _ ⟨hlo, hhi⟩
    simp [execOp, ho, hi.im hx, Op.unary, Op.intArith] at this ⊢
    exact this

/-! strings, by their bytes -/
theorem Yields.eqlS {x y : Operand} {t t' : TypeId} {m n : List UInt8} (ho : o.op = .binOp .eql t x y t') (hx : st.ev x = aS m) (hy : st.ev y = aS n) : Yields P c st o (aB (m == n)) :=
  .im rfl fun E a w hi => by simp [execOp, ho, hi.im hx, hi.im hy, eqGuard, binOp, Op.stringOp]
theorem Yields.neqS {x y : Operand} {t t' : TypeId} {m n : List UInt8} (ho : o.op = .binOp .neq t x y t') (hx : st.ev x = aS m) (hy : st.ev y = aS n) : Yields P c st o (aB (!(m == n))) :=
  .im rfl fun E a w hi => by simp [execOp, ho, hi.im hx, hi.im hy, eqGuard, binOp, Op.stringOp]
theorem Yields.lssS {x y : Operand} {t t' : TypeId} {m n : List UInt8} (ho : o.op = .binOp .lss t x y t') (hx : st.ev x = aS m) (hy : st.ev y = aS n) : Yields P c st o (aB (Op.bytesLess m n)) :=
  .im rfl fun E a w hi => by simp [execOp, ho, hi.im hx, hi.im hy, eqGuard, binOp, Op.stringOp]
theorem Yields.leqS {x y : Operand} {t t' : TypeId} {m n : List UInt8} (ho : o.op = .binOp .leq t x y t') (hx : st.ev x = aS m) (hy : st.ev y = aS n) : Yields P c st o (aB (Op.bytesLess m n || m == n)) :=
  .im rfl fun E a w hi => by simp [execOp, ho, hi.im hx, hi.im hy, eqGuard, binOp, Op.stringOp]
theorem Yields.gtrS {x y : Operand} {t t' : TypeId} {m n : List UInt8} (ho : o.op = .binOp .gtr t x y t') (hx : st.ev x = aS m) (hy : st.ev y = aS n) : Yields P c st o (aB (!(Op.bytesLess m n || m == n))) :=
  .im rfl fun E a w hi => by simp [execOp, ho, hi.im hx, hi.im hy, eqGuard, binOp, Op.stringOp]
theorem Yields.geqS {x y : Operand} {t t' : TypeId} {m n : List UInt8} (ho : o.op = .binOp .geq t x y t') (hx : st.ev x = aS m) (hy : st.ev y = aS n) : Yields P c st o (aB (!(Op.bytesLess m n))) :=
  .im rfl fun E a w hi => by simp [execOp, ho, hi.im hx, hi.im hy, eqGuard, binOp, Op.stringOp]
theorem Yields.addS {x y : Operand} {t t' : TypeId} {m n : List UInt8} (ho : o.op = .binOp .add t x y t') (hx : st.ev x = aS m) (hy : st.ev y = aS n) (hl : m.length + n.length ≤ 9223372036854775807) : Yields P c st o (aS (m ++ n)) :=
  .im rfl fun E a w hi => by
    have h1 : ¬ (((m.length + n.length : Nat) : Int) > IntKind.i64.max) := by simp [IntKind.max, IntKind.signed, IntKind.bits]; omega
    have h2 : ((ByteArray.mk m.toArray) ++ (ByteArray.mk n.toArray)) = ByteArray.mk (m ++ n).toArray := by
      apply ByteArray.ext; simp
    simp only [execOp, ho, hi.im hx, hi.im hy, eqGuard, binOp, Op.stringOp, ByteArray.size, List.size_toArray, h1, if_false, h2]
    simp
theorem Yields.lenS {x : Operand} {t : TypeId} {m : List UInt8} (ho : o.op = .call { callee := .builtin .len, args := #[x], argTypes := #[t] }) (hx : st.ev x = aS m)
    (ht : P.underlying t = some .string) : Yields P c st o (aI m.length) :=
  .im rfl fun E a w hi => by simp [execOp, ho, resolve, invoke, builtin, hi.im hx, run_len_string w t _ _ ht, goInt, ByteArray.size]
theorem Yields.indexS {x i : Operand} {t : TypeId} {m : List UInt8} {k : IntKind} {n : Int} {b : UInt8} (ho : o.op = .index t x i) (hx : st.ev x = aS m) (hi' : st.ev i = .iv (.im (.int k n)))
    (ht : P.underlying t = some .string) (h0 : 0 ≤ n) (hb : m[n.toNat]? = some b) : Yields P c st o (.iv (.im (.int .u8 b.toNat))) :=
  .im rfl fun E a w hi => by
    have : (ByteArray.mk m.toArray)[n.toNat]? = some b := by
      have hlt := (List.getElem?_eq_some_iff.1 hb).1
      rw [ByteArray.getElem?_lt' _ _ (by simpa [ByteArray.size] using hlt)]
      rw [← hb]
      simp [hlt]
      rfl
    simp [execOp, ho, hi.im hx, hi.im hi', Instr.index, asIntOf, run_underlying ht, h0, this]

end
end Go.Abs
