/- A logic of abstract states, part 15: slices that lie in own blocks: their length, room, parts, elements. Conditions: each rule's own premises; over any program. -/
import Derived.Test.YtanlhpdjgelehaaB0
import Derived.Laws.Slices
namespace Go.Abs
open Go.RowKit (Below)
set_option linter.unusedVariables false

section
variable {P : Program} {c : Ctx} {st : St} {ops : Array Oper} {Q : Exit → Act → World → Prop} {rest : List Oper} {o : Oper}

theorem Yields.lenBsl {t : TypeId} {x : Operand} {id off n cap : Nat} (ho : o.op = .call { callee := .builtin .len, args := #[x], argTypes := #[t] }) {e : TypeId} {k : Nat} (hs : sliceOk P t e k = true) (hx : st.ev x = .bsl id off n cap) : Yields P c st o (aI n) :=
  .im rfl fun E a w hi => by
    obtain ⟨hu, _⟩ := sliceOk_run hs
    have h := hi.ev x; rw [hx] at h
    obtain ⟨o', hq, _⟩ := h.bsl_inv
    simp [execOp, ho, resolve, invoke, builtin, hq, Builtin.len_, run_underlying hu, goInt]
theorem Yields.lenBsh {t : TypeId} {x : Operand} {id off n k' : Nat} (ho : o.op = .call { callee := .builtin .len, args := #[x], argTypes := #[t] }) {e : TypeId} {k : Nat} (hs : sliceOk P t e k = true) (hx : st.ev x = .bsh id off n k') : Yields P c st o (aI n) :=
  .im rfl fun E a w hi => by
    obtain ⟨hu, _⟩ := sliceOk_run hs
    have h := hi.ev x; rw [hx] at h
    obtain ⟨cap, o', hq, _⟩ := h.bsh_inv
    simp [execOp, ho, resolve, invoke, builtin, hq, Builtin.len_, run_underlying hu, goInt]
theorem Yields.capBsl {t : TypeId} {x : Operand} {id off n cap : Nat} (ho : o.op = .call { callee := .builtin .cap, args := #[x], argTypes := #[t] }) {e : TypeId} {k : Nat} (hs : sliceOk P t e k = true) (hx : st.ev x = .bsl id off n cap) : Yields P c st o (aI cap) :=
  .im rfl fun E a w hi => by
    obtain ⟨hu, _⟩ := sliceOk_run hs
    have h := hi.ev x; rw [hx] at h
    obtain ⟨o', hq, _⟩ := h.bsl_inv
    simp [execOp, ho, resolve, invoke, builtin, hq, Builtin.cap_, run_underlying hu, goInt]

theorem Yields.indexBsl {t e : TypeId} {x i : Operand} {k : Nat} {kd : IntKind} {j : Int} {id off n cap : Nat} (ho : o.op = .indexAddr t x i) (hs : sliceOk P t e k = true) (hx : st.ev x = .bsl id off n cap)
    (hj : st.ev i = .iv (.im (.int kd j))) (h0 : 0 ≤ j) (h1 : j < n) : Yields P c st o (.ptr id (off + j.toNat * k)) :=
  fun E a w hi => by
    obtain ⟨hu, inf, hinf, hsz⟩ := sliceOk_run hs
    have h := hi.ev x; rw [hx] at h
    obtain ⟨o', hq, hn, _, hoo⟩ := h.bsl_inv
    have := hoo (by omega); subst this
    refine ⟨.pointer (some ⟨E.ρ id, o' + j.toNat * k, none⟩), ?_, .ptr rfl⟩
    simp [execOp, ho, hq, hi.im hj, Instr.indexAt, asIntOf, run_underlying hu, h0, h1, sizeOf, typeInfo, hinf, hsz, Addr.add_none]
theorem Yields.indexBsh {t e : TypeId} {x i : Operand} {k : Nat} {kd : IntKind} {j : Int} {id off n : Nat} (ho : o.op = .indexAddr t x i) (hs : sliceOk P t e k = true) (hx : st.ev x = .bsh id off n k)
    (hj : st.ev i = .iv (.im (.int kd j))) (h0 : 0 ≤ j) (h1 : j < n) : Yields P c st o (.ptr id ((off + j.toNat) * k)) :=
  fun E a w hi => by
    obtain ⟨hu, inf, hinf, hsz⟩ := sliceOk_run hs
    have h := hi.ev x; rw [hx] at h
    obtain ⟨cap, o', hq, hn, _, _, hoo⟩ := h.bsh_inv
    have := hoo (by omega); subst this
    refine ⟨.pointer (some ⟨E.ρ id, off * k + j.toNat * k, none⟩), ?_, .ptr (by rw [Nat.add_mul])⟩
    simp [execOp, ho, hq, hi.im hj, Instr.indexAt, asIntOf, run_underlying hu, h0, h1, sizeOf, typeInfo, hinf, hsz, Addr.add_none]

theorem sliced_bsl {E : Env} {w : World} {id off cap o' l h m s : Nat} (hl : l ≤ h) (hh : h ≤ m) (hm : m ≤ cap) (hx : cap ≤ maxLen) (ho : cap ≠ 0 → o' = off) :
    RepA E w (.bsl id (off + l * s) (h - l) (m - l)) (sliced (some ⟨E.ρ id, o', none⟩) l h m s) := by
  unfold sliced
  by_cases e : m = l
  · rw [if_pos e]
    exact .bsl (by omega) (by omega) (fun h => by omega) rfl
  · rw [if_neg e]
    exact .bsl (by omega) (by omega) (fun _ => rfl) (by rw [ho (by omega)]; simp [Addr.add_none])

theorem sl_facts {t e : TypeId} {k : Nat} (hs : sliceOk P t e k = true) (w : World) : P.underlying t = some (.slice (P.elem t)) ∧ (sizeOf (P.elem t)).run P w = .ok k w := by
  obtain ⟨hu, inf, hinf, hsz⟩ := sliceOk_run hs
  have he : P.elem t = e := by simp [Program.elem, hu]
  exact ⟨by rw [he]; exact hu, by rw [he]; simp [sizeOf, typeInfo, hinf, hsz]⟩

/-- x[y:] -/
theorem Yields.slBl {x y : Operand} {t e : TypeId} {k id off n cap : Nat} {kd : IntKind} {j : Int} (ho : o.op = .slice t x (some y) none none) (hx : st.ev x = .bsl id off n cap) (hy : st.ev y = .iv (.im (.int kd j))) (hs : sliceOk P t e k = true)
    (h0 : 0 ≤ j) (h1 : j ≤ n) : Yields P c st o (.bsl id (off + j.toNat * k) (n - j.toNat) (cap - j.toNat)) := fun E a w hi => by
  obtain ⟨hu, hz⟩ := sl_facts hs w
  have h := hi.ev x; rw [hx] at h
  obtain ⟨o', hq, hn, hm, hoo⟩ := h.bsl_inv
  refine ⟨_, ?_, sliced_bsl (s := k) (by omega) hn (Nat.le_refl _) hm hoo⟩
  have := run_slice_l (P := P) w t (some ⟨E.ρ id, o', none⟩) n cap hu kd j h0 h1
  simp [execOp, ho, hq, hi.im hy, run_sliceAt_slice w t _ _ _ _ hu, this, hz, Result.andThen]
/-- x[:y] -/
theorem Yields.slBh {x y : Operand} {t e : TypeId} {k id off n cap : Nat} {kd : IntKind} {j : Int} (ho : o.op = .slice t x none (some y) none) (hx : st.ev x = .bsl id off n cap) (hy : st.ev y = .iv (.im (.int kd j))) (hs : sliceOk P t e k = true)
    (h0 : 0 ≤ j) (h1 : j ≤ cap) : Yields P c st o (.bsl id off j.toNat cap) := fun E a w hi => by
  obtain ⟨hu, hz⟩ := sl_facts hs w
  have h := hi.ev x; rw [hx] at h
  obtain ⟨o', hq, hn, hm, hoo⟩ := h.bsl_inv
  have h2 := sliced_bsl (E := E) (w := w) (id := id) (s := k) (Nat.zero_le j.toNat) (by omega : j.toNat ≤ cap) (Nat.le_refl _) hm hoo
  simp only [Nat.zero_mul, Nat.add_zero, Nat.sub_zero] at h2
  refine ⟨_, ?_, h2⟩
  have := run_slice_h (P := P) w t (some ⟨E.ρ id, o', none⟩) n cap hu kd j h0 h1
  simp [execOp, ho, hq, hi.im hy, run_sliceAt_slice w t _ _ _ _ hu, this, hz, Result.andThen]
/-- x[y:z] -/
theorem Yields.slBlh {x y z : Operand} {t e : TypeId} {k id off n cap : Nat} {kd kd' : IntKind} {i j : Int} (ho : o.op = .slice t x (some y) (some z) none) (hx : st.ev x = .bsl id off n cap) (hy : st.ev y = .iv (.im (.int kd i))) (hz' : st.ev z = .iv (.im (.int kd' j)))
    (hs : sliceOk P t e k = true) (h0 : 0 ≤ i) (h1 : i ≤ j) (h2 : j ≤ cap) : Yields P c st o (.bsl id (off + i.toNat * k) (j.toNat - i.toNat) (cap - i.toNat)) := fun E a w hi => by
  obtain ⟨hu, hz⟩ := sl_facts hs w
  have h := hi.ev x; rw [hx] at h
  obtain ⟨o', hq, hn, hm, hoo⟩ := h.bsl_inv
  refine ⟨_, ?_, sliced_bsl (E := E) (w := w) (id := id) (s := k) (by omega : i.toNat ≤ j.toNat) (by omega : j.toNat ≤ cap) (Nat.le_refl _) hm hoo⟩
  have := run_slice_lh (P := P) w t (some ⟨E.ρ id, o', none⟩) n cap hu kd kd' i j h0 h1 h2
  simp [execOp, ho, hq, hi.im hy, hi.im hz', run_sliceAt_slice w t _ _ _ _ hu, this, hz, Result.andThen]
end
end Go.Abs
