/- A logic of abstract states, part 20: two slices in two boxes do not overlap. Conditions: each rule's own premises; over any program. -/
import Derived.Test.YtanlhpdjgelehaaB8
import Derived.Lib.Overlaps
namespace Go.Abs
open Go.RowKit (Below)
set_option linter.unusedVariables false

section
variable {P : Program} {c : Ctx} {st : St} {ops : Array Oper} {Q : Exit → Act → World → Prop} {rest : List Oper} {o : Oper}

theorem Yields.overlapsB {f : FuncId} {x y : Operand} {ats : Array TypeId} {t tr e : TypeId} {k i j offi n cap offj m capj : Nat} {b b' : Box} (ho : o.op = .call { callee := .value (.func f), args := #[x, y], argTypes := ats })
    (hok : extOk P f (Extern.SlicesOverlaps.overlaps #[t, t] #[tr])) (hs : sliceOk P t e k = true) (hx : st.ev x = .bsl i offi n cap) (hy : st.ev y = .bsl j offj m capj) (hij : i ≠ j) (hb : st.bx.lookup i = some b) (hb' : st.bx.lookup j = some b') (hbn : b.cs ≠ []) (hbn' : b'.cs ≠ [])
    (hoff : cap ≠ 0) (hin : offi < b.cs.length) : Yields P c st o (aB false) :=
  .im rfl fun E a w hi => by
    obtain ⟨fn, hf, h1, h2, h3, h4⟩ := hok
    obtain ⟨hu, inf, hinf, hsz⟩ := sliceOk_run hs
    have hv := hi.ev x; rw [hx] at hv
    obtain ⟨ox, hqx, _, _, hox⟩ := hv.bsl_inv
    have hv' := hi.ev y; rw [hy] at hv'
    obtain ⟨oy, hqy, _⟩ := hv'.bsl_inv
    obtain ⟨_, arr, ha, hl, _⟩ := hi.heap.box i b hb hbn
    obtain ⟨_, arr', ha', hl', _⟩ := hi.heap.box j b' hb' hbn'
    have hne : E.ρ i ≠ E.ρ j := fun e => hij (hi.heap.bb i j b b' hb hb' hbn hbn' e)
    have hp' : arr'.length ≠ 0 := fun e => hbn' (List.eq_nil_of_length_eq_zero (by omega))
    have hrun := run_callFunc_extern hf h1 h2 h3 h4 #[.slice (some ⟨E.ρ i, ox, none⟩) n cap, .slice (some ⟨E.ρ j, oy, none⟩) m capj] w
    rw [Lib.run_overlaps_apart w t tr e hu k (fun w => by simp [sizeOf, typeInfo, hinf, hsz]) ⟨E.ρ i, ox, none⟩ ⟨E.ρ j, oy, none⟩ n cap m capj hne b.ty b'.ty arr.length arr'.length
      (by simp [World.shape?, ha]) (by simp [World.shape?, ha']) hp' (by simp [World.frozen?, ha]) (by simp [World.frozen?, ha])] at hrun
    have : (execOp a.eval o).run P w = (callFunc f #[a.eval x, a.eval y]).run P w := by
      simp [execOp, ho, resolve, Deferred.ofValue, Act.eval, invoke]
    rw [this, hqx, hqy, hrun]
    simp [Result.andThen]
end
end Go.Abs
