/- A logic of abstract states, part 19: append of a make into own blocks. Conditions: each rule's own premises; over any program. -/
import Derived.Test.YtanlhpdjgelehaaB7
import Derived.Lib.AppendZerosOnto
namespace Go.Abs
open Go.RowKit (Below)
set_option linter.unusedVariables false

section
variable {P : Program} {c : Ctx} {st : St} {ops : Array Oper} {Q : Exit → Act → World → Prop} {rest : List Oper} {o : Oper}

/-- append of a make without room: a new block, its room hidden -/
theorem Makes.growZ {t t' e : TypeId} {kd kd' : IntKind} {x y : Operand} {m : Nat} {id id' k off bytes : Nat} {i : TypeInfo} {z : Value} {n cap : Nat} {b : Box} {old : List AV}
    (ho : o.op = .call { callee := .builtin .append, args := #[x, y], argTypes := #[t, t'] }) (ht : P.underlying t = some (.slice e)) (hi0 : P.info? e = some i) (hik : i.size = k) (hib : i.bytes = bytes) (hiz : i.zero = some z) (hzk : z.cells.size = k) (hz1 : ∀ u ∈ z.cells.toList, u.oneCell' = true)
    (hd : P.underlying t' = some (.int kd)) (hk0 : 0 < k) (hx : st.ev x = .bsl id off n cap) (hb : st.bx.lookup id = some b) (hold : (b.cs.drop off).take (n * k) = old) (hol : old.length = n * k) (hcap : cap < n + m) (hy : st.ev y = .iv (.im (.int kd' (m : Int)))) (hpos : 0 < m)
    (hm : n + m ≤ maxLen) (hby : (n + m) * bytes ≤ 140737488355328) (hf : st.fresh id' = true) (hmo' : AV.ments id' old = false) :
    Makes P c st o (.bsh id' 0 (n + m) k) ((id', ⟨e, .l (old ++ List.replicate (m * k) .any)⟩) :: st.bx) st.tk := fun E a w hi => by
  subst hik; subst hib
  have hyq := hi.im hy
  have h := hi.ev x; rw [hx] at h
  obtain ⟨o', hq, hn1, hm1, hoo⟩ := h.bsl_inv
  have hexec : (execOp a.eval o).run P w = ((Builtin.append_ #[t, t'] o.type #[a.eval x, a.eval y]).run P w).andThen fun v w' => .ok (.value v) w' := by
    simp [execOp, ho, resolve, invoke, builtin]
  obtain ⟨arr, rst, _, hra, h1a, _, hc⟩ := hi.boxCell hb
  have hro : RelL E w old ((arr.drop off).take (n * i.size)) := by rw [← hold]; exact (hra.drop off).take _
  generalize hod : (arr.drop off).take (n * i.size) = olds at hro
  have hol2 : olds.length = n * i.size := by rw [hro.1, hol]
  have hfc : (Builtin.firstCells i.size n (.slice (some ⟨E.ρ id, o', none⟩) n cap)).run P w.drew = .ok olds.toArray w.drew := by
    refine run_firstCells_some w.drew i.size n _ n cap olds hol2 (fun p v hv => ?_)
    have hp := (List.getElem?_eq_some_iff.1 hv).1
    rw [hol2] at hp
    have hn0 : n ≠ 0 := fun e => by rw [e] at hp; simp at hp
    rw [hoo (by omega)]
    rw [← hod, List.getElem?_take, if_pos hp, List.getElem?_drop] at hv
    simp only [Addr.add_none]
    show w.cell? _ = _
    rw [hc _ (List.getElem?_eq_some_iff.1 hv).1]; exact hv
  have hrun := Lib.run_append_grow_zeros w t t' o.type e i z kd' kd ht hd hi0 hiz (some ⟨E.ρ id, o', none⟩) n cap olds hfc m hpos hk0 hcap (by simp only [maxLen] at hm; omega) (Nat.le_trans (Nat.le_trans (Nat.mul_le_mul_right _ (Nat.le_add_left m n)) hby) (by omega)) (growslice_fits hcap hby)
  have hge : n + m ≤ grownCap w (n + m) cap e := grownCap_ge _ _ _ _
  have hcm := grownCap_le_maxLen w (n + m) cap e hm
  have hlen : (olds ++ ((Builtin.zeroCells z.cells m).toList ++ (Builtin.zeroCells z.cells (grownCap w (n + m) cap e - (n + m))).toList)).length = grownCap w (n + m) cap e * i.size := by
    simp only [List.length_append, hol2, Array.length_toList, size_zeroCells, hzk]
    rw [← Nat.add_mul, ← Nat.add_mul]; congr 1; omega
  have hul : (Builtin.zeroCells z.cells m).toList.length = m * i.size := by rw [Array.length_toList, size_zeroCells, hzk]
  have hz0 : ∀ (q : Nat) (u : Value), u ∈ (Builtin.zeroCells z.cells q).toList → u.oneCell' = true := fun q u hu => by
    simp only [Builtin.zeroCells, Array.toList_map, Array.toList_range, List.mem_map, List.mem_range] at hu
    obtain ⟨p, _, rfl⟩ := hu
    have hlt : p % z.cells.size < z.cells.size := Nat.mod_lt _ (by rw [hzk]; exact hk0)
    rw [getElem!_pos z.cells _ hlt]
    exact hz1 _ (by simp)
  have hrn : RelL E w (List.replicate (m * i.size) .any) (Builtin.zeroCells z.cells m).toList := ⟨by rw [hul, List.length_replicate], fun p x u hx hu => by
    simp only [List.getElem?_replicate] at hx
    split at hx
    · cases hx; exact .any
    · cases hx⟩
  have hma : AV.ments id' (List.replicate (m * i.size) .any) = false := by
    generalize m * i.size = q
    induction q with
    | zero => rfl
    | succ q ih => simpa [List.replicate_succ, AV.ments, AV.ment] using ih
  have hrel := RelL.keep (E := E) (w := w) (w' := w.drew) (fun _ _ _ => rfl) (hro.append hrn)
  have hi' := hi.drew.newRoom hf (ty := e) (cs := old ++ List.replicate (m * i.size) .any) (us := olds ++ ((Builtin.zeroCells z.cells m).toList ++ (Builtin.zeroCells z.cells (grownCap w (n + m) cap e - (n + m))).toList)) (capV i.size (grownCap w (n + m) cap e))
    (by rw [hlen, List.length_append, hol, List.length_replicate, ← Nat.add_mul]; exact Nat.mul_le_mul_right _ hge)
    (fun p x u hx hu => by
      have hlt := (List.getElem?_eq_some_iff.1 hx).1
      rw [← List.append_assoc, List.getElem?_append_left (by rw [hrel.1]; exact hlt)] at hu
      exact hrel.2 p x u hx hu)
    (fun u hu => by
      rcases List.mem_append.1 hu with hu | hu
      · rw [← hod] at hu; exact h1a u (List.mem_of_mem_drop (List.mem_of_mem_take hu))
      rcases List.mem_append.1 hu with hu | hu
      · exact hz0 _ u hu
      · exact hz0 _ u hu)
    (ments_app hmo' hma) (fun k' cap' he => by
      obtain ⟨rfl, rfl⟩ := capV_inj he
      exact Nat.le_of_eq hlen.symm)
  refine ⟨_, _, _, ?_, hi', .bsh (cap := grownCap w (n + m) cap e) (o := 0) (by omega) hcm (by simp [Env.upd]) (fun _ => by simp) rfl⟩
  rw [hexec, hq, hyq, hrun]
  simp [Env.upd]
  congr 2
  apply Array.ext'
  simp
end
end Go.Abs
