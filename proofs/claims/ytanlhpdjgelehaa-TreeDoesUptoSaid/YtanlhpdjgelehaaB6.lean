/- A logic of abstract states, part 17: memory in own blocks: comparisons with nil. Conditions: each rule's own premises; over any program. -/
import Derived.Test.YtanlhpdjgelehaaB5
import Derived.Laws.Cover3
namespace Go.Abs
open Go.RowKit (Below)
set_option linter.unusedVariables false

section
variable {P : Program} {c : Ctx} {st : St} {ops : Array Oper} {Q : Exit → Act → World → Prop} {rest : List Oper} {o : Oper}

/-- a published slice that has elements is not nil -/
theorem Yields.eqlNil {x y : Operand} {t t' e : TypeId} {k : Nat} {es : List (List IV)} (ho : o.op = .binOp .eql t x y t') (hx : (st.ev x).sl? = some es) (hy : st.ev y = .nils) (hs : sliceOk P t e k = true) (hne : es ≠ []) : Yields P c st o (aB false) :=
  .im rfl fun E a w hi => by
    obtain ⟨hu, _⟩ := sliceOk_run hs
    have h2 := hi.ev y; rw [hy] at h2
    generalize hqy : a.eval y = uy at h2
    cases h2
    rcases ((hi.ev x).sl hx).sl_inv with ⟨_, rfl⟩ | ⟨_, _, _, _, _, rfl⟩ | ⟨b, o', cap, k', f, hq, _⟩
    · exact (hne rfl).elim
    · exact (hne rfl).elim
    · simp [execOp, ho, hq, hqy, eqGuard, binOp, run_equal_slice_nil w t e _ _ _ hu]
/-- a published slice without elements: either way -/
theorem L.eqlNil0 {x y : Operand} {t t' e : TypeId} {k d : Nat} (hg : o.guard = none) (hd : o.dst = some d) (hlt : Nat.ble (d + 1) c.nt = true) (ho : o.op = .binOp .eql t x y t') (hx : (st.ev x).sl? = some []) (hy : st.ev y = .nils) (hs : sliceOk P t e k = true)
    (h : ∀ b, L c ⟨(d, aB b) :: st.fr, st.bx, st.tk⟩ (wpList P ops Q rest)) : L c st (wpList P ops Q (o :: rest)) := by
  rintro a w ⟨E, hi⟩
  obtain ⟨hu, _⟩ := sliceOk_run hs
  have h2 := hi.ev y; rw [hy] at h2
  generalize hqy : a.eval y = uy at h2
  cases h2
  have hr : ∃ b, (execOp a.eval o).run P w = .ok (.value (.bool b)) w := by
    rcases ((hi.ev x).sl hx).sl_inv with ⟨hq, _⟩ | ⟨ad, cap, hq, _, _, _⟩ | ⟨b, o', cap, k', f, hq, _⟩
    · exact ⟨true, by simp [execOp, ho, hq, hqy, eqGuard, binOp, run_equal_slice_nil w t e _ _ _ hu]⟩
    · exact ⟨false, by simp [execOp, ho, hq, hqy, eqGuard, binOp, run_equal_slice_nil w t e _ _ _ hu]⟩
    · exact ⟨false, by simp [execOp, ho, hq, hqy, eqGuard, binOp, run_equal_slice_nil w t e _ _ _ hu]⟩
  obtain ⟨b, hr⟩ := hr
  refine wpList_plain hg (fun K hK => Oper.wp_value hr (hK _ _ ?_))
  rw [hd]
  exact h b _ _ ⟨E, hi.put (Nat.le_of_ble_eq_true hlt) (.iv (.im rfl))⟩

/-- a literal, as a box of one's own -/
theorem Makes.buildBox {t e : TypeId} {n k id : Nat} {parts : Array (Nat × Operand)} {zs : List Value} {cs : List AV} (ho : o.op = .buildSlice t n parts) (hs : sliceOk P t e k = true)
    (hz : zeroCellsOf P e = some zs) (h1 : zs.all (·.oneCell') = true) (hzl : zs.length = k) (hn : n * k ≤ 16777216) (hnk : 0 < k)
    (hf : fillA (fun i => some (i * k, k)) ((List.range (n * k)).map fun i => constCell (zs.getD (i % k) undef)) (parts.toList.map fun x => (x.1, st.ev x.2)) = some cs)
    (hcl : cs.length = n * k) (hm : AV.ments id cs = false) (hfr : st.fresh id = true) : Makes P c st o (.bsl id 0 n n) ((id, ⟨e, cs⟩) :: st.bx) st.tk := fun E a w hi => by
  obtain ⟨hu, inf, hinf, hsz⟩ := sliceOk_run hs
  have hz0 : ∃ z, inf.zero = some z ∧ z.cells = zs.toArray := by
    unfold zeroCellsOf at hz
    simp only [hinf, Option.bind_some, Option.map_eq_some_iff] at hz
    obtain ⟨z, hz1, hz2⟩ := hz
    exact ⟨z, hz1, by rw [← hz2]⟩
  obtain ⟨z, hz1, hz2⟩ := hz0
  have hget : ∀ i, i < n * k → zs.toArray[i % zs.toArray.size]! = zs.getD (i % k) undef := fun i hi => by
    have : i % k < zs.length := by rw [hzl]; exact Nat.mod_lt _ hnk
    simp [hzl]
    rw [List.getElem?_eq_getElem this]; rfl
  have hinit : ((Array.range (n * k)).map (zs.toArray[· % zs.toArray.size]!)) = ((List.range (n * k)).map fun i => zs.getD (i % k) undef).toArray := by
    apply Array.ext'
    simp only [Array.toList_map, Array.toList_range]
    exact List.map_congr_left (fun i hi => hget i (List.mem_range.1 hi))
  have hone : ∀ i, i < n * k → (zs.getD (i % k) undef).oneCell' = true := fun i hi => by
    have hlt : i % k < zs.length := by rw [hzl]; exact Nat.mod_lt _ hnk
    have : zs.getD (i % k) undef = zs[i % k] := by simp [hlt]
    rw [this]; exact List.all_eq_true.1 h1 _ (List.getElem_mem hlt)
  have hrel : RelL E w ((List.range (n * k)).map fun i => constCell (zs.getD (i % k) undef)) ((List.range (n * k)).map fun i => zs.getD (i % k) undef) := by
    refine ⟨by simp, fun i c u hc hu => ?_⟩
    simp only [List.getElem?_map] at hc hu
    cases hr : (List.range (n * k))[i]? with
    | none => rw [hr] at hc; simp at hc
    | some j =>
      rw [hr] at hc hu
      simp only [Option.map_some, Option.some.injEq] at hc hu
      subst hc; subst hu
      exact constCell_rep E w _ (hone j (List.mem_range.1 (List.mem_of_getElem? hr)))
  obtain ⟨arr, ha, hr, h1'⟩ := fill_rel (E := E) (w := w) _ (parts.map fun (i, x) => (i, a.eval x)).toList _ _ ((List.range (n * k)).map fun i => zs.getD (i % k) undef).toArray (by simpa using hrel)
    (fun u hu => by
      simp only [List.mem_map, List.mem_range] at hu
      obtain ⟨i, hi', rfl⟩ := hu
      exact hone i hi')
    (by simp) (fun n p q => parts_rep hi parts n p q) hf
  refine ⟨.slice (some ⟨w.heap.size, 0, none⟩) n n, _, _, ?_, hi.newBox hfr (ty := e) (us := arr.toList) hr h1' hm, .bsl (o := 0) (Nat.le_refl _) (by have : n ≤ n * k := Nat.le_mul_of_pos_right n hnk; simp only [maxLen]; omega) (fun _ => rfl) (by simp [Env.upd])⟩
  have hbig : ¬ (n * k > 2 ^ 24) := by omega
  have hfill : Instr.fill (fun i => some (i * k, k)) ((Array.range (n * k)).map (zs.toArray[· % zs.toArray.size]!)) (parts.map fun (i, x) => (i, a.eval x)).toList = some arr := by rw [hinit]; exact ha
  have hat : arr.toList.toArray = arr := by simp
  rw [hat]
  by_cases h0 : n * k = 0
  · have : n = 0 := by
      rcases Nat.mul_eq_zero.1 h0 with h | h
      · exact h
      · omega
    subst this
    have e0 : Array.range 0 = #[] := rfl
    have hfill' : Instr.fill (fun i => some (i * k, k)) #[] (parts.map fun (i, x) => (i, a.eval x)).toList = some arr := by simpa [e0] using hfill
    simp only [Array.toList_map] at hfill'
    simp [execOp, ho, Instr.buildSlice, run_underlying hu, sizeOf, typeInfo, hinf, hsz, newRow, e0, hfill']
  · simp only [execOp, ho, Instr.buildSlice, Sem.run_bind, run_underlying hu, sizeOf, typeInfo, zeroValue, run_program, hinf, hsz, hz1, hz2, Result.andThen_ok, Sem.run_pure, hbig, h0, if_false, hfill, newRow, run_newObj, Sem.run_ite]
    rfl

/-- a new box whose room is marked -/
theorem Inv.newRoom {E : Env} {a : Act} {w : World} (hi : Inv c E st a w) {id : Nat} (hf : st.fresh id = true) {ty : TypeId} {cs : List AV} {us : List Value} (v : Value)
    (hl : cs.length ≤ us.length) (hr : ∀ (i : Nat) (x : AV) (u : Value), cs[i]? = some x → us[i]? = some u → RepA E w x u) (h1 : ∀ u ∈ us, u.oneCell' = true) (hm : AV.ments id cs = false) (hv : ∀ k cap, v = capV k cap → cap * k ≤ us.length) :
    Inv c (E.upd id w.heap.size 0 v) ⟨st.fr, (id, ⟨ty, cs⟩) :: st.bx, st.tk⟩ a (w.alloc (.cells us.toArray ty (0, 0))) := by
  obtain ⟨hh, mono⟩ := hi.heap.alloc hf (.cells us.toArray ty (0, 0)) 0 v
  have hid : (E.upd id w.heap.size 0 v).ρ id = w.heap.size := by simp [Env.upd]
  refine ⟨hi.defers, hi.size, fun s v hv => mono v _ (St.fresh_fr hf hv) (hi.slot s v hv), hh.addBox ?_ ?_ ?_ ?_ ?_⟩
  · cases hq : st.bx.lookup id with
    | none => rfl
    | some b => exact ((St.fresh_bx hf hq).1 rfl).elim
  · refine ⟨by rw [hid]; simp [Env.upd], us, by rw [hid]; exact heapNew w _, hl, h1, fun i x u hx hu => mono x u (AV.ments_false hm i x hx) (hr i x u hx hu), fun k cap he => hv k cap (by simpa [Env.upd] using he)⟩
  · intro j b' hj hn
    rw [hid]
    have : (E.upd id w.heap.size 0 v).ρ j = E.ρ j := by simp [Env.upd, (St.fresh_bx hf hj).1]
    rw [this]
    have := box_lt (hi.heap.box j b' hj hn)
    omega
  · intro j t hj
    rw [hid]
    have e : (E.upd id w.heap.size 0 v).η j = E.η j := by simp [Env.upd, St.fresh_tk hf hj]
    rw [e]
    intro hg
    have := ownBlock_lt (hi.heap.tok j t hj) hg
    omega
  · rw [hid]; exact .inl hi.heap.kept.size

theorem flatten_get {α : Type} {k : Nat} (hk0 : 0 < k) : ∀ (news : List (List α)) (p : Nat) (x : α), (∀ e ∈ news, e.length = k) → news.flatten[p]? = some x → ∃ e, news[p / k]? = some e ∧ e[p % k]? = some x
  | [], p, x, _, h => by simp at h
  | e :: r, p, x, hn, h => by
    have he : e.length = k := hn e List.mem_cons_self
    rw [List.flatten_cons, List.getElem?_append] at h
    split at h
    · rename_i hlt
      rw [he] at hlt
      exact ⟨e, by rw [Nat.div_eq_of_lt hlt]; rfl, by rw [Nat.mod_eq_of_lt hlt]; exact h⟩
    · rename_i hge
      rw [he] at hge h
      obtain ⟨e', h1, h2⟩ := flatten_get hk0 r (p - k) x (fun e' h' => hn e' (List.mem_cons_of_mem _ h')) h
      have hp : p = (p - k) + k := by omega
      refine ⟨e', ?_, ?_⟩
      · rw [hp, Nat.add_div_right _ hk0]; simpa using h1
      · rw [hp, Nat.add_mod_right]; simpa using h2
theorem flatten_len {α : Type} {k : Nat} : ∀ (news : List (List α)), (∀ e ∈ news, e.length = k) → news.flatten.length = news.length * k
  | [], _ => by simp
  | e :: r, hn => by
    rw [List.flatten_cons, List.length_append, hn e List.mem_cons_self, flatten_len r (fun e' h' => hn e' (List.mem_cons_of_mem _ h')), List.length_cons, Nat.add_mul, Nat.one_mul, Nat.add_comm]

/-- append to an empty slice without room: a new block, its room hidden -/
theorem Makes.cloneB {t t' e : TypeId} {d : TypeDesc} {x y : Operand} {id id' k off bytes : Nat} {i : TypeInfo} {z : Value} {news : List (List IV)} {cs : List AV}
    (ho : o.op = .call { callee := .builtin .append, args := #[x, y], argTypes := #[t, t'] }) (ht : P.underlying t = some (.slice e)) (hi0 : P.info? e = some i) (hik : i.size = k) (hib : i.bytes = bytes) (hiz : i.zero = some z) (hzk : z.cells.size = k) (hz1 : ∀ u ∈ z.cells.toList, u.oneCell' = true)
    (hd : P.underlying t' = some d) (hn : notInt d) (hk0 : 0 < k) (hx : st.ev x = .bsl id off 0 0) (hnk : ∀ e ∈ news, e.length = k) (hy : Adds P c st y k news) (hne : news ≠ [])
    (hm : news.length ≤ maxLen) (hby : news.length * bytes ≤ 140737488355328) (hf : st.fresh id' = true) (hcs : news.flatten.map .iv = cs) (hmo : AV.ments id' cs = false) :
    Makes P c st o (.bsh id' 0 news.length k) ((id', ⟨e, cs⟩) :: st.bx) st.tk := fun E a w hi => by
  subst hik; subst hib
  obtain ⟨us, hsrc, hul, hu1, hur⟩ := hy E a w hi
  have h := hi.ev x; rw [hx] at h
  obtain ⟨o', hq, _⟩ := h.bsl_inv
  have hpos : 0 < news.length := List.length_pos_iff.2 hne
  have hsmall : news.length ≤ 9223372036854775807 := by simp only [maxLen] at hm; omega
  have hexec : (execOp a.eval o).run P w = ((Builtin.append_ #[t, t'] o.type #[a.eval x, a.eval y]).run P w).andThen fun v w' => .ok (.value v) w' := by
    simp [execOp, ho, resolve, invoke, builtin]
  have hrun := app_grow (ty := o.type) ht hd hn hi0 hiz hsrc (base := some ⟨E.ρ id, o', none⟩) (n := 0) (cap := 0) (olds := []) (by simp [Builtin.firstCells, loadCells, loadCellsFrom]) (by omega) (by omega) (growslice_fits (by omega) (by simpa using hby))
  simp only [Nat.zero_add, List.nil_append] at hrun
  have hge : news.length ≤ grownCap w news.length 0 e := grownCap_ge _ _ _ _
  have hcm := grownCap_le_maxLen w news.length 0 e hm
  have hlen : (us ++ (Builtin.zeroCells z.cells (grownCap w news.length 0 e - news.length)).toList).length = grownCap w news.length 0 e * i.size := by
    simp only [List.length_append, hul, Array.length_toList, size_zeroCells, hzk]
    rw [← Nat.add_mul]; congr 1; omega
  have hcl : cs.length = news.length * i.size := by rw [← hcs, List.length_map, flatten_len news hnk]
  have hi' := hi.drew.newRoom hf (ty := e) (cs := cs) (us := us ++ (Builtin.zeroCells z.cells (grownCap w news.length 0 e - news.length)).toList) (capV i.size (grownCap w news.length 0 e))
    (by rw [hlen, hcl]; exact Nat.mul_le_mul_right _ hge)
    (fun p x u hx hu => by
      have hlt := (List.getElem?_eq_some_iff.1 hx).1
      rw [List.getElem?_append_left (by rw [hul, ← hcl]; exact hlt)] at hu
      rw [← hcs, List.getElem?_map, Option.map_eq_some_iff] at hx
      obtain ⟨x', hx', rfl⟩ := hx
      obtain ⟨e', h1, h2⟩ := flatten_get hk0 news p x' hnk hx'
      have hp : p / i.size * i.size + p % i.size = p := by rw [Nat.mul_comm]; exact Nat.div_add_mod p i.size
      exact .iv (RepI.mono (φ := E.φ) (w := w) (w' := w.drew) (fun _ _ _ => rfl) (fun _ => Nat.le_refl _) (hur _ e' _ x' u h1 h2 (by rw [hp]; exact hu))))
    (fun u hu => by
      rcases List.mem_append.1 hu with hu | hu
      · exact hu1 u hu
      · simp only [Builtin.zeroCells, Array.toList_map, Array.toList_range, List.mem_map, List.mem_range] at hu
        obtain ⟨p, _, rfl⟩ := hu
        have hlt : p % z.cells.size < z.cells.size := Nat.mod_lt _ (by rw [hzk]; exact hk0)
        rw [getElem!_pos z.cells _ hlt]
        exact hz1 _ (by simp))
    hmo (fun k' cap' he => by
      obtain ⟨rfl, rfl⟩ := capV_inj he
      exact Nat.le_of_eq hlen.symm)
  refine ⟨_, _, _, ?_, hi', .bsh (cap := grownCap w news.length 0 e) (o := 0) (by omega) hcm (by simp [Env.upd]) (fun _ => by simp) rfl⟩
  rw [hexec, hq, hrun]
  simp [Env.upd]
end
end Go.Abs
