/- A logic of abstract states, part 4: memory: addresses, loads, stores, new blocks, literals of structs and slices. Conditions: each rule's own premises; over any program. -/
import Derived.Test.YtanlhpdjgelehaaDoorA3
namespace Go.Abs
open Go.RowKit (Below)
set_option linter.unusedVariables false

/-! ### cells beside one another -/
def RelL (E : Env) (w : World) (cs : List AV) (us : List Value) : Prop :=
  us.length = cs.length ∧ ∀ (i : Nat) (c : AV) (u : Value), cs[i]? = some c → us[i]? = some u → RepA E w c u
theorem RelL.nil (E : Env) (w : World) : RelL E w [] [] := ⟨rfl, fun i c u h => by simp at h⟩
theorem RelL.append {E : Env} {w : World} {a b : List AV} {x y : List Value} (h : RelL E w a x) (k : RelL E w b y) : RelL E w (a ++ b) (x ++ y) := by
  refine ⟨by simp [h.1, k.1], fun i c u hc hu => ?_⟩
  by_cases hi : i < a.length
  · rw [List.getElem?_append_left hi] at hc
    rw [List.getElem?_append_left (by rw [h.1]; exact hi)] at hu
    exact h.2 i c u hc hu
  · rw [List.getElem?_append_right (by omega)] at hc
    rw [List.getElem?_append_right (by rw [h.1]; omega), h.1] at hu
    exact k.2 _ c u hc hu
theorem RelL.take {E : Env} {w : World} {a : List AV} {x : List Value} (h : RelL E w a x) (n : Nat) : RelL E w (a.take n) (x.take n) := by
  refine ⟨by simp [h.1], fun i c u hc hu => ?_⟩
  rw [List.getElem?_take] at hc hu
  split at hc
  · rename_i hi; rw [if_pos hi] at hu; exact h.2 i c u hc hu
  · cases hc
theorem RelL.drop {E : Env} {w : World} {a : List AV} {x : List Value} (h : RelL E w a x) (n : Nat) : RelL E w (a.drop n) (x.drop n) := by
  refine ⟨by simp [h.1], fun i c u hc hu => ?_⟩
  rw [List.getElem?_drop] at hc hu
  exact h.2 _ c u hc hu
theorem RelL.mono {E E' : Env} {w w' : World} (hk : Keeps E.φ w w') (hφ : ∀ b, E.φ b ≤ E'.φ b) {a : List AV} {x : List Value}
    (hm : ∀ id, AV.ments id a = true → E'.ρ id = E.ρ id ∧ E'.η id = E.η id) (h : RelL E w a x) : RelL E' w' a x :=
  ⟨h.1, fun i c u hc hu => (h.2 i c u hc hu).mono hk hφ (fun id hid => hm id (by
    cases hq : AV.ments id a with
    | true => rfl
    | false => rw [AV.ments_false hq i c hc] at hid; cases hid))⟩
theorem RelL.keep {E : Env} {w w' : World} (hk : Keeps E.φ w w') {a : List AV} {x : List Value} (h : RelL E w a x) : RelL E w' a x :=
  ⟨h.1, fun i c u hc hu => (h.2 i c u hc hu).keep hk⟩
theorem RelL.consts (E : Env) (w : World) : ∀ (us : List Value), us.all (·.oneCell') = true → RelL E w (us.map constCell) us
  | us, h => ⟨by simp, fun i c u hc hu => by
      simp only [List.getElem?_map] at hc
      rw [hu] at hc
      simp at hc; subst hc
      exact constCell_rep E w u (List.all_eq_true.1 h u (List.mem_of_getElem? hu))⟩
theorem RelL.agg {E : Env} {w : World} {cs : List AV} {us : List Value} (h : RelL E w cs us) (h1 : ∀ u ∈ us, u.oneCell' = true) : RepA E w (.agg cs) (.agg us.toArray) := .agg h.1 h1 h.2
theorem RepA.agg_inv {E : Env} {w : World} {cs : List AV} {u : Value} (h : RepA E w (.agg cs) u) : ∃ us : List Value, u = .agg us.toArray ∧ RelL E w cs us ∧ ∀ u ∈ us, u.oneCell' = true := by
  cases h with
  | agg hl h1 h => exact ⟨_, rfl, ⟨hl, h⟩, h1⟩
theorem RepA.tup_inv {E : Env} {w : World} {cs : List AV} {u : Value} (h : RepA E w (.tup cs) u) : ∃ us : List Value, u = .tuple us.toArray ∧ RelL E w cs us := by
  cases h with
  | tup hl h => exact ⟨_, rfl, ⟨hl, h⟩⟩

/-- may it be laid into cells? -/
def AV.lays : AV → Bool
  | .agg _ => true
  | v => v.one
theorem RepA.lay {E : Env} {w : World} {v : AV} {u : Value} (h : RepA E w v u) (h1 : v.lays = true) : RelL E w v.cells u.cells.toList ∧ ∀ x ∈ u.cells.toList, x.oneCell' = true := by
  have := h.cells (by cases v <;> first | exact .inl h1 | exact .inr ⟨_, rfl⟩)
  exact ⟨⟨this.1, this.2.2⟩, this.2.1⟩

theorem Addr.add_none (b o n : Nat) : (⟨b, o, none⟩ : Addr).add n = ⟨b, o + n, none⟩ := by unfold Addr.add; split <;> simp_all

/-! ### facts on types, each closed -/
def fieldOk (P : Program) (s : TypeId) (f fo : Nat) : Bool :=
  match P.underlying s with
  | some (.struct fs) => match fs[f]? with
    | some fd => fd.offset == fo && (match P.info? fd.type with | some i => i.size != 0 | none => false)
    | none => false
  | _ => false
/-- t's variables: a struct's (agg) or one cell's; how many cells -/
def varOk (P : Program) (t : TypeId) (agg : Bool) (k : Nat) : Bool :=
  match P.underlying t, P.info? t with
  | some d, some i => (match d with | .struct _ | .array _ _ => true | _ => false) == agg && i.size == k
  | _, _ => false
def sliceOk (P : Program) (t e : TypeId) (k : Nat) : Bool :=
  (match P.underlying t with | some (.slice e') => e' == e | _ => false) && (match P.info? e with | some i => i.size == k | none => false)

theorem run_fieldAt {P : Program} {s : TypeId} {f fo : Nat} (h : fieldOk P s f fo = true) (b o : Nat) (w : World) :
    (Instr.fieldAt s (.pointer (some ⟨b, o, none⟩)) f).run P w = .ok (.pointer (some ⟨b, o + fo, none⟩)) w := by
  unfold fieldOk at h
  split at h
  · rename_i fs hu
    split at h
    · rename_i fd hf
      simp only [Bool.and_eq_true, beq_iff_eq] at h
      obtain ⟨h1, h2⟩ := h
      split at h2
      · rename_i i hi
        have h3 : i.size ≠ 0 := by simpa using h2
        simp [Instr.fieldAt, run_underlying hu, hf, Instr.sureAddr, fieldPlace, sizeOf, typeInfo, hi, h3, h1, Addr.add_none]
      · cases h2
    · cases h
  · cases h

theorem varOk_agg {P : Program} {t : TypeId} {agg : Bool} {k : Nat} (h : varOk P t agg k = true) (w : World) :
    (isAgg t).run P w = .ok agg w ∧ (sizeOf t).run P w = .ok k w := by
  unfold varOk at h
  split at h
  · rename_i d i hu hi
    simp only [Bool.and_eq_true, beq_iff_eq] at h
    refine ⟨?_, by simp [sizeOf, typeInfo, hi, h.2]⟩
    unfold isAgg
    rw [Sem.run_bind, run_underlying hu w]
    cases d <;> simp_all
  · cases h

theorem sliceOk_run {P : Program} {t e : TypeId} {k : Nat} (h : sliceOk P t e k = true) : P.underlying t = some (.slice e) ∧ ∃ i, P.info? e = some i ∧ i.size = k := by
  unfold sliceOk at h
  simp only [Bool.and_eq_true] at h
  obtain ⟨h1, h2⟩ := h
  split at h1
  · rename_i e' hu
    simp only [beq_iff_eq] at h1; subst h1
    split at h2
    · rename_i i hi; exact ⟨hu, i, hi, by simpa using h2⟩
    · cases h2
  · cases h1

section
variable {P : Program} {c : Ctx} {st : St} {ops : Array Oper} {Q : Exit → Act → World → Prop} {rest : List Oper} {o : Oper}

theorem Inv.ptr {E : Env} {a : Act} {w : World} (hi : Inv c E st a w) {x : Operand} {id off : Nat} (hx : st.ev x = .ptr id off) : a.eval x = .pointer (some ⟨E.ρ id, off, none⟩) := by
  have h := hi.ev x; rw [hx] at h; exact h.ptr_inv

/-! ### addresses -/
theorem Yields.fieldP {s : TypeId} {x : Operand} {f fo id off : Nat} (ho : o.op = .fieldAddr s x f) (hx : st.ev x = .ptr id off) (hf : fieldOk P s f fo = true) : Yields P c st o (.ptr id (off + fo)) :=
  fun E a w hi => ⟨_, by simp only [execOp, ho, hi.ptr hx, run_fieldAt hf, Sem.run_bind, Result.andThen_ok, Sem.run_pure], .ptr rfl⟩
theorem Yields.fieldE {s : TypeId} {x : Operand} {f fo : Nat} {cs : List IV} (ho : o.op = .fieldAddr s x f) (hx : st.ev x = .el cs) (hf : fieldOk P s f fo = true) : Yields P c st o (.el (cs.drop fo)) :=
  fun E a w hi => by
    have h := hi.ev x; rw [hx] at h
    generalize hq : a.eval x = u at h
    cases h with
    | @el _ b o' g hc hr =>
      refine ⟨.pointer (some ⟨b, o' + fo, none⟩), by simp only [execOp, ho, hq, run_fieldAt hf, Sem.run_bind, Result.andThen_ok, Sem.run_pure], .el (fun j => g (fo + j)) (fun j x hx => ?_) (fun j x hx => ?_)⟩
      · have := hc (fo + j) x (by rw [List.getElem?_drop] at hx; exact hx)
        rw [Nat.add_assoc]; exact this
      · exact hr (fo + j) x (by rw [List.getElem?_drop] at hx; exact hx)

theorem RepI.sl_inv {φ : Nat → Nat} {w : World} {es : List (List IV)} {u : Value} (h : RepI φ w (.sl es) u) :
    (u = .slice none 0 0 ∧ es = []) ∨ (∃ (ad : Addr) (cap : Nat), u = .slice (some ad) 0 cap ∧ ad.spot ≠ none ∧ cap ≤ maxLen ∧ es = []) ∨ ∃ (b o cap k : Nat) (f : Nat → Nat → Value), u = .slice (some ⟨b, o, none⟩) es.length cap ∧ es.length ≤ cap ∧ cap ≤ maxLen ∧ (∀ (i : Nat) (e : List IV), es[i]? = some e → e.length = k) ∧
      (∀ (i : Nat) (e : List IV) (j : Nat) (x : IV), es[i]? = some e → e[j]? = some x → o + i * k + j < φ b ∧ w.cell? ⟨b, o + i * k + j, none⟩ = some (f i j) ∧ RepI φ w x (f i j)) := by
  cases h with
  | @emp a cap hn hm => cases a with
    | none => obtain rfl := hn rfl; exact .inl ⟨rfl, rfl⟩
    | some ad =>
      by_cases hs : ad.spot = none
      · obtain ⟨b, o, spot⟩ := ad
        simp only at hs; subst hs
        exact .inr (.inr ⟨b, o, cap, 0, fun _ _ => undef, rfl, Nat.zero_le _, hm, fun i e h => by simp at h, fun i e j x h => by simp at h⟩)
      · exact .inr (.inl ⟨ad, cap, rfl, hs, hm, rfl⟩)
  | sl f hc hm hk hφ hcell hrep => exact .inr <| .inr ⟨_, _, _, _, f, rfl, hc, hm, hk, fun i e j x h1 h2 => ⟨hφ i e j x h1 h2, hcell i e j x h1 h2, hrep i e j x h1 h2⟩⟩

/-- as a published slice -/
def AV.sl? : AV → Option (List (List IV))
  | .iv (.sl es) => some es
  | .row _ es => some es
  | .nils => some []
  | _ => none
theorem RepA.sl {E : Env} {w : World} {v : AV} {u : Value} {es : List (List IV)} (h : RepA E w v u) (hv : v.sl? = some es) : RepI E.φ w (.sl es) u := by
  cases v <;> simp only [AV.sl?] at hv <;> try (cases hv; done)
  · rename_i x
    cases x with
    | im _ => simp at hv
    | sl _ => simp at hv; subst hv; exact h.iv_inv
  · simp at hv; subst hv; cases h; exact .nil
  · simp at hv; subst hv; cases h with | row hu h => exact h

theorem Yields.indexAddr {t e : TypeId} {x i : Operand} {k : Nat} {kd : IntKind} {n : Int} {es : List (List IV)} {cs : List IV} (ho : o.op = .indexAddr t x i) (hs : sliceOk P t e k = true) (hx : (st.ev x).sl? = some es)
    (hn : st.ev i = .iv (.im (.int kd n))) (h0 : 0 ≤ n) (hc : es[n.toNat]? = some cs) (hl : cs.length = k) : Yields P c st o (.el cs) :=
  fun E a w hi => by
    obtain ⟨hu, inf, hinf, hsz⟩ := sliceOk_run hs
    have hlt := (List.getElem?_eq_some_iff.1 hc).1
    rcases ((hi.ev x).sl hx).sl_inv with ⟨_, rfl⟩ | ⟨_, _, _, _, _, rfl⟩ | ⟨b, o', cap, k', f, hq, _, _, hk, hcell⟩
    · simp at hlt
    · simp at hlt
    · have hk' : k' = k := by rw [← hk _ _ hc, hl]
      subst hk'
      have hb : n < (es.length : Int) := by omega
      refine ⟨.pointer (some ⟨b, o' + n.toNat * k', none⟩), ?_, .el (fun j => f n.toNat j) (fun j x hx => ⟨(hcell _ _ _ _ hc hx).1, (hcell _ _ _ _ hc hx).2.1⟩) (fun j x hx => (hcell _ _ _ _ hc hx).2.2)⟩
      simp [execOp, ho, hq, hi.im hn, Instr.indexAt, asIntOf, run_underlying hu, h0, hb, sizeOf, typeInfo, hinf, hsz, Addr.add_none]

theorem Yields.lenSl {t e : TypeId} {x : Operand} {k : Nat} {es : List (List IV)} (ho : o.op = .call { callee := .builtin .len, args := #[x], argTypes := #[t] }) (hs : sliceOk P t e k = true) (hx : (st.ev x).sl? = some es) :
    Yields P c st o (aI es.length) :=
  .im rfl fun E a w hi => by
    obtain ⟨hu, _⟩ := sliceOk_run hs
    rcases ((hi.ev x).sl hx).sl_inv with ⟨hq, rfl⟩ | ⟨_, _, hq, _, _, rfl⟩ | ⟨b, o', cap, k', f, hq, _⟩
    · simp [execOp, ho, resolve, invoke, builtin, hq, Builtin.len_, run_underlying hu, goInt]
    · simp [execOp, ho, resolve, invoke, builtin, hq, Builtin.len_, run_underlying hu, goInt]
    · simp [execOp, ho, resolve, invoke, builtin, hq, Builtin.len_, run_underlying hu, goInt]

/-! ### loads -/
theorem Inv.boxCell {E : Env} {a : Act} {w : World} (hi : Inv c E st a w) {id : Nat} {b : Box} (hb : st.bx.lookup id = some b) :
    ∃ arr : List Value, w.heap[E.ρ id]? = some (.cells arr.toArray b.ty (0, 0)) ∧ RelL E w b.cs arr ∧ (∀ u ∈ arr, u.oneCell' = true) ∧ ∀ j, w.cell? ⟨E.ρ id, j, none⟩ = arr[j]? := by
  obtain ⟨_, arr, ha, hl, h1, hr⟩ := hi.heap.box id b hb
  exact ⟨arr, ha, ⟨hl, hr⟩, h1, fun j => by rw [cell_of_row w _ j _ _ _ ha]; simp⟩

theorem Yields.load1P {t : TypeId} {x : Operand} {id off : Nat} {b : Box} {v : AV} (ho : o.op = .load t x) (ht : varOk P t false 1 = true) (hx : st.ev x = .ptr id off) (hb : st.bx.lookup id = some b) (hv : b.cs[off]? = some v) : Yields P c st o v :=
  fun E a w hi => by
    obtain ⟨arr, _, hr, _, hc⟩ := hi.boxCell hb
    have hlt : off < arr.length := by rw [hr.1]; exact (List.getElem?_eq_some_iff.1 hv).1
    have hcell : w.cell? ⟨E.ρ id, off, none⟩ = some arr[off] := by rw [hc off]; exact List.getElem?_eq_getElem hlt
    refine ⟨arr[off], ?_, hr.2 off v _ hv (List.getElem?_eq_getElem hlt)⟩
    simp [execOp, ho, hi.ptr hx, Instr.loadAt, Instr.sureAddr, loadVar, (varOk_agg ht w).1, hcell]
theorem Yields.loadAP {t : TypeId} {x : Operand} {id off k : Nat} {b : Box} (ho : o.op = .load t x) (ht : varOk P t true k = true) (hx : st.ev x = .ptr id off) (hb : st.bx.lookup id = some b) (hk : ((b.cs.drop off).take k).length = k) :
    Yields P c st o (.agg ((b.cs.drop off).take k)) :=
  fun E a w hi => by
    obtain ⟨arr, _, hr, h1, hc⟩ := hi.boxCell hb
    have hr' := (hr.drop off).take k
    have hl : ((arr.drop off).take k).length = k := by rw [hr'.1, hk]
    have hrun : (loadCells ⟨E.ρ id, off, none⟩ ((arr.drop off).take k).length).run P w = .ok ((arr.drop off).take k).toArray w :=
      run_loadCells_list w _ _ (fun j v hv => by
        rw [Addr.add_none, hc]
        rw [List.getElem?_take] at hv
        split at hv
        · simpa [List.getElem?_drop] using hv
        · cases hv)
    rw [hl] at hrun
    refine ⟨.agg ((arr.drop off).take k).toArray, ?_, hr'.agg (fun u hu => h1 u (List.mem_of_mem_drop (List.mem_of_mem_take hu)))⟩
    simp [execOp, ho, hi.ptr hx, Instr.loadAt, Instr.sureAddr, loadVar, (varOk_agg ht w).1, (varOk_agg ht w).2, hrun]
theorem Yields.load1E {t : TypeId} {x : Operand} {y : IV} {cs : List IV} (ho : o.op = .load t x) (ht : varOk P t false 1 = true) (hx : st.ev x = .el cs) (hy : cs[0]? = some y) : Yields P c st o (.iv y) :=
  fun E a w hi => by
    have h := hi.ev x; rw [hx] at h
    generalize hq : a.eval x = u at h
    cases h with
    | @el _ b o' g hc hr =>
      have h0 := (hc 0 y hy).2
      simp only [Nat.add_zero] at h0
      refine ⟨g 0, ?_, .iv (hr 0 y hy)⟩
      simp [execOp, ho, hq, Instr.loadAt, Instr.sureAddr, loadVar, (varOk_agg ht w).1, h0]
theorem Yields.loadAE {t : TypeId} {x : Operand} {k : Nat} {cs : List IV} (ho : o.op = .load t x) (ht : varOk P t true k = true) (hx : st.ev x = .el cs) (hk : (cs.take k).length = k) : Yields P c st o (.agg ((cs.take k).map .iv)) :=
  fun E a w hi => by
    have h := hi.ev x; rw [hx] at h
    generalize hq : a.eval x = u at h
    cases h with
    | @el _ b o' g hc hr =>
      have hlen : k ≤ cs.length := by rw [List.length_take] at hk; omega
      have hrun : (loadCells ⟨b, o', none⟩ k).run P w = .ok ((List.range k).map g).toArray w :=
        run_loadCells w _ k g (fun j hj => by rw [Addr.add_none]; exact (hc j cs[j] (List.getElem?_eq_getElem (by omega))).2)
      refine ⟨.agg ((List.range k).map g).toArray, ?_, .agg (by simp; omega) (fun u hu => ?_) (fun i c u hc' hu => ?_)⟩
      · simp [execOp, ho, hq, Instr.loadAt, Instr.sureAddr, loadVar, (varOk_agg ht w).1, (varOk_agg ht w).2, hrun]
      · simp only [List.mem_map, List.mem_range] at hu
        obtain ⟨j, hj, rfl⟩ := hu
        exact (hr j cs[j] (List.getElem?_eq_getElem (by omega))).oneCell
      · simp only [List.getElem?_map, List.getElem?_take] at hc'
        simp only [List.getElem?_map] at hu
        split at hc'
        · rename_i hik
          rw [List.getElem?_range hik] at hu
          simp at hu; subst hu
          cases hci : cs[i]? with
          | none => rw [hci] at hc'; simp at hc'
          | some y => rw [hci] at hc'; simp at hc'; subst hc'; exact .iv (hr i y hci)
        · simp at hc'

theorem Yields.extract {x : Operand} {i : Nat} {vs : List AV} {v : AV} (ho : o.op = .extract x i) (hx : st.ev x = .tup vs) (hv : vs[i]? = some v) : Yields P c st o v :=
  fun E a w hi => by
    have h := hi.ev x; rw [hx] at h
    obtain ⟨us, hq, hr⟩ := h.tup_inv
    have hlt : i < us.length := by rw [hr.1]; exact (List.getElem?_eq_some_iff.1 hv).1
    exact ⟨us[i], by simp [execOp, ho, hq, Instr.extract, List.getElem?_eq_getElem hlt], hr.2 i v _ hv (List.getElem?_eq_getElem hlt)⟩

theorem Yields.nilCheckP {x : Operand} {id off : Nat} (ho : o.op = .nilCheck x) (hx : st.ev x = .ptr id off) : Yields P c st o (.ptr id off) :=
  fun E a w hi => ⟨_, by simp [execOp, ho, hi.ptr hx], .ptr rfl⟩
theorem Yields.nilCheckE {x : Operand} {cs : List IV} (ho : o.op = .nilCheck x) (hx : st.ev x = .el cs) : Yields P c st o (.el cs) :=
  fun E a w hi => by
    have h := hi.ev x; rw [hx] at h
    generalize hq : a.eval x = u at h
    cases h with
    | el g hc hr => exact ⟨_, by simp [execOp, ho, hq], .el g hc hr⟩
end
end Go.Abs
