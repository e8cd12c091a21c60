/- A logic of abstract states, part 6: struct and slice literals, stores, append, slices of slices. Conditions: each rule's own premises; over any program. -/
import Derived.Test.YtanlhpdjgelehaaDoorA5
namespace Go.Abs
open Go.RowKit (Below)
set_option linter.unusedVariables false

def setA (cs : List AV) (off : Nat) (vs : List AV) : List AV := cs.take off ++ (vs ++ cs.drop (off + vs.length))
def fillA (place : Nat → Option (Nat × Nat)) : List AV → List (Nat × AV) → Option (List AV)
  | cs, [] => some cs
  | cs, (i, v) :: r =>
    match place i with
    | none => none
    | some (off, size) => if v.lays && v.cells.length == size && off + size ≤ cs.length then fillA place (setA cs off v.cells) r else none

theorem foldl_set (off : Nat) : ∀ (vs : List Value) (k : Nat) (arr : Array Value), off + k + vs.length ≤ arr.size →
    ((vs.zipIdx k).foldl (fun cs (p : Value × Nat) => cs.setIfInBounds (off + p.2) p.1) arr).toList = arr.toList.take (off + k) ++ (vs ++ arr.toList.drop (off + k + vs.length))
  | [], k, arr, h => by simp
  | v :: vs, k, arr, h => by
    simp only [List.length_cons] at h
    simp only [List.zipIdx_cons, List.foldl_cons]
    rw [foldl_set off vs (k + 1) _ (by simp; omega)]
    apply List.ext_getElem?
    intro i
    simp only [Array.toList_setIfInBounds, List.length_cons, List.getElem?_append, List.length_take, List.length_set, Array.length_toList, List.getElem?_take, List.getElem?_set, List.getElem?_drop]
    by_cases h1 : i < off + k
    · have e1 : i < min (off + (k + 1)) arr.size := by omega
      have e2 : i < min (off + k) arr.size := by omega
      simp only [e1, e2, if_true]
      rw [if_pos (by omega), if_neg (by omega), if_pos h1]
    · by_cases h2 : i = off + k
      · subst h2
        have e1 : off + k < min (off + (k + 1)) arr.size := by omega
        have e2 : ¬ off + k < min (off + k) arr.size := by omega
        simp only [e1, e2, if_true, if_false]
        rw [if_pos (by omega)]
        have e3 : off + k - min (off + k) arr.size = 0 := by omega
        have e4 : off + k < arr.size := by omega
        simp [e3, e4]
      · have e1 : ¬ i < min (off + (k + 1)) arr.size := by omega
        have e2 : ¬ i < min (off + k) arr.size := by omega
        simp only [e1, e2, if_false]
        have e3 : i - min (off + k) arr.size = (i - min (off + (k + 1)) arr.size) + 1 := by omega
        rw [e3]
        simp only [List.getElem?_cons_succ, Nat.add_lt_add_iff_right]
        split
        · rfl
        · rw [if_neg (by omega)]
          congr 1
          omega

theorem fill_rel {E : Env} {w : World} {place : Nat → Option (Nat × Nat)} : ∀ (parts : List (Nat × AV)) (pv : List (Nat × Value)) (cs cs' : List AV) (arr : Array Value),
    RelL E w cs arr.toList → (∀ u ∈ arr.toList, u.oneCell' = true) → pv.length = parts.length → (∀ (n : Nat) (p : Nat × AV) (q : Nat × Value), parts[n]? = some p → pv[n]? = some q → q.1 = p.1 ∧ RepA E w p.2 q.2) →
    fillA place cs parts = some cs' → ∃ arr' : Array Value, Instr.fill place arr pv = some arr' ∧ RelL E w cs' arr'.toList ∧ ∀ u ∈ arr'.toList, u.oneCell' = true
  | [], pv, cs, cs', arr, hr, h1, hl, hp, hf => by
    simp [fillA] at hf; subst hf
    have : pv = [] := List.eq_nil_of_length_eq_zero (by simpa using hl)
    subst this
    exact ⟨arr, rfl, hr, h1⟩
  | (i, v) :: parts, pv, cs, cs', arr, hr, h1, hl, hp, hf => by
    match pv, hl with
    | (i', u) :: pv, hl =>
      obtain ⟨he, hv⟩ := hp 0 (i, v) (i', u) rfl rfl
      simp only at he hv
      subst he
      simp only [fillA] at hf
      cases hpl : place i' with
      | none => rw [hpl] at hf; simp at hf
      | some q =>
        obtain ⟨off, size⟩ := q
        rw [hpl] at hf
        simp only at hf
        split at hf
        · rename_i hc
          simp only [Bool.and_eq_true, beq_iff_eq, decide_eq_true_eq] at hc
          obtain ⟨⟨hlay, hsz⟩, hle⟩ := hc
          obtain ⟨hrv, h1v⟩ := hv.lay hlay
          have hul : u.cells.toList.length = size := by rw [hrv.1, hsz]
          have hal : arr.size = cs.length := by rw [← hr.1]; simp
          have hus : u.cells.size = size := by simpa using hul
          have hfold : (u.cells.zipIdx.foldl (fun cs (x : Value × Nat) => cs.setIfInBounds (off + x.2) x.1) arr).toList = arr.toList.take off ++ (u.cells.toList ++ arr.toList.drop (off + u.cells.toList.length)) := by
            rw [← Array.foldl_toList]
            have := foldl_set off u.cells.toList 0 arr (by rw [hul]; omega)
            simpa using this
          have hnew : RelL E w (setA cs off v.cells) (u.cells.zipIdx.foldl (fun cs (x : Value × Nat) => cs.setIfInBounds (off + x.2) x.1) arr).toList := by
            rw [hfold]
            unfold setA
            have := (hr.take off).append (hrv.append (hr.drop (off + v.cells.length)))
            rw [hsz] at this ⊢
            rw [hul]; exact this
          have hnew1 : ∀ x ∈ (u.cells.zipIdx.foldl (fun cs (x : Value × Nat) => cs.setIfInBounds (off + x.2) x.1) arr).toList, x.oneCell' = true := by
            rw [hfold]
            intro x hx
            rcases List.mem_append.1 hx with hx | hx
            · exact h1 x (List.mem_of_mem_take hx)
            · rcases List.mem_append.1 hx with hx | hx
              · exact h1v x hx
              · exact h1 x (List.mem_of_mem_drop hx)
          obtain ⟨arr', ha, hb, hc⟩ := fill_rel parts pv _ cs' _ hnew hnew1 (by simpa using hl) (fun n p q h2 h3 => hp (n + 1) p q (by simpa using h2) (by simpa using h3)) hf
          refine ⟨arr', ?_, hb, hc⟩
          simp only [Instr.fill, hpl]
          rw [if_neg (by simp [hus]; omega)]
          exact ha
        · cases hf

def placesOf (P : Program) (t : TypeId) : Option (List (Nat × Nat)) :=
  match P.underlying t with
  | some (.struct fs) => fs.toList.mapM (fun f => (P.info? f.type).map fun i => (f.offset, i.size))
  | _ => none
def zeroCellsOf (P : Program) (t : TypeId) : Option (List Value) := ((P.info? t).bind (·.zero)).map (·.cells.toList)

section
variable {P : Program} {c : Ctx} {st : St} {ops : Array Oper} {Q : Exit → Act → World → Prop} {rest : List Oper} {o : Oper}

theorem parts_rep {E : Env} {a : Act} {w : World} (hi : Inv c E st a w) (parts : Array (Nat × Operand)) (n : Nat) (p : Nat × AV) (q : Nat × Value)
    (h1 : (parts.toList.map fun x => (x.1, st.ev x.2))[n]? = some p) (h2 : (parts.map fun (i, x) => (i, a.eval x)).toList[n]? = some q) : q.1 = p.1 ∧ RepA E w p.2 q.2 := by
  simp only [List.getElem?_map, Array.toList_map] at h1 h2
  cases hx : parts.toList[n]? with
  | none => rw [hx] at h1; simp at h1
  | some x =>
    rw [hx] at h1 h2
    simp at h1 h2
    subst h1; subst h2
    exact ⟨rfl, hi.ev x.2⟩

theorem Yields.build {t : TypeId} {parts : Array (Nat × Operand)} {zs : List Value} {pl : List (Nat × Nat)} {cs : List AV} (ho : o.op = .build t parts) (hz : zeroCellsOf P t = some zs) (h1 : zs.all (·.oneCell') = true)
    (hp : placesOf P t = some pl) (hf : fillA (pl[·]?) (zs.map constCell) (parts.toList.map fun x => (x.1, st.ev x.2)) = some cs) : Yields P c st o (.agg cs) := fun E a w hi => by
  obtain ⟨arr, ha, hr, h1'⟩ := fill_rel (E := E) (w := w) _ (parts.map fun (i, x) => (i, a.eval x)).toList _ _ zs.toArray (by simpa using RelL.consts E w zs h1) (by simpa using List.all_eq_true.1 h1)
    (by simp) (fun n p q => parts_rep hi parts n p q) hf
  have hb : P.built t (parts.map fun (i, x) => (i, a.eval x)).toList = some arr := by
    unfold placesOf at hp
    unfold zeroCellsOf at hz
    split at hp
    · rename_i fs hu
      unfold Program.built
      cases hi' : P.info? t with
      | none => simp [hi'] at hz
      | some i =>
        simp only [hi', Option.bind_some, Option.map_eq_some_iff] at hz
        obtain ⟨z, hz1, hz2⟩ := hz
        simp only [hu, hz1, hp]
        have e1 : z.cells = zs.toArray := by rw [← hz2]
        rw [e1, ← ha]
        congr 1
        funext i
        simp
    · cases hp
  refine ⟨.agg arr, by simp only [execOp, ho, run_build w t _ _ hb, Sem.run_bind, Result.andThen_ok, Sem.run_pure], ?_⟩
  have := hr.agg h1'
  simpa using this

/-- as contents that can be published -/
def AV.toI : AV → Option IV
  | .iv x => some x
  | .nils => some (.sl [])
  | .row _ es => some (.sl es)
  | _ => none
theorem RepA.toI {E : Env} {w : World} {v : AV} {x : IV} {u : Value} (h : RepA E w v u) (hx : v.toI = some x) : RepI E.φ w x u := by
  cases v <;> simp only [AV.toI] at hx <;> try (cases hx; done)
  · cases hx; exact h.iv_inv
  · cases hx; cases h; exact .nil
  · cases hx; cases h with | row hu h => exact h

def toIs : List AV → Option (List IV)
  | [] => some []
  | v :: vs => match v.toI, toIs vs with
    | some x, some xs => some (x :: xs)
    | _, _ => none
theorem toIs_get : ∀ {vs : List AV} {xs : List IV}, toIs vs = some xs → xs.length = vs.length ∧ ∀ (i : Nat) (v : AV) (x : IV), vs[i]? = some v → xs[i]? = some x → v.toI = some x
  | [], xs, h => by simp [toIs] at h; subst h; exact ⟨rfl, fun i v x h => by simp at h⟩
  | v :: vs, xs, h => by
    simp only [toIs] at h
    split at h
    · rename_i x xs' hx hxs
      cases h
      obtain ⟨hl, hg⟩ := toIs_get hxs
      refine ⟨by simp [hl], fun i v' x' hv hx' => ?_⟩
      cases i with
      | zero => simp at hv hx'; subst hv; subst hx'; exact hx
      | succ i => exact hg i v' x' (by simpa using hv) (by simpa using hx')
    · cases h

def chunks (k : Nat) : Nat → List IV → List (List IV)
  | 0, _ => []
  | n + 1, xs => xs.take k :: chunks k n (xs.drop k)
theorem chunks_get (k : Nat) : ∀ (n : Nat) (xs : List IV) (i : Nat) (e : List IV), (chunks k n xs)[i]? = some e → e = (xs.drop (i * k)).take k
  | 0, xs, i, e, h => by simp [chunks] at h
  | n + 1, xs, 0, e, h => by simp [chunks] at h; simp [h]
  | n + 1, xs, i + 1, e, h => by
    have := chunks_get k n (xs.drop k) i e (by simpa [chunks] using h)
    rw [this, List.drop_drop, Nat.add_mul, Nat.one_mul, Nat.add_comm k]
theorem chunks_length (k : Nat) : ∀ (n : Nat) (xs : List IV), (chunks k n xs).length = n
  | 0, _ => rfl
  | n + 1, xs => by simp [chunks, chunks_length]

theorem Makes.buildSlice {t e : TypeId} {n k id : Nat} {parts : Array (Nat × Operand)} {zs : List Value} {cs : List AV} {xs : List IV} (ho : o.op = .buildSlice t n parts) (hs : sliceOk P t e k = true)
    (hz : zeroCellsOf P e = some zs) (h1 : zs.all (·.oneCell') = true) (hzl : zs.length = k) (hn : n * k ≤ 16777216) (hnk : 0 < k)
    (hf : fillA (fun i => some (i * k, k)) ((List.range (n * k)).map fun i => constCell (zs.getD (i % k) undef)) (parts.toList.map fun x => (x.1, st.ev x.2)) = some cs)
    (hx : toIs cs = some xs) (hcl : cs.length = n * k) (hfr : st.fresh id = true) : Makes P c st o (.row id (chunks k n xs)) st.bx ((id, ⟨e, k⟩) :: st.tk) := fun E a w hi => by
  obtain ⟨hu, inf, hinf, hsz⟩ := sliceOk_run hs
  have hz0 : ∃ z, inf.zero = some z ∧ z.cells = zs.toArray := by
    unfold zeroCellsOf at hz
    simp only [hinf, Option.bind_some, Option.map_eq_some_iff] at hz
    obtain ⟨z, hz1, hz2⟩ := hz
    exact ⟨z, hz1, by rw [← hz2]⟩
  obtain ⟨z, hz1, hz2⟩ := hz0
  have hget : ∀ i, i < n * k → zs.toArray[i % zs.toArray.size]! = zs.getD (i % k) undef := fun i hi => by
    have : i % k < zs.length := by rw [hzl]; exact Nat.mod_lt _ hnk
    simp [hzl]
    rw [List.getElem?_eq_getElem this]; rfl
  have hinit : ((Array.range (n * k)).map (zs.toArray[· % zs.toArray.size]!)) = ((List.range (n * k)).map fun i => zs.getD (i % k) undef).toArray := by
    apply Array.ext'
    simp only [Array.toList_map, Array.toList_range]
    exact List.map_congr_left (fun i hi => hget i (List.mem_range.1 hi))
  have hone : ∀ i, i < n * k → (zs.getD (i % k) undef).oneCell' = true := fun i hi => by
    have hlt : i % k < zs.length := by rw [hzl]; exact Nat.mod_lt _ hnk
    have : zs.getD (i % k) undef = zs[i % k] := by simp [hlt]
    rw [this]; exact List.all_eq_true.1 h1 _ (List.getElem_mem hlt)
  have hrel : RelL E w ((List.range (n * k)).map fun i => constCell (zs.getD (i % k) undef)) ((List.range (n * k)).map fun i => zs.getD (i % k) undef) := by
    refine ⟨by simp, fun i c u hc hu => ?_⟩
    simp only [List.getElem?_map] at hc hu
    cases hr : (List.range (n * k))[i]? with
    | none => rw [hr] at hc; simp at hc
    | some j =>
      rw [hr] at hc hu
      simp only [Option.map_some, Option.some.injEq] at hc hu
      subst hc; subst hu
      exact constCell_rep E w _ (hone j (List.mem_range.1 (List.mem_of_getElem? hr)))
  obtain ⟨arr, ha, hr, h1'⟩ := fill_rel (E := E) (w := w) _ (parts.map fun (i, x) => (i, a.eval x)).toList _ _ ((List.range (n * k)).map fun i => zs.getD (i % k) undef).toArray (by simpa using hrel)
    (fun u hu => by
      simp only [List.mem_map, List.mem_range] at hu
      obtain ⟨i, hi', rfl⟩ := hu
      exact hone i hi')
    (by simp) (fun n p q => parts_rep hi parts n p q) hf
  obtain ⟨hxl, hxg⟩ := toIs_get hx
  have hlen : ∀ (i : Nat) (e' : List IV), (chunks k n xs)[i]? = some e' → e'.length = k := fun i e' he => by
    have hlt := (List.getElem?_eq_some_iff.1 he).1
    rw [chunks_length] at hlt
    rw [chunks_get k n xs i e' he]
    simp only [List.length_take, List.length_drop, hxl, hcl]
    have : (i + 1) * k ≤ n * k := Nat.mul_le_mul_right k hlt
    rw [Nat.add_mul, Nat.one_mul] at this
    omega
  obtain ⟨E', hi', hv⟩ := hi.newRow hfr (ty := e) (k := k) (cap := n) (es := chunks k n xs) (us := arr.toList) hlen (by rw [hr.1, hcl]) (by rw [chunks_length]; exact Nat.le_refl _) (by have : n ≤ n * k := Nat.le_mul_of_pos_right n hnk; simp only [maxLen]; omega)
    (fun i e' j x u he hj hu => by
      rw [chunks_get k n xs i e' he] at hj
      rw [List.getElem?_take] at hj
      split at hj
      · rw [List.getElem?_drop] at hj
        have hlt : i * k + j < cs.length := by rw [← hxl]; exact (List.getElem?_eq_some_iff.1 hj).1
        exact (hr.2 _ _ u (List.getElem?_eq_getElem hlt) hu).toI (hxg _ _ x (List.getElem?_eq_getElem hlt) hj)
      · cases hj)
  rw [chunks_length] at hv
  refine ⟨_, E', _, ?_, hi', hv⟩
  have hbig : ¬ (n * k > 2 ^ 24) := by omega
  have hfill : Instr.fill (fun i => some (i * k, k)) ((Array.range (n * k)).map (zs.toArray[· % zs.toArray.size]!)) (parts.map fun (i, x) => (i, a.eval x)).toList = some arr := by rw [hinit]; exact ha
  have hat : arr.toList.toArray = arr := by simp
  rw [hat]
  by_cases h0 : n * k = 0
  · have : n = 0 := by
      rcases Nat.mul_eq_zero.1 h0 with h | h
      · exact h
      · omega
    subst this
    have e0 : Array.range 0 = #[] := rfl
    have hfill' : Instr.fill (fun i => some (i * k, k)) #[] (parts.map fun (i, x) => (i, a.eval x)).toList = some arr := by simpa [e0] using hfill
    simp only [Array.toList_map] at hfill'
    simp [execOp, ho, Instr.buildSlice, run_underlying hu, sizeOf, typeInfo, hinf, hsz, newRow, e0, hfill']
  · simp only [execOp, ho, Instr.buildSlice, Sem.run_bind, run_underlying hu, sizeOf, typeInfo, zeroValue, run_program, hinf, hsz, hz1, hz2, Result.andThen_ok, Sem.run_pure, hbig, h0, if_false, hfill, newRow, run_newObj, Sem.run_ite]
    rfl
end
end Go.Abs
