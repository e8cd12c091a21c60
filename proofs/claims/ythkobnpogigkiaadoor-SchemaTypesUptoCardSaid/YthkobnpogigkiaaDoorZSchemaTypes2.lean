/- Several texts in one, each with its own sentence ahead of it. Conditions: each one says its own. -/
import Derived.Test.YthkobnpogigkiaaDoorZSchemaTypes1
import Derived.Laws.StructEq
import Derived.Laws.Slices
import Derived.Laws.Strings2
import Derived.Laws.BytesString
import Derived.Laws.Externs
import Derived.Lib.Bytealg
import Derived.Laws.Small
import Derived.Laws.Cover3
import Derived.Lib.AppendZerosOnto
import Derived.Lib.Overlaps
/- A logic of abstract states, part 10: the rules for calls, entering, returning, branches, loops. Conditions: each rule's own premises; over any program. -/
namespace Go.Abs
open Go.RowKit (Below)
set_option linter.unusedVariables false
def callOk (P : Program) (f : FuncId) : Bool :=
  match P.funcs[f]? with
  | some fn => fn.body.isSome && !(fn.name == "runtime.NumGoroutine")
  | none => false
theorem run_callOk {P : Program} {f : FuncId} (h : callOk P f = true) (args : Array Value) (w : World) : (callFunc f args).run P w = .ok (.enter f args) w := by
  unfold callOk at h
  split at h
  · rename_i fn hf
    simp only [Bool.and_eq_true, Bool.not_eq_true', beq_eq_false_iff_ne] at h
    obtain ⟨h1, h2⟩ := h
    have h3 : ¬ fn.body = none := fun e => by rw [e] at h1; cases h1
    simp [callFunc, hf, h2, h3]
  · cases h
theorem Subs.of_pub {l l' : List AV} (h : AV.pub.pubs l = l') : Subs l l' := h ▸ Subs.pubs l
theorem RelL.sub {E : Env} {w : World} {l l' : List AV} {us : List Value} (h : RelL E w l us) (hs : Subs l l') : RelL E w l' us :=
  ⟨by rw [h.1, hs.1], fun i c u hc hu => by
    have hi : i < l.length := by
      have := (List.getElem?_eq_some_iff.1 hc).1
      rw [hs.1] at this; exact this
    exact hs.2 i _ _ (List.getElem?_eq_getElem hi) hc E w u (h.2 i _ u (List.getElem?_eq_getElem hi) hu)⟩
def boOk (N : List Nat) (bxi bxo : List (Nat × Box)) : Bool := bxi.all (fun p => !p.2.cs.isEmpty) && (keys bxo).all (fun id => N.contains id || (keys bxi).contains id)
theorem boOk_keys {N : List Nat} {bxi bxo : List (Nat × Box)} (h : boOk N bxi bxo = true) {id : Nat} (hid : id ∈ keys bxo) : id ∈ N ∨ id ∈ keys bxi := by
  simp only [boOk, Bool.and_eq_true] at h
  have := List.all_eq_true.1 h.2 id hid; simpa using this
theorem boOk_live {N : List Nat} {bxi bxo : List (Nat × Box)} (h : boOk N bxi bxo = true) {id : Nat} {b : Box} (hb : bxi.lookup id = some b) : b.cs ≠ [] := by
  simp only [boOk, Bool.and_eq_true] at h
  have := List.all_eq_true.1 h.1 _ (lookup_mem hb)
  intro e; simp [e] at this
section
variable {P : Program} {c : Ctx} {st : St} {ops : Array Oper} {Q : Exit → Act → World → Prop} {rest : List Oper} {o : Oper}
theorem Inv.evs {E : Env} {a : Act} {w : World} (hi : Inv c E st a w) (args : Array Operand) : RelL E w (args.toList.map st.ev) (args.toList.map a.eval) :=
  ⟨by simp, fun i x u hx hu => by
    simp only [List.getElem?_map] at hx hu
    cases hq : args.toList[i]? with
    | none => rw [hq] at hx; simp at hx
    | some y => rw [hq] at hx hu; simp at hx hu; subst hx; subst hu; exact hi.ev y⟩
theorem HInv.hand {E : Env} {w : World} (h : HInv c E st.bx st.tk w) {bxi : List (Nat × Box)} (hb : WkB st.bx bxi) : HInv ⟨0, w, E, keys bxi⟩ E bxi [] w where
  box id b hl hn := by obtain ⟨b0, h0, ht, hs⟩ := hb.get id b hl; exact (h.box id b0 h0 (hs.ne hn)).sub ht hs
  tok id t hl := by simp at hl
  bb i j b b' hi hj hn hn' he := by
    obtain ⟨b0, h0, _, hs⟩ := hb.get i b hi
    obtain ⟨b1, h1, _, hs'⟩ := hb.get j b' hj
    exact h.bb i j b0 b1 h0 h1 (hs.ne hn) (hs'.ne hn') he
  tt i j t t' g hi := by simp at hi
  bt i j b t hi hn hj := by simp at hj
  own i b hi hn := by
    obtain ⟨b0, h0, _, hs⟩ := hb.get i b hi
    exact .inr ⟨i, keys_mem hi, rfl, (h.box i b0 h0 (hs.ne hn)).1⟩
  ownt j t g hj := by simp at hj
  new := h.new
  old b _ := rfl
  ins id hid := ⟨rfl, rfl, by obtain ⟨b, hb'⟩ := mem_keys hid; rw [hb']; rfl⟩
  kept := .refl _ _
theorem L.callN (N : List Nat) {f : FuncId} {args : Array Operand} {ats : Array TypeId} {as : List AV} {bxi bxo : List (Nat × Box)} {tko : List (Nat × Tok)} {res : AV} {d : Nat} (hg : o.guard = none) (hd : o.dst = some d) (hlt : Nat.ble (d + 1) c.nt = true)
    (ho : o.op = .call { callee := .value (.func f), args := args, argTypes := ats }) (hok : callOk P f = true) (hc : CallA P f as bxi bxo tko res) (ha : Subs (args.toList.map st.ev) as) (hbi : WkB st.bx bxi)
    (hN : N.all (fun id => st.fresh id) = true) (hbo : boOk N bxi bxo = true) (hto : (keys tko).all (fun id => N.contains id) = true)
    (hmb : bxo.all (fun p => AV.mentsIn (N ++ keys bxi) p.2.cs) = true) (hmr : AV.mentIn (N ++ keys bxi) res = true)
    (h : L c ⟨(d, res) :: st.fr, bxo ++ st.bx, tko ++ st.tk⟩ (wpList P ops Q rest)) : L c st (wpList P ops Q (o :: rest)) := by
  rintro a w ⟨E, hi⟩
  refine wpList_plain hg (fun K hK => ?_)
  have hrun : (execOp a.eval o).run P w = .ok (.enter f (args.map a.eval)) w := by
    simp [execOp, ho, resolve, Deferred.ofValue, Act.eval, invoke, run_callOk hok]
  unfold Oper.wp
  rw [hrun, Oper.upon_enter]
  have hcall := hc E w (args.toList.map a.eval) ((hi.evs args).sub ha) (hi.heap.hand hbi)
  have hargs : (args.toList.map a.eval).toArray = args.map a.eval := by apply Array.ext'; simp
  rw [hargs] at hcall
  refine hcall.mono fun e w' ⟨u, E', he, hu, hh⟩ => ?_
  subst he
  obtain ⟨hj, monoN, monoC⟩ := hi.heap.join hh (N := N) (fun id hid => List.all_eq_true.1 hN id hid) (fun id hid => by
      obtain ⟨b, hb⟩ := mem_keys hid
      obtain ⟨b0, h0, _, hs⟩ := hbi.get id b hb
      exact ⟨b0, h0, hs.ne (boOk_live hbo hb)⟩)
    (fun id hid => boOk_keys hbo hid) (fun id hid => by have := List.all_eq_true.1 hto id hid; simpa using this)
    (fun id b hb => List.all_eq_true.1 hmb _ (lookup_mem hb))
  refine hK _ _ ?_
  rw [hd]
  refine h _ _ ⟨_, Inv.put (st := ⟨st.fr, bxo ++ st.bx, tko ++ st.tk⟩) ⟨hi.defers, hi.size, fun s v hv => monoC v _ (fun id hid => St.fresh_fr (List.all_eq_true.1 hN id hid) hv) (hi.slot s v hv), hj⟩ (Nat.le_of_ble_eq_true hlt) (monoN res u hmr hu)⟩
theorem L.call0 {f : FuncId} {args : Array Operand} {ats : Array TypeId} {as : List AV} {res : AV} {d : Nat} (hg : o.guard = none) (hd : o.dst = some d) (hlt : Nat.ble (d + 1) c.nt = true)
    (ho : o.op = .call { callee := .value (.func f), args := args, argTypes := ats }) (hok : callOk P f = true) (hc : CallA P f as [] [] [] res) (ha : Subs (args.toList.map st.ev) as)
    (hmr : AV.mentIn [] res = true) (h : L c ⟨(d, res) :: st.fr, st.bx, st.tk⟩ (wpList P ops Q rest)) : L c st (wpList P ops Q (o :: rest)) :=
  L.callN [] hg hd hlt ho hok hc ha .nil rfl rfl rfl rfl hmr h
theorem L.region {id : Nat} {l : List Oper} (h : L c st (wpList P l.toArray Q l)) : L c st ((Code.region id l.toArray false).wp P Q) := fun a w hr => wp_region_lit (h a w hr)
theorem L.skip (h : L c st (Q .normal)) : L c st (Code.skip.wp P Q) := fun a w hr => wp_skip (h a w hr)
theorem L.exit {id : Nat} (h : L c st (Q (.exit id))) : L c st ((Code.exit id).wp P Q) := fun a w hr => wp_exit (h a w hr)
theorem L.ret (h : L c st (Q .ret)) : L c st (Code.ret.wp P Q) := fun a w hr => wp_ret (h a w hr)
theorem L.block {id : Nat} {x : Code} (h : L c st (x.wp P (Exit.inBlock id Q))) : L c st ((Code.block id x).wp P Q) := fun a w hr => wp_block (h a w hr)
theorem L.cond {x : Operand} {t : Bool} {y z : Code} (hx : st.ev x = aB t) (ht : t = true → L c st (y.wp P Q)) (hf : t = false → L c st (z.wp P Q)) : L c st ((Code.cond x y z).wp P Q) := fun a w hr => by
  obtain ⟨E, hi⟩ := hr
  exact wp_cond_split (hi.im hx) (fun e => ht e a w ⟨E, hi⟩) (fun e => hf e a w ⟨E, hi⟩)
theorem L.condT {x : Operand} {y z : Code} (hx : st.ev x = aB true) (h : L c st (y.wp P Q)) : L c st ((Code.cond x y z).wp P Q) := L.cond hx (fun _ => h) (fun e => by cases e)
theorem L.condF {x : Operand} {y z : Code} (hx : st.ev x = aB false) (h : L c st (z.wp P Q)) : L c st ((Code.cond x y z).wp P Q) := L.cond hx (fun e => by cases e) (fun _ => h)
theorem L.thenN {K : Act → World → Prop} (h : L c st K) : L c st (Exit.then K Q .normal) := h
theorem L.thenE {K : Act → World → Prop} {id : Nat} (h : L c st (Q (.exit id))) : L c st (Exit.then K Q (.exit id)) := h
theorem L.thenR {K : Act → World → Prop} (h : L c st (Q .ret)) : L c st (Exit.then K Q .ret) := h
theorem L.inN {id : Nat} (h : L c st (Q .normal)) : L c st (Exit.inBlock id Q .normal) := h
theorem L.inR {id : Nat} (h : L c st (Q .ret)) : L c st (Exit.inBlock id Q .ret) := h
theorem L.inE {id : Nat} (h : L c st (Q .normal)) : L c st (Exit.inBlock id Q (.exit id)) := fun a w hr => by simp only [Exit.inBlock, if_true]; exact h a w hr
theorem L.loop {ι : Type} (inv : ι → St) (n : ι → Nat) {i0 : ι} (h0 : Wk c st (inv i0)) {x : Code}
    (h : ∀ i, ∀ K : Act → World → Prop, (∀ st' i', n i' < n i → Wk c st' (inv i') → L c st' K) → L c (inv i) (x.wp P (Exit.then K Q))) : L c st ((Code.loop x).wp P Q) := by
  have key : ∀ (m : Nat) (i : ι), n i = m → ∀ a w, R c (inv i) a w → ∀ (b : Frame) (k : List Item) (cs : List Frame),
      ∃ e a' w', Q e a' w' ∧ Arrives P (lone (b.at a (.code x :: .inLoop x :: k)) cs w) b k cs e a' w' := by
    intro m
    induction m using Nat.strongRecOn with
    | _ m ih =>
      intro i hn a w hr b k cs
      obtain ⟨e, a₁, w₁, hq, harr⟩ := h i (fun a' w' => ∃ i', n i' < n i ∧ R c (inv i') a' w') (fun st' i' hlt hw a' w' hr' => ⟨i', hlt, hr'.wk hw⟩) a w hr b (.inLoop x :: k) cs
      cases e with
      | normal =>
        obtain ⟨i', hlt, hr'⟩ := hq
        obtain ⟨e₂, a₂, w₂, hq₂, harr₂⟩ := ih (n i') (hn ▸ hlt) i' rfl a₁ w₁ hr' b k cs
        exact ⟨e₂, a₂, w₂, hq₂, .of_steps (Steps.trans harr (.one step_inLoop)) harr₂⟩
      | exit id => exact ⟨_, a₁, w₁, hq, .pass (x := .inLoop x) rfl (fun _ _ => .inl (by simp)) harr⟩
      | goto l => exact ⟨_, a₁, w₁, hq, .pass (x := .inLoop x) rfl (fun _ _ => .inl (by simp)) harr⟩
      | ret => exact ⟨_, a₁, w₁, hq, .pass (x := .inLoop x) rfl (fun _ _ => .inl (by simp)) harr⟩
      | panic ch => exact ⟨_, a₁, w₁, hq, .pass (x := .inLoop x) rfl (fun _ _ => .inl (by simp)) harr⟩
      | outgrown => exact ⟨_, a₁, w₁, hq, .pass (x := .inLoop x) rfl (fun _ _ => .inl (by simp)) harr⟩
  intro a w hr b k cs
  obtain ⟨e, a', w', hq, harr⟩ := key _ i0 rfl a w (hr.wk h0) b k cs
  exact ⟨e, a', w', hq, .of_steps (.one step_loop) harr⟩
def enter : Nat → List AV → List (Nat × AV)
  | _, [] => []
  | n, v :: vs => (n, v) :: enter (n + 1) vs
theorem enter_get : ∀ (vs : List AV) (n s : Nat) (v : AV), (enter n vs).lookup s = some v → n ≤ s ∧ vs[s - n]? = some v
  | [], n, s, v, h => by simp [enter] at h
  | x :: vs, n, s, v, h => by
    by_cases e : s = n
    · subst e; simp only [enter, lookup_cons_eq] at h; cases h; simp
    · simp only [enter] at h
      rw [lookup_cons_ne e] at h
      obtain ⟨h1, h2⟩ := enter_get vs (n + 1) s v h
      refine ⟨by omega, ?_⟩
      rw [show s - n = (s - (n + 1)) + 1 by omega]
      simpa using h2
theorem CallA.intro {f : FuncId} {fn : Func} {code : Code} {args : List AV} {bx bx' : List (Nat × Box)} {tk' : List (Nat × Tok)} {res : AV} (nt : Nat) (hf : P.funcs[f]? = some fn) (hb : fn.body = some code) (hnt : fn.ntmps = nt) (hn : Nat.ble args.length nt = true)
    (h : ∀ (w0 : World) (E0 : Env), L ⟨nt, w0, E0, keys bx⟩ ⟨enter 0 args, bx, []⟩ (code.wp P (bodyPost P fn (Post ⟨nt, w0, E0, keys bx⟩ bx' tk' res)))) : CallA P f args bx bx' tk' res := by
  subst hnt
  have hn := Nat.le_of_ble_eq_true hn
  intro E w us hrel hh
  have hl := hrel.1
  refine calls_of_wp (R := Post ⟨fn.ntmps, w, E, keys bx⟩ bx' tk' res) hf hb (h w E _ _ ⟨E, rfl, ?_, fun s v hv => ?_, ?_⟩) |>.mono ?_
  · simp; omega
  · obtain ⟨_, hv'⟩ := enter_get args 0 s v hv
    rw [Nat.sub_zero] at hv'
    have hlt : s < us.length := by rw [hl]; exact (List.getElem?_eq_some_iff.1 hv').1
    have : (us.toArray ++ Array.replicate (fn.ntmps - us.toArray.size) undef).getD s undef = us[s] := by
      simp [Array.getElem?_append, hlt]
    rw [this]
    exact hrel.2 s v _ hv' (List.getElem?_eq_getElem hlt)
  · exact ⟨hh.box, hh.tok, hh.bb, hh.tt, hh.bt, hh.own, hh.ownt, hh.new, hh.old, hh.ins, hh.kept⟩
  · rintro e w' ⟨u, E', he, hu, hh'⟩
    exact ⟨u, E', he, hu, ⟨hh'.box, hh'.tok, hh'.bb, hh'.tt, hh'.bt, hh'.own, hh'.ownt, hh'.new, hh'.old, hh'.ins, hh'.kept⟩⟩
def St.resv (P : Program) (st : St) : ResultVar → Option AV
  | .tmp t => some (st.ev (.tmp t))
  | .cell p ty => match st.ev (.tmp p) with
    | .ptr id 0 => match st.bx.lookup id, P.info? ty, P.underlying ty with
      | some b, some i, some (.struct _) => if i.size ≤ b.cs.length then some (.agg (b.cs.take i.size)) else none
      | _, _, _ => none
    | _ => none
theorem Inv.resv {E : Env} {a : Act} {w : World} (hi : Inv c E st a w) {r : ResultVar} {v : AV} (hv : st.resv P r = some v) :
    ∃ u, ((match r with | .tmp t => pure (a.tmps.getD t undef) | .cell p t => do loadVar t (← asAddr (a.tmps.getD p undef)) : Sem Value).run P w) = .ok u w ∧ RepA E w v u := by
  cases r with
  | tmp t =>
    simp only [St.resv, Option.some.injEq] at hv
    subst hv
    exact ⟨_, rfl, hi.ev (.tmp t)⟩
  | cell p ty =>
    simp only [St.resv] at hv
    split at hv
    · rename_i id hp
      have hq : a.tmps.getD p undef = .pointer (some ⟨E.ρ id, 0, none⟩) := hi.ptr hp
      split at hv
      · rename_i b i fs hb hin hu
        split at hv
        · rename_i hle
          simp only [Option.some.injEq] at hv
          subst hv
          obtain ⟨arr, _, _, hr, h1, _, hc⟩ := hi.boxCell hb
          have hr' := hr.take i.size
          have hl : (arr.take i.size).length = i.size := by rw [List.length_take, hr.1]; omega
          have hrun : (loadCells ⟨E.ρ id, 0, none⟩ (arr.take i.size).length).run P w = .ok (arr.take i.size).toArray w :=
            run_loadCells_list w _ _ (fun j v hv => by
              rw [List.getElem?_take] at hv
              split at hv
              · rw [Addr.add_none, Nat.zero_add, hc _ (List.getElem?_eq_some_iff.1 hv).1]; exact hv
              · cases hv)
          rw [hl] at hrun
          refine ⟨_, ?_, hr'.agg (fun u hu => h1 u (List.mem_of_mem_take hu))⟩
          simp only [hq]
          simp [asAddr, loadVar, isAgg, run_underlying hu, sizeOf, typeInfo, hin, hrun]
        · cases hv
      · cases hv
    · cases hv
def St.ress (P : Program) (st : St) : List ResultVar → Option (List AV)
  | [] => some []
  | r :: rs => match st.resv P r, st.ress P rs with
    | some v, some vs => some (v :: vs)
    | _, _ => none
theorem Inv.ress {E : Env} {a : Act} {w : World} (hi : Inv c E st a w) : ∀ {rs : List ResultVar} {vs : List AV}, st.ress P rs = some vs →
    ∃ us : List Value, (rs.mapM (fun r => (match r with | .tmp t => pure (a.tmps.getD t undef) | .cell p t => do loadVar t (← asAddr (a.tmps.getD p undef)) : Sem Value))).run P w = .ok us w ∧ RelL E w vs us
  | [], vs, h => by simp [St.ress] at h; subst h; exact ⟨[], rfl, RelL.nil _ _⟩
  | r :: rs, vs, h => by
    simp only [St.ress] at h
    split at h
    · rename_i v vs' hv hvs
      cases h
      obtain ⟨u, hu, hr⟩ := hi.resv (P := P) hv
      obtain ⟨us, hus, hrs⟩ := hi.ress hvs
      refine ⟨u :: us, ?_, ⟨by simp [hrs.1], fun i c' u' hc hu' => ?_⟩⟩
      · rw [List.mapM_cons, Sem.run_bind, hu, Result.andThen_ok, Sem.run_bind, hus]; rfl
      · cases i with
        | zero => simp at hc hu'; subst hc; subst hu'; exact hr
        | succ i => exact hrs.2 i c' u' (by simpa using hc) (by simpa using hu')
    · cases h
def resOf : List AV → AV
  | [v] => v
  | vs => .tup vs
theorem L.ends {fn : Func} {bx' : List (Nat × Box)} {tk' : List (Nat × Tok)} {res : AV} {rs : List ResultVar} {vs : List AV} (hfn : fn.results = rs.toArray) (hv : st.ress P rs = some vs) (hs : Sub (resOf vs) res) (hw : Wk c st ⟨[], bx', tk'⟩) :
    L c st (bodyPost P fn (Post c bx' tk' res) .ret) := by
  rintro a w ⟨E, hi⟩
  obtain ⟨us, hus, hr⟩ := hi.ress hv
  refine ⟨hi.defers, if h : us.length = 1 then us[0] else .tuple us.toArray, ?_, _, E, rfl, hs E w _ ?_, hi.heap.wk hw⟩
  · have hmap : (rs.toArray.mapM (fun r => (match r with | .tmp t => pure (a.tmps.getD t undef) | .cell p t => do loadVar t (← asAddr (a.tmps.getD p undef)) : Sem Value))).run P w = .ok us.toArray w := by
      rw [Array.mapM_eq_mapM_toList, Sem.run_map]
      simp only [hus]; rfl
    unfold results
    rw [hfn, Sem.run_bind]
    erw [hmap]
    simp
  · match vs, us, hr with
    | [v], [u], hr => exact hr.2 0 v u rfl rfl
    | [], [], hr => exact .tup rfl (fun i c u h => by simp at h)
    | v :: v' :: vs, u :: u' :: us, hr => exact .tup hr.1 hr.2
    | [], u :: us, hr => have := hr.1; simp at this
    | [v], [], hr => have := hr.1; simp at this
    | [v], u :: u' :: us, hr => have := hr.1; simp at this
    | v :: v' :: vs, [], hr => have := hr.1; simp at this
    | v :: v' :: vs, [u], hr => have := hr.1; simp at this
end
end Go.Abs
/- A logic of abstract states, part 10b: further values: structs compared, shifts and bits, divisions, bytes as a string, parts of strings and slices; a nil slice taken as an empty row of one's own. Conditions: each rule's own premises; over any program. -/
namespace Go.Abs
open Go.RowKit (Below)
set_option linter.unusedVariables false
set_option linter.unusedSimpArgs false
theorem getM {α β : Type} {f : α → β} {vs : List α} {i : Nat} {v : α} (hv : vs[i]? = some v) : (vs.map f)[((i : Nat) : Int).toNat]? = some (f v) := by simp [hv]
def eqV : Value → Value → Option Bool
  | .int k a, .int k' b => if k = k' then some (a == b) else none
  | .bool a, .bool b => some (a == b)
  | .string a, .string b => some (a.data.toList == b.data.toList)
  | _, _ => none
def eqVs : List AV → List AV → Option Bool
  | [], [] => some true
  | .iv (.im v) :: vs, .iv (.im u) :: us => match eqV v u, eqVs vs us with
    | some a, some b => some (a && b)
    | _, _ => none
  | _, _ => none
def cellKind (P : Program) (t : TypeId) : Nat := match P.underlying t with | some (.int _) => 1 | some .bool => 2 | some .string => 3 | _ => 0
def vKind : AV → Nat
  | .iv (.im (.int _ _)) => 1
  | .iv (.im (.bool _)) => 2
  | .iv (.im (.string _)) => 3
  | _ => 0
def eqFs (P : Program) : Nat → List Field → List Nat → Bool
  | _, [], [] => true
  | i, f :: fs, k :: ks => (f.name != "_" && (f.offset == i && cellKind P f.type == k)) && eqFs P (i + 1) fs ks
  | _, _, _ => false
def eqOk (P : Program) (t : TypeId) (ks : List Nat) : Bool :=
  match P.underlying t with
  | some (.struct fs) => !(P.stoodInHeld t) && (!(P.eqGuardType P.depth t) && eqFs P 0 fs.toList ks)
  | _ => false
theorem run_eqV {P : Program} {t : TypeId} {v u : Value} {b : Bool} (d : Nat) (w : World) (hk : cellKind P t = vKind (.iv (.im v))) (h : eqV v u = some b) : (Op.equalIn (d + 1) t v u).run P w = .ok b w ∧ (isAgg t).run P w = .ok false w := by
  unfold cellKind at hk
  cases v <;> cases u <;> simp only [eqV] at h <;> try (cases h; done)
  · rename_i a b'
    cases h
    cases hu : P.underlying t with
    | none => rw [hu] at hk; simp [vKind] at hk
    | some x => rw [hu] at hk; cases x <;> simp [vKind] at hk <;> simp [Op.equalIn, run_underlying hu, isAgg]
  · rename_i k a k' b'
    split at h
    · rename_i hkk; subst hkk; cases h
      cases hu : P.underlying t with
      | none => rw [hu] at hk; simp [vKind] at hk
      | some x => rw [hu] at hk; cases x <;> simp [vKind] at hk <;> simp [Op.equalIn, run_underlying hu, isAgg]
    · cases h
  · rename_i a b'
    cases h
    have : (a == b') = (a.data.toList == b'.data.toList) := by
      obtain ⟨⟨x⟩⟩ := a
      obtain ⟨⟨y⟩⟩ := b'
      show ((⟨x⟩ : Array UInt8) == ⟨y⟩) = (x == y)
      simp
    cases hu : P.underlying t with
    | none => rw [hu] at hk; simp [vKind] at hk
    | some x => rw [hu] at hk; cases x <;> simp [vKind] at hk <;> simp [Op.equalIn, run_underlying hu, this, isAgg]
theorem run_eqFs {P : Program} (d : Nat) (w : World) : ∀ (fs : List Field) (i : Nat) (xs ys : Array Value) (vs us : List AV) (b : Bool), eqFs P i fs (vs.map vKind) = true → eqVs vs us = some b →
    (∀ (j : Nat) (v : Value), vs[j]? = some (.iv (.im v)) → xs[i + j]? = some v) → (∀ (j : Nat) (v : Value), us[j]? = some (.iv (.im v)) → ys[i + j]? = some v) →
    (Op.eqFields (d + 1) xs ys fs).run P w = .ok b w
  | [], i, xs, ys, vs, us, b, hf, h, _, _ => by
    cases vs with
    | nil => cases us with
      | nil => simp only [eqVs] at h; cases h; simp [Op.eqFields]
      | cons _ _ => simp [eqVs] at h
    | cons _ _ => simp [eqFs] at hf
  | f :: fs, i, xs, ys, vs, us, b, hf, h, hx, hy => by
    match vs, us, h with
    | [], _, h => simp [eqFs] at hf
    | .iv (.im v) :: vs, .iv (.im u) :: us, h =>
      simp only [List.map_cons, eqFs, Bool.and_eq_true, bne_iff_ne, beq_iff_eq] at hf
      obtain ⟨⟨hn, ho, hk⟩, hfs⟩ := hf
      simp only [eqVs] at h
      cases h1 : eqV v u with
      | none => rw [h1] at h; cases h
      | some b1 =>
        cases h2 : eqVs vs us with
        | none => rw [h1, h2] at h; cases h
        | some b2 =>
          rw [h1, h2] at h
          cases h
          have hxi : xs[f.offset]? = some v := by rw [ho]; exact hx 0 v rfl
          have hyi : ys[f.offset]? = some u := by rw [ho]; exact hy 0 u rfl
          obtain ⟨he, hag⟩ := run_eqV (P := P) d w hk h1
          have ih := run_eqFs d w fs (i + 1) xs ys vs us b2 hfs h2 (fun j v' hv' => by have := hx (j + 1) v' (by simpa using hv'); rwa [show i + 1 + j = i + (j + 1) by omega]) (fun j v' hv' => by have := hy (j + 1) v' (by simpa using hv'); rwa [show i + 1 + j = i + (j + 1) by omega])
          have hpx : (part f.type xs f.offset).run P w = .ok v w := by simp [part, hag, hxi]
          have hpy : (part f.type ys f.offset).run P w = .ok u w := by simp [part, hag, hyi]
          simp only [Op.eqFields, hn, ne_eq, not_false_eq_true, if_true, Sem.run_bind, hpx, hpy, Result.andThen_ok, he]
          cases b1
          · simp
          · simpa using ih
section
variable {P : Program} {c : Ctx} {st : St} {ops : Array Oper} {Q : Exit → Act → World → Prop} {rest : List Oper} {o : Oper}
theorem eqAgg_run {x y : Operand} {t : TypeId} {cs ds : List AV} {ks : List Nat} {b : Bool} (hx : st.ev x = .agg cs) (hy : st.ev y = .agg ds) (hok : eqOk P t ks = true) (hn : cs.map vKind = ks) (hb : eqVs cs ds = some b)
    {E : Env} {a : Act} {w : World} (hi : Inv c E st a w) : ∃ xs ys : Array Value, a.eval x = .agg xs ∧ a.eval y = .agg ys ∧ (Op.equalIn 10000 t (.agg xs) (.agg ys)).run P w = .ok b w ∧ ∀ op, (eqGuard op t x y (.agg xs) (.agg ys)).run P w = .ok () w := by
  have h1 := hi.ev x; rw [hx] at h1
  have h2 := hi.ev y; rw [hy] at h2
  obtain ⟨xs, hxs, hxr, _⟩ := h1.agg_inv
  obtain ⟨ys, hys, hyr, _⟩ := h2.agg_inv
  unfold eqOk at hok
  split at hok
  · rename_i fs hu
    simp only [Bool.and_eq_true, Bool.not_eq_true', beq_iff_eq] at hok
    obtain ⟨hs, hg, hfs⟩ := hok
    subst hn
    have hfo : P.fieldsOf t = fs := by simp [Program.fieldsOf, hu]
    refine ⟨_, _, hxs, hys, ?_, fun op => run_eqGuard_agg w op t x y _ _ hg⟩
    rw [run_equalIn_struct w 9999 t _ _ (by rw [hfo]; exact hu) hs, hfo]
    have hcell : ∀ (l : List AV) (us : List Value), RelL E w l us → ∀ (j : Nat) (v : Value), l[j]? = some (.iv (.im v)) → us.toArray[0 + j]? = some v := by
      intro l us hr j v hj
      have hlt : j < us.length := by rw [hr.1]; exact (List.getElem?_eq_some_iff.1 hj).1
      have := (hr.2 j _ _ hj (List.getElem?_eq_getElem hlt)).iv_im
      simp [List.getElem?_eq_getElem hlt, this]
    exact run_eqFs 9998 w fs.toList 0 _ _ cs ds b hfs hb (hcell cs xs hxr) (hcell ds ys hyr)
  · cases hok
theorem Yields.eqlAgg {x y : Operand} {t t' : TypeId} {cs ds : List AV} {ks : List Nat} {b : Bool} (ho : o.op = .binOp .eql t x y t') (hx : st.ev x = .agg cs) (hy : st.ev y = .agg ds) (hok : eqOk P t ks = true) (hn : cs.map vKind = ks) (hb : eqVs cs ds = some b) : Yields P c st o (aB b) :=
  .im rfl fun E a w hi => by
    obtain ⟨xs, ys, h1, h2, h3, h4⟩ := eqAgg_run hx hy hok hn hb hi
    simp [execOp, ho, h1, h2, h4, run_eql_struct, h3, Result.andThen]
theorem RepI.part {φ : Nat → Nat} {w : World} {es : List (List IV)} {k len cap : Nat} {a : Option Addr} (h : RepI φ w (.sl es) (.slice a len cap)) (hk : ∀ e ∈ es, e.length = k) {l n : Nat} (hn : n ≤ es.length) (hl : l ≤ n) :
    RepI φ w (.sl ((es.take n).drop l)) (sliced a l n cap k) := by
  cases h with
  | emp hnn hm =>
    have : n = 0 := by simpa using hn
    subst this
    have : l = 0 := by omega
    subst this
    refine .emp (fun ha => ?_) (by omega)
    split at ha
    · omega
    · cases a with
      | none => have := hnn rfl; omega
      | some _ => simp at ha
  | @sl _ b o _ k' f hc hm hk' hφ hcell hrep =>
    have hkk : ∀ (i : Nat) (e : List IV), es[i]? = some e → k' = k := fun i e he => by rw [← hk' i e he, hk e (List.mem_of_getElem? he)]
    have hget : ∀ (i : Nat) (e : List IV), ((es.take n).drop l)[i]? = some e → es[l + i]? = some e := fun i e he => by
      rw [List.getElem?_drop, List.getElem?_take] at he
      split at he
      · exact he
      · cases he
    have hlen : ((es.take n).drop l).length = n - l := by simp; omega
    by_cases hcl : cap = l
    · have h1 : (es.take n).drop l = [] := List.eq_nil_of_length_eq_zero (by rw [hlen]; omega)
      rw [h1]
      have h2 : n - l = 0 := by omega
      simp only [sliced, hcl, if_true, h2]
      exact RepI.sl (es := []) (k := k) (fun _ _ => undef) (by simp) (by omega) (fun i e h => by simp at h) (fun i e j x h => by simp at h) (fun i e j x h => by simp at h) (fun i e j x h => by simp at h)
    · have : sliced (some ⟨b, o, none⟩) l n cap k = .slice (some ⟨b, o + l * k, none⟩) ((es.take n).drop l).length (cap - l) := by
        simp only [sliced, if_neg hcl, Option.map_some, Addr.add_none, hlen]
      rw [this]
      refine .sl (k := k) (fun i j => f (l + i) j) (by rw [hlen]; omega) (by omega) (fun i e he => hk e (List.mem_of_getElem? (hget i e he))) (fun i e j x he hx => ?_) (fun i e j x he hx => ?_) (fun i e j x he hx => hrep _ _ _ _ (hget i e he) hx)
      · have := hφ _ _ _ _ (hget i e he) hx
        rw [hkk _ _ (hget i e he)] at this
        rw [show o + l * k + i * k + j = o + (l + i) * k + j by rw [Nat.add_mul]; omega]; exact this
      · have := hcell _ _ _ _ (hget i e he) hx
        rw [hkk _ _ (hget i e he)] at this
        rw [show o + l * k + i * k + j = o + (l + i) * k + j by rw [Nat.add_mul]; omega]; exact this
theorem sliceV_run {t e : TypeId} {k : Nat} {x : Operand} {es : List (List IV)} (hs : sliceOk P t e k = true) (hx : (st.ev x).sl? = some es) (hk : ∀ e ∈ es, e.length = k) {E : Env} {a : Act} {w : World} (hi : Inv c E st a w) :
    ∃ ad len cap, a.eval x = .slice ad len cap ∧ len = es.length ∧ es.length ≤ cap ∧ P.underlying t = some (.slice (P.elem t)) ∧ (sizeOf (P.elem t)).run P w = .ok k w ∧
      ∀ l n, n ≤ es.length → l ≤ n → RepI E.φ w (.sl ((es.take n).drop l)) (sliced ad l n cap k) := by
  have hr := (hi.ev x).sl hx
  obtain ⟨hu, inf, hinf, hsz⟩ := sliceOk_run hs
  have he : P.elem t = e := by simp [Program.elem, hu]
  have h2 : P.underlying t = some (.slice (P.elem t)) := by rw [he]; exact hu
  have h3 : (sizeOf (P.elem t)).run P w = .ok k w := by rw [he]; simp [sizeOf, typeInfo, hinf, hsz]
  rcases hr.sl_inv with ⟨hq, rfl⟩ | ⟨ad, cap, hq, _, _, rfl⟩ | ⟨b, o', cap, k', f, hq, hc, hm, hkk, hcell⟩
  · rw [hq] at hr
    exact ⟨none, 0, 0, hq, rfl, Nat.le_refl _, h2, h3, fun l n hn hl => hr.part hk hn hl⟩
  · rw [hq] at hr
    exact ⟨some ad, 0, cap, hq, rfl, Nat.zero_le _, h2, h3, fun l n hn hl => hr.part hk hn hl⟩
  · rw [hq] at hr
    exact ⟨_, _, _, hq, rfl, hc, h2, h3, fun l n hn hl => hr.part hk hn hl⟩
theorem Yields.sliceVl {x y : Operand} {t e : TypeId} {k : Nat} {es : List (List IV)} {kd : IntKind} {n : Int} (ho : o.op = .slice t x (some y) none none) (hx : (st.ev x).sl? = some es) (hy : st.ev y = .iv (.im (.int kd n))) (hs : sliceOk P t e k = true)
    (hk : ∀ e ∈ es, e.length = k) (h0 : 0 ≤ n) (h1 : n ≤ es.length) : Yields P c st o (.iv (.sl (es.drop n.toNat))) := fun E a w hi => by
  obtain ⟨ad, len, cap, hq, hlen, hc, hu, hz, hp⟩ := sliceV_run hs hx hk hi
  have hp' := hp n.toNat es.length (Nat.le_refl _) (by omega)
  rw [List.take_length] at hp'
  refine ⟨_, ?_, .iv hp'⟩
  subst hlen
  have := run_slice_l (P := P) w t ad es.length cap hu kd n h0 h1
  simp [execOp, ho, hq, hi.im hy, run_sliceAt_slice w t _ _ _ _ hu, this, hz, Result.andThen]
theorem Yields.sliceVh {x y : Operand} {t e : TypeId} {k : Nat} {es : List (List IV)} {kd : IntKind} {n : Int} (ho : o.op = .slice t x none (some y) none) (hx : (st.ev x).sl? = some es) (hy : st.ev y = .iv (.im (.int kd n))) (hs : sliceOk P t e k = true)
    (hk : ∀ e ∈ es, e.length = k) (h0 : 0 ≤ n) (h1 : n ≤ es.length) : Yields P c st o (.iv (.sl (es.take n.toNat))) := fun E a w hi => by
  obtain ⟨ad, len, cap, hq, hlen, hc, hu, hz, hp⟩ := sliceV_run hs hx hk hi
  have hp' := hp 0 n.toNat (by omega) (by omega)
  rw [List.drop_zero] at hp'
  refine ⟨_, ?_, .iv hp'⟩
  subst hlen
  have := run_slice_h (P := P) w t ad es.length cap hu kd n h0 (by omega)
  simp [execOp, ho, hq, hi.im hy, run_sliceAt_slice w t _ _ _ _ hu, this, hz, Result.andThen]
theorem L.adopt {s : Nat} (id : Nat) {t : TypeId} {k : Nat} {X : Act → World → Prop} (hs : st.fr.lookup s = some .nils) (hf : st.fresh id = true) (hin : c.ins.contains id = false) (h : L c ⟨(s, .row id []) :: st.fr, st.bx, (id, ⟨t, k⟩) :: st.tk⟩ X) : L c st X := by
  rintro a w ⟨E, hi⟩
  have mono : ∀ (v : AV) (u : Value), AV.ment id v = false → RepA E w v u → RepA ⟨E.φ, E.ρ, fun i => if i = id then .slice none 0 0 else E.η i⟩ w v u := fun v u hm hr =>
    hr.mono (E := E) (E' := ⟨E.φ, E.ρ, fun i => if i = id then .slice none 0 0 else E.η i⟩) (fun _ _ _ => rfl) (fun _ => Nat.le_refl _) (fun i hi' => ⟨rfl, by
      have : i ≠ id := fun e => by subst e; rw [hm] at hi'; cases hi'
      simp [this]⟩)
  refine h a w ⟨⟨E.φ, E.ρ, fun i => if i = id then .slice none 0 0 else E.η i⟩, hi.defers, hi.size, fun s' v hv => ?_, ?_⟩
  · by_cases e : s' = s
    · subst e
      simp [List.lookup] at hv; subst hv
      have h0 := hi.slot s' _ hs
      generalize a.tmps.getD s' undef = u at h0 ⊢
      cases h0
      exact .row (by simp) .nil
    · rw [lookup_cons_ne e] at hv
      exact mono v _ (St.fresh_fr hf hv) (hi.slot s' v hv)
  · have hh : HInv c ⟨E.φ, E.ρ, fun i => if i = id then .slice none 0 0 else E.η i⟩ st.bx st.tk w := by
      have hne : ∀ (j : Nat) (t' : Tok), st.tk.lookup j = some t' → (if j = id then Value.slice none 0 0 else E.η j) = E.η j := fun j t' hj => by rw [if_neg (St.fresh_tk hf hj)]
      refine ⟨fun i b hb hn => ?_, fun i t' hi' => ?_, hi.heap.bb, fun i j t1 t2 g h1 h2 e1 e2 => ?_, fun i j b t' h1 hn h2 => ?_, hi.heap.own, fun j t' g hj hg => ?_, hi.heap.new, hi.heap.old, fun i hi' => ?_, hi.heap.kept⟩
      · obtain ⟨h0, arr, ha, hl, h1, hr, hq⟩ := hi.heap.box i b hb hn
        refine ⟨h0, arr, ha, hl, h1, fun k c u hc hu => mono c u ?_ (hr k c u hc hu), fun k cap he => hq k cap (by simpa only [if_neg (St.fresh_bx hf hb).1] using he)⟩
        exact AV.ments_false (St.fresh_bx hf hb).2 k c hc
      · have := hi.heap.tok i t' hi'
        simp only [TokOk, hne i t' hi'] at this ⊢
        exact this
      · simp only [hne i t1 h1] at e1
        simp only [hne j t2 h2] at e2
        exact hi.heap.tt i j t1 t2 g h1 h2 e1 e2
      · simp only [hne j t' h2]
        exact hi.heap.bt i j b t' h1 hn h2
      · simp only [hne j t' hj] at hg
        exact hi.heap.ownt j t' g hj hg
      · obtain ⟨h1, h2, h3⟩ := hi.heap.ins i hi'
        refine ⟨h1, ?_, h3⟩
        have : i ≠ id := fun e => by subst e; simp at hin; exact hin hi'
        simp only [if_neg this]; exact h2
    refine hh.addTok (.inl (by simp)) (fun j t' g hj hl hg => by simp [Value.ownBlock]) (fun i b hb hn => by simp [Value.ownBlock]) (fun g hg => by simp [Value.ownBlock] at hg)
theorem HInv.reEta {E : Env} {w : World} {η : Nat → Value} (h : HInv c E st.bx st.tk w) (hb : ∀ (i : Nat) (b : Box), st.bx.lookup i = some b → ∀ (k : Nat) (v : AV) (u : Value), b.cs[k]? = some v → RepA E w v u → RepA ⟨E.φ, E.ρ, η⟩ w v u)
    (ht : ∀ (j : Nat) (t : Tok), st.tk.lookup j = some t → η j = E.η j) (hin : ∀ id ∈ c.ins, η id = E.η id) (hbe : ∀ (i : Nat) (b : Box), st.bx.lookup i = some b → η i = E.η i) : HInv c ⟨E.φ, E.ρ, η⟩ st.bx st.tk w := by
  refine ⟨fun i b h0 hn => ?_, fun i t' hi' => ?_, h.bb, fun i j t1 t2 g h1 h2 e1 e2 => ?_, fun i j b t' h1 hn h2 => ?_, h.own, fun j t' g hj hg => ?_, h.new, h.old, fun i hi' => ?_, h.kept⟩
  · obtain ⟨h0', arr, ha, hl, h1, hr, hq⟩ := h.box i b h0 hn
    exact ⟨h0', arr, ha, hl, h1, fun k c u hc hu => hb i b h0 k c u hc (hr k c u hc hu), fun k cap he => hq k cap (by simpa only [hbe i b h0] using he)⟩
  · have := h.tok i t' hi'
    simp only [TokOk, ht i t' hi'] at this ⊢
    exact this
  · simp only [ht i t1 h1] at e1
    simp only [ht j t2 h2] at e2
    exact h.tt i j t1 t2 g h1 h2 e1 e2
  · simp only [ht j t' h2]
    exact h.bt i j b t' h1 hn h2
  · simp only [ht j t' hj] at hg
    exact h.ownt j t' g hj hg
  · obtain ⟨h1, h2, h3⟩ := h.ins i hi'
    exact ⟨h1, by rw [← h2]; exact hin i hi', h3⟩
theorem delTok_look' (id : Nat) : ∀ (tk : List (Nat × Tok)) (s : Nat), (delTok id tk).lookup s = if s = id then none else tk.lookup s
  | [], s => by simp [delTok]
  | (t, u) :: tk, s => by
    have ih := delTok_look' id tk s
    unfold delTok at ih ⊢
    by_cases e : t = id
    · subst e
      simp only [List.filter_cons, bne_self_eq_false, Bool.false_eq_true, if_false]
      rw [ih]
      by_cases h : s = t
      · simp [h]
      · rw [lookup_cons_ne h]
    · have hb : (t != id) = true := by simpa [bne] using e
      simp only [List.filter_cons, hb, if_true]
      by_cases h : s = t
      · subst h; rw [lookup_cons_eq, lookup_cons_eq, if_neg e]
      · rw [lookup_cons_ne h, lookup_cons_ne h, ih]
theorem L.retok {es : List (List IV)} {t : Tok} {X : Act → World → Prop} (s a b : Nat) (hs : st.fr.lookup s = some (.row a es)) (ht : st.tk.lookup a = some t) (hf : st.fresh b = true) (hin : c.ins.contains b = false)
    (h : L c ⟨(s, .row b es) :: st.fr, st.bx, (b, t) :: delTok a st.tk⟩ X) : L c st X := by
  rintro act w ⟨E, hi⟩
  have hab : a ≠ b := St.fresh_tk hf ht
  have mono : ∀ (v : AV) (u : Value), AV.ment b v = false → RepA E w v u → RepA ⟨E.φ, E.ρ, fun i => if i = b then E.η a else E.η i⟩ w v u := fun v u hm hr =>
    hr.mono (E := E) (E' := ⟨E.φ, E.ρ, fun i => if i = b then E.η a else E.η i⟩) (fun _ _ _ => rfl) (fun _ => Nat.le_refl _) (fun i hi' => ⟨rfl, by
      have : i ≠ b := fun e => by subst e; rw [hm] at hi'; cases hi'
      simp [this]⟩)
  have hh : HInv c ⟨E.φ, E.ρ, fun i => if i = b then E.η a else E.η i⟩ st.bx st.tk w := hi.heap.reEta
    (fun i bb h0 k v u hv hr => mono v u (AV.ments_false (St.fresh_bx hf h0).2 k v hv) hr)
    (fun j t' hj => by simp only [if_neg (St.fresh_tk hf hj)])
    (fun id hid => by
      have : id ≠ b := fun e => by subst e; simp at hin; exact hin hid
      simp only [if_neg this])
    (fun i bb h0 => by simp only [if_neg (St.fresh_bx hf h0).1])
  have hh' : HInv c ⟨E.φ, E.ρ, fun i => if i = b then E.η a else E.η i⟩ st.bx (delTok a st.tk) w := by
    have hw : Wk c st ⟨st.fr, st.bx, delTok a st.tk⟩ := ⟨fun id hid => (hi.heap.ins id hid).2.2, fun s v hv => ⟨v, hv, Sub.refl _⟩, fun id bb hb => ⟨bb, hb, rfl, Subs.refl _⟩, fun id t' ht' => by
      simp only at ht'; rw [delTok_look'] at ht'
      split at ht'
      · cases ht'
      · exact ht'⟩
    exact hh.wk (st := st) (st' := ⟨st.fr, st.bx, delTok a st.tk⟩) hw
  refine h act w ⟨⟨E.φ, E.ρ, fun i => if i = b then E.η a else E.η i⟩, hi.defers, hi.size, fun s' v hv => ?_, ?_⟩
  · by_cases e : s' = s
    · subst e
      simp [List.lookup] at hv; subst hv
      have h0 := hi.slot s' _ hs
      cases h0 with
      | row hu h0 => exact .row (by simp [hu]) h0
    · rw [lookup_cons_ne e] at hv
      exact mono v _ (St.fresh_fr hf hv) (hi.slot s' v hv)
  · refine hh'.addTok ?_ (fun j t' g hj hl hg => ?_) (fun i bb hb hn => ?_) (fun g hg => ?_)
    · have := hi.heap.tok a t ht
      simp only [TokOk, if_true] at this ⊢
      exact this
    · rw [delTok_look'] at hl
      split at hl
      · cases hl
      · rename_i hja
        simp only [if_neg hj, if_true] at hg ⊢
        intro hg'
        exact hja (hi.heap.tt j a t' t g hl ht hg hg')
    · simp only [if_true]
      exact hi.heap.bt i a bb t hb hn ht
    · simp only [if_true] at hg
      exact hi.heap.ownt a t g ht hg
end
end Go.Abs
/- A logic of abstract states, part 18: bytes of a string, the first place of a byte, the last bit, the lesser of two. Conditions: each rule's own premises; over any program. -/
namespace Go.Abs
open Go.RowKit (Below)
set_option linter.unusedVariables false
section
variable {P : Program} {c : Ctx} {st : St} {ops : Array Oper} {Q : Exit → Act → World → Prop} {rest : List Oper} {o : Oper}
theorem and_one (n : Int) : bits .and .i64 n 1 = n % 2 := by
  have h1 : (BitVec.ofInt 64 1).toNat = 2 ^ 1 - 1 := by decide
  have key : (BitVec.ofInt 64 n &&& BitVec.ofInt 64 1).toNat = (n % ((2 ^ 64 : Nat) : Int)).toNat % 2 ^ 1 := by
    rw [BitVec.toNat_and, BitVec.toNat_ofInt, h1, Nat.and_two_pow_sub_one_eq_mod]
  show IntKind.i64.wrap ((BitVec.ofInt 64 n &&& BitVec.ofInt 64 1).toNat : Nat) = n % 2
  rw [key, IntKind.wrap_i64]
  omega
theorem Yields.and1 {x y : Operand} {t t' : TypeId} {m : Int} (ho : o.op = .binOp .and t x y t') (hx : st.ev x = aI m) (hy : st.ev y = aI 1) : Yields P c st o (aI (m % 2)) :=
  .arith ho hx hy (fun w => by rw [← and_one m]; rfl) (fun w => rfl)
theorem Yields.min2 {x y : Operand} {t t' : TypeId} {m n : Int} (ho : o.op = .call { callee := .builtin .min, args := #[x, y], argTypes := #[t, t'] }) (hx : st.ev x = aI m) (hy : st.ev y = aI n) : Yields P c st o (aI (if n < m then n else m)) :=
  .im rfl fun E a w hi => by
    have e1 := hi.im hx
    have e2 := hi.im hy
    simp [execOp, ho, resolve, invoke, builtin, e1, e2, run_min_int2, Result.andThen]
abbrev Globs := List (Nat × List IV)
def Glob (gs : Globs) (E : Env) (w : World) : Prop :=
  (∀ b, w.heap.size ≤ b → E.φ b = 0) ∧ ∀ (g : Nat) (xs : List IV), (g, xs) ∈ gs → ∀ (i : Nat) (x : IV), xs[i]? = some x → i < E.φ g ∧ ∃ v, w.cell? ⟨g, i, none⟩ = some v ∧ RepI E.φ w x v
theorem Glob.nil {E : Env} {w : World} (h : ∀ b, w.heap.size ≤ b → E.φ b = 0) : Glob [] E w := ⟨h, fun g xs h => by simp at h⟩
theorem Glob.keep {gs : Globs} {E : Env} {a : Act} {w : World} (h : Glob gs c.E0 c.w0) (hi : Inv c E st a w) : Glob gs E w := by
  obtain ⟨h0, h1⟩ := h
  have lt : ∀ b o, o < c.E0.φ b → b < c.w0.heap.size := fun b o ho => Nat.lt_of_not_le (fun hle => by rw [h0 b hle] at ho; omega)
  have hk : Keeps c.E0.φ c.w0 w := fun b o ho => by
    have hb := lt b o ho
    exact World.cell?_of_block (w := c.w0) (hi.heap.kept.block b hb (fun ⟨id, hid, hg, h0⟩ => by omega))
  have hφ : ∀ b, c.E0.φ b ≤ E.φ b := fun b => by
    by_cases hb : b < c.w0.heap.size
    · rw [hi.heap.old b hb]; exact Nat.le_refl _
    · rw [h0 b (by omega)]; exact Nat.zero_le _
  refine ⟨hi.heap.new, fun g xs hg i x hx => ?_⟩
  obtain ⟨k1, v, k2, k3⟩ := h1 g xs hg i x hx
  exact ⟨Nat.lt_of_lt_of_le k1 (hφ g), v, by rw [hk g i k1]; exact k2, k3.mono hk hφ⟩
def CallG (gs : Globs) (P : Program) (f : FuncId) (args : List AV) (bx bx' : List (Nat × Box)) (tk' : List (Nat × Tok)) (res : AV) : Prop :=
  ∀ (E : Env) (w : World) (us : List Value), RelL E w args us → HInv ⟨0, w, E, keys bx⟩ E bx [] w → Glob gs E w →
    Calls P f us.toArray w fun e w' => ∃ (u : Value) (E' : Env), e = .returned u ∧ RepA E' w' res u ∧ HInv ⟨0, w, E, keys bx⟩ E' bx' tk' w'
theorem CallA.toG {gs : Globs} {f : FuncId} {args : List AV} {bx bx' : List (Nat × Box)} {tk' : List (Nat × Tok)} {res : AV} (h : CallA P f args bx bx' tk' res) : CallG gs P f args bx bx' tk' res :=
  fun E w us hr hh _ => h E w us hr hh
theorem CallG.toA {f : FuncId} {args : List AV} {bx bx' : List (Nat × Box)} {tk' : List (Nat × Tok)} {res : AV} (h : CallG [] P f args bx bx' tk' res) : CallA P f args bx bx' tk' res :=
  fun E w us hr hh => h E w us hr hh (Glob.nil hh.new)
theorem CallG.intro {gs : Globs} {f : FuncId} {fn : Func} {code : Code} {args : List AV} {bx bx' : List (Nat × Box)} {tk' : List (Nat × Tok)} {res : AV} (nt : Nat) (hf : P.funcs[f]? = some fn) (hb : fn.body = some code) (hnt : fn.ntmps = nt) (hn : Nat.ble args.length nt = true)
    (h : ∀ (w0 : World) (E0 : Env), Glob gs E0 w0 → L ⟨nt, w0, E0, keys bx⟩ ⟨enter 0 args, bx, []⟩ (code.wp P (bodyPost P fn (Post ⟨nt, w0, E0, keys bx⟩ bx' tk' res)))) : CallG gs P f args bx bx' tk' res := by
  subst hnt
  have hn := Nat.le_of_ble_eq_true hn
  intro E w us hrel hh hg
  have hl := hrel.1
  refine calls_of_wp (R := Post ⟨fn.ntmps, w, E, keys bx⟩ bx' tk' res) hf hb (h w E hg _ _ ⟨E, rfl, ?_, fun s v hv => ?_, ?_⟩) |>.mono ?_
  · simp; omega
  · obtain ⟨_, hv'⟩ := enter_get args 0 s v hv
    rw [Nat.sub_zero] at hv'
    have hlt : s < us.length := by rw [hl]; exact (List.getElem?_eq_some_iff.1 hv').1
    have : (us.toArray ++ Array.replicate (fn.ntmps - us.toArray.size) undef).getD s undef = us[s] := by
      simp [Array.getElem?_append, hlt]
    rw [this]
    exact hrel.2 s v _ hv' (List.getElem?_eq_getElem hlt)
  · exact ⟨hh.box, hh.tok, hh.bb, hh.tt, hh.bt, hh.own, hh.ownt, hh.new, hh.old, hh.ins, hh.kept⟩
  · rintro e w' ⟨u, E', he, hu, hh'⟩
    exact ⟨u, E', he, hu, ⟨hh'.box, hh'.tok, hh'.bb, hh'.tt, hh'.bt, hh'.own, hh'.ownt, hh'.new, hh'.old, hh'.ins, hh'.kept⟩⟩
theorem L.enterG {gs : Globs} (N : List Nat) {f : FuncId} {as : List AV} {bxi bxo : List (Nat × Box)} {tko : List (Nat × Tok)} {res : AV} {d : Nat} (hg : o.guard = none) (hd : o.dst = some d) (hlt : Nat.ble (d + 1) c.nt = true) (hG : Glob gs c.E0 c.w0)
    (ho : ∀ (E : Env) (a : Act) (w : World), Inv c E st a w → ∃ us : List Value, (execOp a.eval o).run P w = .ok (.enter f us.toArray) w ∧ RelL E w as us) (hc : CallG gs P f as bxi bxo tko res) (hbi : WkB st.bx bxi)
    (hN : N.all (fun id => st.fresh id) = true) (hbo : boOk N bxi bxo = true) (hto : (keys tko).all (fun id => N.contains id) = true)
    (hmb : bxo.all (fun p => AV.mentsIn (N ++ keys bxi) p.2.cs) = true) (hmr : AV.mentIn (N ++ keys bxi) res = true)
    (h : L c ⟨(d, res) :: st.fr, bxo ++ st.bx, tko ++ st.tk⟩ (wpList P ops Q rest)) : L c st (wpList P ops Q (o :: rest)) := by
  rintro a w ⟨E, hi⟩
  refine wpList_plain hg (fun K hK => ?_)
  obtain ⟨us, hrun, hrel⟩ := ho E a w hi
  unfold Oper.wp
  rw [hrun, Oper.upon_enter]
  have hcall := hc E w us hrel (hi.heap.hand hbi) (hG.keep hi)
  refine hcall.mono fun e w' ⟨u, E', he, hu, hh⟩ => ?_
  subst he
  obtain ⟨hj, monoN, monoC⟩ := hi.heap.join hh (N := N) (fun id hid => List.all_eq_true.1 hN id hid) (fun id hid => by
      obtain ⟨b, hb⟩ := mem_keys hid
      obtain ⟨b0, h0, _, hs⟩ := hbi.get id b hb
      exact ⟨b0, h0, hs.ne (boOk_live hbo hb)⟩)
    (fun id hid => boOk_keys hbo hid) (fun id hid => by have := List.all_eq_true.1 hto id hid; simpa using this)
    (fun id b hb => List.all_eq_true.1 hmb _ (lookup_mem hb))
  refine hK _ _ ?_
  rw [hd]
  refine h _ _ ⟨_, Inv.put (st := ⟨st.fr, bxo ++ st.bx, tko ++ st.tk⟩) ⟨hi.defers, hi.size, fun s v hv => monoC v _ (fun id hid => St.fresh_fr (List.all_eq_true.1 hN id hid) hv) (hi.slot s v hv), hj⟩ (Nat.le_of_ble_eq_true hlt) (monoN res u hmr hu)⟩
theorem L.callG0 {gs : Globs} {f : FuncId} {args : Array Operand} {ats : Array TypeId} {as : List AV} {res : AV} {d : Nat} (hg : o.guard = none) (hd : o.dst = some d) (hlt : Nat.ble (d + 1) c.nt = true) (hG : Glob gs c.E0 c.w0)
    (ho : o.op = .call { callee := .value (.func f), args := args, argTypes := ats }) (hok : callOk P f = true) (hc : CallG gs P f as [] [] [] res) (ha : Subs (args.toList.map st.ev) as)
    (hmr : AV.mentIn [] res = true) (h : L c ⟨(d, res) :: st.fr, st.bx, st.tk⟩ (wpList P ops Q rest)) : L c st (wpList P ops Q (o :: rest)) :=
  L.enterG [] hg hd hlt hG (fun E a w hi => ⟨args.toList.map a.eval, by
    have hargs : (args.toList.map a.eval).toArray = args.map a.eval := by apply Array.ext'; simp
    rw [hargs]
    simp [execOp, ho, resolve, Deferred.ofValue, Act.eval, invoke, run_callOk hok], (hi.evs args).sub ha⟩) hc .nil rfl rfl rfl rfl hmr h
theorem Yields.loadG {gs : Globs} {g : Nat} {t : TypeId} {x : IV} (ho : o.op = .load t (.global g)) (ht : varOk P t false 1 = true) (hG : Glob gs c.E0 c.w0) (hm : (g, [x]) ∈ gs) : Yields P c st o (.iv x) := fun E a w hi => by
  obtain ⟨g1, u, g2, g3⟩ := (hG.keep hi).2 g [x] hm 0 x rfl
  refine ⟨u, ?_, .iv g3⟩
  have eg : a.eval (.global g) = .pointer (some ⟨g, 0, none⟩) := rfl
  simp [execOp, ho, eg, Instr.loadAt, Instr.sureAddr, loadVar, (varOk_agg ht w).1, g2]
theorem Yields.makeFunc {f : FuncId} {caps : Array Operand} (ho : o.op = .makeFunc (.func f) #[] caps) : Yields P c st o (.fn f (caps.toList.map st.ev)) := fun E a w hi => by
  refine ⟨.func (.func f) #[] (caps.toList.map a.eval).toArray, ?_, ?_⟩
  · have hc : (caps.toList.map a.eval).toArray = caps.map a.eval := by apply Array.ext'; simp
    rw [hc]
    simp [execOp, ho, Instr.makeFunc]
  · obtain ⟨h1, h2⟩ := hi.evs caps
    exact .fn h1 h2
theorem L.callFnG {gs : Globs} {f : FuncId} {x : Operand} {args : Array Operand} {ats : Array TypeId} {as caps : List AV} {bxi : List (Nat × Box)} {res : AV} {d : Nat} (hg : o.guard = none) (hd : o.dst = some d) (hlt : Nat.ble (d + 1) c.nt = true) (hG : Glob gs c.E0 c.w0)
    (ho : o.op = .call { callee := .value x, args := args, argTypes := ats }) (hx : st.ev x = .fn f caps) (hok : callOk P f = true) (hc : CallG gs P f (as ++ caps) bxi bxi [] res) (ha : Subs (args.toList.map st.ev) as)
    (hbi : WkB st.bx bxi) (hmb : bxi.all (fun p => !p.2.cs.isEmpty && AV.mentsIn (keys bxi) p.2.cs) = true) (hmr : AV.mentIn (keys bxi) res = true)
    (h : L c ⟨(d, res) :: st.fr, bxi ++ st.bx, st.tk⟩ (wpList P ops Q rest)) : L c st (wpList P ops Q (o :: rest)) :=
  L.enterG [] hg hd hlt hG (fun E a w hi => by
    have hv := hi.ev x
    rw [hx] at hv
    generalize hu : a.eval x = u at hv
    cases hv with
    | @fn _ _ us hl hr =>
      refine ⟨args.toList.map a.eval ++ us, ?_, ((hi.evs args).sub ha).append ⟨hl, hr⟩⟩
      have hargs : (args.toList.map a.eval ++ us).toArray = args.map a.eval ++ us.toArray := by apply Array.ext'; simp
      rw [hargs]
      simp [execOp, ho, resolve, hu, Deferred.ofValue, invoke, run_callOk hok]) hc hbi rfl (by
      simp only [boOk, Bool.and_eq_true, List.all_eq_true] at hmb ⊢
      exact ⟨fun p hp => (hmb p hp).1, fun id hid => by simpa using hid⟩) rfl (by
      simp only [Bool.and_eq_true, List.all_eq_true] at hmb ⊢
      exact fun p hp => (hmb p hp).2) hmr h
end
end Go.Abs
/- A logic of abstract states, part 15: slices that lie in own blocks: their length, room, parts, elements. Conditions: each rule's own premises; over any program. -/
namespace Go.Abs
open Go.RowKit (Below)
set_option linter.unusedVariables false
section
variable {P : Program} {c : Ctx} {st : St} {ops : Array Oper} {Q : Exit → Act → World → Prop} {rest : List Oper} {o : Oper}
theorem sl_facts {t e : TypeId} {k : Nat} (hs : sliceOk P t e k = true) (w : World) : P.underlying t = some (.slice (P.elem t)) ∧ (sizeOf (P.elem t)).run P w = .ok k w := by
  obtain ⟨hu, inf, hinf, hsz⟩ := sliceOk_run hs
  have he : P.elem t = e := by simp [Program.elem, hu]
  exact ⟨by rw [he]; exact hu, by rw [he]; simp [sizeOf, typeInfo, hinf, hsz]⟩
end
end Go.Abs
/- A logic of abstract states, part 16: steps that no operation takes: a slice's room laid open, a row under a new name, a box given up. Conditions: each rule's own premises; over any program. -/
namespace Go.Abs
open Go.RowKit (Below)
set_option linter.unusedVariables false
theorem HInv.reBox {c : Ctx} {E : Env} {bx : List (Nat × Box)} {tk : List (Nat × Tok)} {w : World} (h : HInv c E bx tk w) {id : Nat} {b b' : Box} (hb : bx.lookup id = some b) (hbn : b.cs ≠ []) (hb' : b'.cs ≠ [] → BoxOk E w id b') :
    HInv c E ((id, b') :: bx) tk w := by
  have f : ∀ (i : Nat) (b1 : Box), List.lookup i ((id, b') :: bx) = some b1 → b1.cs ≠ [] → ∃ b2, bx.lookup i = some b2 ∧ b2.cs ≠ [] := fun i b1 h hn => by
    by_cases e : i = id
    · subst e; exact ⟨b, hb, hbn⟩
    · rw [lookup_cons_ne e] at h; exact ⟨b1, h, hn⟩
  refine ⟨fun i b1 hi hn => ?_, h.tok, fun i j b1 b2 hi hj hn hn' he => ?_, h.tt, fun i j b1 t hi hn hj => ?_, fun i b1 hi hn => ?_, h.ownt, h.new, h.old, fun i hin => ?_, h.kept⟩
  · by_cases e : i = id
    · subst e; rw [lookup_cons_eq] at hi; cases hi; exact hb' hn
    · rw [lookup_cons_ne e] at hi; exact h.box i b1 hi hn
  · obtain ⟨b3, h3, n3⟩ := f i b1 hi hn
    obtain ⟨b4, h4, n4⟩ := f j b2 hj hn'
    exact h.bb i j b3 b4 h3 h4 n3 n4 he
  · obtain ⟨b3, h3, n3⟩ := f i b1 hi hn
    exact h.bt i j b3 t h3 n3 hj
  · obtain ⟨b3, h3, n3⟩ := f i b1 hi hn
    exact h.own i b3 h3 n3
  · obtain ⟨e1, e2, e3⟩ := h.ins i hin
    refine ⟨e1, e2, ?_⟩
    by_cases e : i = id
    · subst e; rw [lookup_cons_eq]; rfl
    · rw [lookup_cons_ne e]; exact e3
theorem HInv.turn {c : Ctx} {E : Env} {st : St} {w : World} (h : HInv c E st.bx st.tk w) {id : Nat} (hf : st.fresh id = true) (g : Nat) (v : Value) :
    HInv c ⟨E.φ, fun i => if i = id then g else E.ρ i, fun i => if i = id then v else E.η i⟩ st.bx st.tk w ∧
      (∀ (x : AV) (u : Value), AV.ment id x = false → RepA E w x u → RepA ⟨E.φ, fun i => if i = id then g else E.ρ i, fun i => if i = id then v else E.η i⟩ w x u) := by
  have hρ : ∀ i, i ≠ id → (if i = id then g else E.ρ i) = E.ρ i := fun i hi => by simp [hi]
  have hη : ∀ i, i ≠ id → (if i = id then v else E.η i) = E.η i := fun i hi => by simp [hi]
  have mono : ∀ (x : AV) (u : Value), AV.ment id x = false → RepA E w x u → RepA ⟨E.φ, fun i => if i = id then g else E.ρ i, fun i => if i = id then v else E.η i⟩ w x u := fun x u hm hr =>
    RepA.mono (E := E) (w := w) (h := hr) (E' := ⟨E.φ, fun i => if i = id then g else E.ρ i, fun i => if i = id then v else E.η i⟩) (fun _ _ _ => rfl) (fun _ => Nat.le_refl _) (fun i hi => by
      have : i ≠ id := fun e => by subst e; rw [hm] at hi; cases hi
      exact ⟨hρ i this, hη i this⟩)
  refine ⟨⟨fun i b hb hn => ?_, fun i t ht => ?_, fun i j b b' hi hj hn hn' he => ?_, fun i j t t' g' hi hj h1 h2 => ?_, fun i j b t hi hn hj => ?_, fun i b hi hn => ?_, fun j t g' hj hg => ?_, h.new, h.old, fun i hin => ?_, h.kept⟩, mono⟩
  · obtain ⟨hne, hm⟩ := St.fresh_bx hf hb
    obtain ⟨h0, arr, ha, hl, h1, hr, hq⟩ := h.box i b hb hn
    refine ⟨by simp only [hρ i hne]; exact h0, arr, by simp only [hρ i hne]; exact ha, hl, h1, fun k x u hx hu => mono x u (AV.ments_false hm k x hx) (hr k x u hx hu), fun k cap he => hq k cap (by simpa only [hη i hne] using he)⟩
  · have := h.tok i t ht
    simp only [TokOk, hη i (St.fresh_tk hf ht)] at this ⊢
    exact this
  · simp only [hρ i (St.fresh_bx hf hi).1, hρ j (St.fresh_bx hf hj).1] at he
    exact h.bb i j b b' hi hj hn hn' he
  · simp only [hη i (St.fresh_tk hf hi)] at h1
    simp only [hη j (St.fresh_tk hf hj)] at h2
    exact h.tt i j t t' g' hi hj h1 h2
  · simp only [hρ i (St.fresh_bx hf hi).1, hη j (St.fresh_tk hf hj)]
    exact h.bt i j b t hi hn hj
  · simp only [hρ i (St.fresh_bx hf hi).1]; exact h.own i b hi hn
  · simp only [hη j (St.fresh_tk hf hj)] at hg; exact h.ownt j t g' hj hg
  · obtain ⟨e1, e2, e3⟩ := h.ins i hin
    obtain ⟨b, hb⟩ := Option.isSome_iff_exists.1 e3
    have hne := (St.fresh_bx hf hb).1
    exact ⟨(hρ i hne).trans e1, (hη i hne).trans e2, e3⟩
section
variable {c : Ctx} {st : St} {X : Act → World → Prop}
end
end Go.Abs
/- A logic of abstract states, part 17: memory in own blocks: comparisons with nil. Conditions: each rule's own premises; over any program. -/
namespace Go.Abs
open Go.RowKit (Below)
set_option linter.unusedVariables false
section
variable {P : Program} {c : Ctx} {st : St} {ops : Array Oper} {Q : Exit → Act → World → Prop} {rest : List Oper} {o : Oper}
theorem Inv.newRoom {E : Env} {a : Act} {w : World} (hi : Inv c E st a w) {id : Nat} (hf : st.fresh id = true) {ty : TypeId} {cs : List AV} {us : List Value} (v : Value)
    (hl : cs.length ≤ us.length) (hr : ∀ (i : Nat) (x : AV) (u : Value), cs[i]? = some x → us[i]? = some u → RepA E w x u) (h1 : ∀ u ∈ us, u.oneCell' = true) (hm : AV.ments id cs = false) (hv : ∀ k cap, v = capV k cap → cap * k ≤ us.length) :
    Inv c (E.upd id w.heap.size 0 v) ⟨st.fr, (id, ⟨ty, cs⟩) :: st.bx, st.tk⟩ a (w.alloc (.cells us.toArray ty (0, 0))) := by
  obtain ⟨hh, mono⟩ := hi.heap.alloc hf (.cells us.toArray ty (0, 0)) 0 v
  have hid : (E.upd id w.heap.size 0 v).ρ id = w.heap.size := by simp [Env.upd]
  refine ⟨hi.defers, hi.size, fun s v hv => mono v _ (St.fresh_fr hf hv) (hi.slot s v hv), hh.addBox ?_ ?_ ?_ ?_ ?_⟩
  · cases hq : st.bx.lookup id with
    | none => rfl
    | some b => exact ((St.fresh_bx hf hq).1 rfl).elim
  · refine ⟨by rw [hid]; simp [Env.upd], us, by rw [hid]; exact heapNew w _, hl, h1, fun i x u hx hu => mono x u (AV.ments_false hm i x hx) (hr i x u hx hu), fun k cap he => hv k cap (by simpa [Env.upd] using he)⟩
  · intro j b' hj hn
    rw [hid]
    have : (E.upd id w.heap.size 0 v).ρ j = E.ρ j := by simp [Env.upd, (St.fresh_bx hf hj).1]
    rw [this]
    have := box_lt (hi.heap.box j b' hj hn)
    omega
  · intro j t hj
    rw [hid]
    have e : (E.upd id w.heap.size 0 v).η j = E.η j := by simp [Env.upd, St.fresh_tk hf hj]
    rw [e]
    intro hg
    have := ownBlock_lt (hi.heap.tok j t hj) hg
    omega
  · rw [hid]; exact .inl hi.heap.kept.size
end
end Go.Abs
/- A logic of abstract states, part 18: copies into own blocks. Conditions: each rule's own premises; over any program. -/
namespace Go.Abs
open Go.RowKit (Below)
set_option linter.unusedVariables false
section
variable {P : Program} {c : Ctx} {st : St} {ops : Array Oper} {Q : Exit → Act → World → Prop} {rest : List Oper} {o : Oper}
end
end Go.Abs
/- A logic of abstract states, part 19: append of a make into own blocks. Conditions: each rule's own premises; over any program. -/
namespace Go.Abs
open Go.RowKit (Below)
set_option linter.unusedVariables false
section
variable {P : Program} {c : Ctx} {st : St} {ops : Array Oper} {Q : Exit → Act → World → Prop} {rest : List Oper} {o : Oper}
end
end Go.Abs
/- A logic of abstract states, part 20: two slices in two boxes do not overlap. Conditions: each rule's own premises; over any program. -/
namespace Go.Abs
open Go.RowKit (Below)
set_option linter.unusedVariables false
section
variable {P : Program} {c : Ctx} {st : St} {ops : Array Oper} {Q : Exit → Act → World → Prop} {rest : List Oper} {o : Oper}
end
end Go.Abs
/- A logic of abstract states, part 21: a box of one's own is published. Conditions: each rule's own premises; over any program. -/
namespace Go.Abs
open Go.RowKit (Below)
set_option linter.unusedVariables false
end Go.Abs
/- A logic of abstract states, part 22: a contract under other names of its objects. Conditions: the renaming has an inverse; over any program. -/
namespace Go.Abs
open Go.RowKit (Below)
set_option linter.unusedVariables false
mutual
def AV.ren (π : Nat → Nat) : AV → AV
  | .row i es => .row (π i) es
  | .ptr i o => .ptr (π i) o
  | .bsl i o n c => .bsl (π i) o n c
  | .bsh i o n k => .bsh (π i) o n k
  | .agg cs => .agg (AV.rens π cs)
  | .tup cs => .tup (AV.rens π cs)
  | .fn f cs => .fn f (AV.rens π cs)
  | .opt b v => .opt b (AV.ren π v)
  | .any => .any
  | .iv x => .iv x
  | .nils => .nils
  | .el cs => .el cs
def AV.rens (π : Nat → Nat) : List AV → List AV
  | [] => []
  | c :: cs => AV.ren π c :: AV.rens π cs
end
theorem AV.rens_map {π : Nat → Nat} : ∀ cs : List AV, AV.rens π cs = cs.map (AV.ren π)
  | [] => by simp [AV.rens]
  | c :: cs => by simp [AV.rens, AV.rens_map cs]
def Env.of (π : Nat → Nat) (E : Env) : Env := ⟨E.φ, fun i => E.ρ (π i), fun i => E.η (π i)⟩
mutual
theorem RepA.unren {π : Nat → Nat} {E : Env} {w : World} : ∀ (v : AV) {u : Value}, RepA E w (v.ren π) u → RepA (E.of π) w v u
  | .any, u, _ => .any
  | .iv x, u, h => by simp only [AV.ren] at h; cases h with | iv h => exact .iv h
  | .nils, u, h => by simp only [AV.ren] at h; cases h; exact .nils
  | .el cs, u, h => by simp only [AV.ren] at h; cases h with | el f hc hr => exact .el f hc hr
  | .row i es, u, h => by simp only [AV.ren] at h; cases h with | row hu h => exact .row hu h
  | .ptr i o, u, h => by simp only [AV.ren] at h; cases h with | ptr hu => exact .ptr hu
  | .bsl i o n c, u, h => by simp only [AV.ren] at h; cases h with | bsl hn hm ho hu => exact .bsl hn hm ho hu
  | .bsh i o n k, u, h => by simp only [AV.ren] at h; cases h with | bsh hn hm he ho hu => exact .bsh hn hm he ho hu
  | .agg cs, u, h => by
    simp only [AV.ren] at h
    cases h with
    | agg hl h1 h => obtain ⟨e1, e2⟩ := RepA.unrens cs hl h; exact .agg e1 h1 e2
  | .tup cs, u, h => by
    simp only [AV.ren] at h
    cases h with
    | tup hl h => obtain ⟨e1, e2⟩ := RepA.unrens cs hl h; exact .tup e1 e2
  | .fn f cs, u, h => by
    simp only [AV.ren] at h
    cases h with
    | fn hl h => obtain ⟨e1, e2⟩ := RepA.unrens cs hl h; exact .fn e1 e2
  | .opt b v, u, h => by
    simp only [AV.ren] at h
    cases h with
    | optT h => exact .optT (RepA.unren v h)
    | optF => exact .optF
theorem RepA.unrens {π : Nat → Nat} {E : Env} {w : World} : ∀ (cs : List AV) {us : List Value}, us.length = (AV.rens π cs).length → (∀ (i : Nat) (c : AV) (u : Value), (AV.rens π cs)[i]? = some c → us[i]? = some u → RepA E w c u) →
    us.length = cs.length ∧ ∀ (i : Nat) (c : AV) (u : Value), cs[i]? = some c → us[i]? = some u → RepA (E.of π) w c u
  | [], us, hl, h => ⟨by simpa [AV.rens] using hl, fun i c u hc => by simp at hc⟩
  | c :: cs, [], hl, h => by simp [AV.rens] at hl
  | c :: cs, u :: us, hl, h => by
    obtain ⟨e1, e2⟩ := RepA.unrens cs (us := us) (by simpa [AV.rens] using hl) (fun i c u hc hu => h (i + 1) c u (by simpa [AV.rens] using hc) (by simpa using hu))
    refine ⟨by simp [e1], fun i c' u' hc hu => ?_⟩
    cases i with
    | zero => simp at hc hu; subst hc; subst hu; exact RepA.unren c (h 0 _ u (by simp [AV.rens]) rfl)
    | succ i => exact e2 i c' u' (by simpa using hc) (by simpa using hu)
end
mutual
theorem RepA.doren {π : Nat → Nat} {E : Env} {w : World} : ∀ (v : AV) {u : Value}, RepA (E.of π) w v u → RepA E w (v.ren π) u
  | .any, u, _ => .any
  | .iv x, u, h => by simp only [AV.ren]; cases h with | iv h => exact .iv h
  | .nils, u, h => by simp only [AV.ren]; cases h; exact .nils
  | .el cs, u, h => by simp only [AV.ren]; cases h with | el f hc hr => exact .el f hc hr
  | .row i es, u, h => by simp only [AV.ren]; cases h with | row hu h => exact .row hu h
  | .ptr i o, u, h => by simp only [AV.ren]; cases h with | ptr hu => exact .ptr hu
  | .bsl i o n c, u, h => by simp only [AV.ren]; cases h with | bsl hn hm ho hu => exact .bsl hn hm ho hu
  | .bsh i o n k, u, h => by simp only [AV.ren]; cases h with | bsh hn hm he ho hu => exact .bsh hn hm he ho hu
  | .agg cs, u, h => by
    simp only [AV.ren]
    cases h with
    | agg hl h1 h => obtain ⟨e1, e2⟩ := RepA.dorens cs hl h; exact .agg e1 h1 e2
  | .tup cs, u, h => by
    simp only [AV.ren]
    cases h with
    | tup hl h => obtain ⟨e1, e2⟩ := RepA.dorens cs hl h; exact .tup e1 e2
  | .fn f cs, u, h => by
    simp only [AV.ren]
    cases h with
    | fn hl h => obtain ⟨e1, e2⟩ := RepA.dorens cs hl h; exact .fn e1 e2
  | .opt b v, u, h => by
    simp only [AV.ren]
    cases h with
    | optT h => exact .optT (RepA.doren v h)
    | optF => exact .optF
theorem RepA.dorens {π : Nat → Nat} {E : Env} {w : World} : ∀ (cs : List AV) {us : List Value}, us.length = cs.length → (∀ (i : Nat) (c : AV) (u : Value), cs[i]? = some c → us[i]? = some u → RepA (E.of π) w c u) →
    us.length = (AV.rens π cs).length ∧ ∀ (i : Nat) (c : AV) (u : Value), (AV.rens π cs)[i]? = some c → us[i]? = some u → RepA E w c u
  | [], us, hl, h => ⟨by simpa [AV.rens] using hl, fun i c u hc => by simp [AV.rens] at hc⟩
  | c :: cs, [], hl, h => by simp at hl
  | c :: cs, u :: us, hl, h => by
    obtain ⟨e1, e2⟩ := RepA.dorens cs (us := us) (by simpa using hl) (fun i c u hc hu => h (i + 1) c u (by simpa using hc) (by simpa using hu))
    refine ⟨by simp [AV.rens, e1], fun i c' u' hc hu => ?_⟩
    cases i with
    | zero => simp [AV.rens] at hc hu; subst hc; subst hu; exact RepA.doren c (h 0 _ u rfl rfl)
    | succ i => exact e2 i c' u' (by simpa [AV.rens] using hc) (by simpa using hu)
end
def Box.ren (π : Nat → Nat) (b : Box) : Box :=
  match b.c with
  | .l cs => ⟨b.ty, .l (AV.rens π cs)⟩
  | .r xs m => ⟨b.ty, .r xs m⟩
theorem Box.ren_ty {π : Nat → Nat} (b : Box) : (b.ren π).ty = b.ty := by obtain ⟨ty, c⟩ := b; cases c <;> rfl
theorem rens_iv {π : Nat → Nat} : ∀ xs : List IV, AV.rens π (xs.map .iv) = xs.map .iv
  | [] => by simp [AV.rens]
  | x :: xs => by simp [AV.rens, AV.ren, rens_iv xs]
theorem rens_any {π : Nat → Nat} : ∀ m : Nat, AV.rens π (List.replicate m .any) = List.replicate m .any
  | 0 => by simp [AV.rens]
  | m + 1 => by simp [List.replicate_succ, AV.rens, AV.ren, rens_any m]
theorem rens_app {π : Nat → Nat} (l m : List AV) : AV.rens π (l ++ m) = AV.rens π l ++ AV.rens π m := by simp [AV.rens_map]
theorem Box.ren_cs {π : Nat → Nat} (b : Box) : (b.ren π).cs = AV.rens π b.cs := by
  obtain ⟨ty, c⟩ := b
  cases c with
  | l cs => rfl
  | r xs m => simp only [Box.ren, Box.cs_r, rens_app, rens_iv, rens_any]
theorem Box.ren_ne {π : Nat → Nat} {b : Box} : (b.ren π).cs ≠ [] ↔ b.cs ≠ [] := by
  rw [Box.ren_cs, AV.rens_map]; simp
theorem BoxOk.unren {π : Nat → Nat} {E : Env} {w : World} {id : Nat} {b : Box} (h : BoxOk E w (π id) (b.ren π)) : BoxOk (E.of π) w id b := by
  obtain ⟨h0, arr, ha, hl, h1, hr, hη⟩ := h
  rw [Box.ren_ty] at ha
  rw [Box.ren_cs] at hl hr
  refine ⟨h0, arr, ha, by simpa [AV.rens_map] using hl, h1, fun i c u hc hu => ?_, hη⟩
  exact RepA.unren c (hr i _ u (by rw [AV.rens_map, List.getElem?_map, hc]; rfl) hu)
theorem BoxOk.doren {π : Nat → Nat} {E : Env} {w : World} {id : Nat} {b : Box} (h : BoxOk (E.of π) w id b) : BoxOk E w (π id) (b.ren π) := by
  obtain ⟨h0, arr, ha, hl, h1, hr, hη⟩ := h
  refine ⟨h0, arr, by rw [Box.ren_ty]; exact ha, by rw [Box.ren_cs]; simpa [AV.rens_map] using hl, h1, fun i c u hc hu => ?_, hη⟩
  rw [Box.ren_cs, AV.rens_map, List.getElem?_map, Option.map_eq_some_iff] at hc
  obtain ⟨c0, hc0, rfl⟩ := hc
  exact RepA.doren c0 (hr i c0 u hc0 hu)
def renB (π : Nat → Nat) (bx : List (Nat × Box)) : List (Nat × Box) := bx.map (fun p => (π p.1, p.2.ren π))
def renT (π : Nat → Nat) (tk : List (Nat × Tok)) : List (Nat × Tok) := tk.map (fun p => (π p.1, p.2))
theorem lookup_ren {β γ : Type} {π σ : Nat → Nat} (hσ : ∀ n, σ (π n) = n) (f : β → γ) : ∀ (l : List (Nat × β)) (i : Nat), (l.map (fun p => (π p.1, f p.2))).lookup (π i) = (l.lookup i).map f
  | [], i => rfl
  | (t, v) :: l, i => by
    by_cases e : i = t
    · subst e; simp [List.lookup]
    · have e1 : (i == t) = false := by simpa using e
      have e2 : (π i == π t) = false := by
        have : π i ≠ π t := fun h => e (by rw [← hσ i, h, hσ])
        simpa using this
      simpa [List.lookup, e1, e2] using lookup_ren hσ f l i
theorem lookup_ren' {β γ : Type} {π σ : Nat → Nat} (hσ : ∀ n, σ (π n) = n) (hπ : ∀ n, π (σ n) = n) (f : β → γ) (l : List (Nat × β)) (i : Nat) : (l.map (fun p => (π p.1, f p.2))).lookup i = (l.lookup (σ i)).map f := by
  rw [← hπ i, lookup_ren hσ f l (σ i), hσ]
theorem CallG.ren {gs : Globs} {P : Program} {f : FuncId} {args : List AV} {bx bx' : List (Nat × Box)} {tk' : List (Nat × Tok)} {res : AV} (π σ : Nat → Nat) (hσ : ∀ n, σ (π n) = n) (hπ : ∀ n, π (σ n) = n) (h : CallG gs P f args bx bx' tk' res) :
    CallG gs P f (AV.rens π args) (renB π bx) (renB π bx') (renT π tk') (res.ren π) := by
  intro E w us hrel hh hG
  have hπσ : ∀ i, π i = i ∨ True := fun _ => .inr trivial
  have hlk : ∀ (i : Nat) (b : Box), bx.lookup i = some b → (renB π bx).lookup (π i) = some (b.ren π) := fun i b hb => by
    unfold renB; rw [lookup_ren hσ (Box.ren π), hb]; rfl
  have hlu : ∀ (i : Nat) (b : Box), (renB π bx').lookup i = some b → ∃ b0, bx'.lookup (σ i) = some b0 ∧ b0.ren π = b := fun i b hb => by
    unfold renB at hb; rw [lookup_ren' hσ hπ (Box.ren π), Option.map_eq_some_iff] at hb; exact hb
  have hlt : ∀ (i : Nat) (t : Tok), (renT π tk').lookup i = some t → tk'.lookup (σ i) = some t := fun i t ht => by
    unfold renT at ht
    have := lookup_ren' hσ hπ (fun t : Tok => t) tk' i
    rw [this] at ht; simpa using ht
  have hargs : RelL (E.of π) w args us := by
    obtain ⟨e1, e2⟩ := RepA.unrens args hrel.1 hrel.2
    exact ⟨e1, e2⟩
  have hM : ∀ g, Ctx.M ⟨0, w, E.of π, keys bx⟩ g ↔ Ctx.M ⟨0, w, E, keys (renB π bx)⟩ g := fun g => by
    constructor
    · rintro ⟨id, hid, e1, e2⟩
      refine ⟨π id, ?_, e1, e2⟩
      simp only [keys, renB, List.map_map, List.mem_map] at hid ⊢
      obtain ⟨p, hp, rfl⟩ := hid
      exact ⟨p, hp, rfl⟩
    · rintro ⟨id, hid, e1, e2⟩
      simp only [keys, renB, List.map_map, List.mem_map] at hid
      obtain ⟨p, hp, rfl⟩ := hid
      exact ⟨p.1, List.mem_map.2 ⟨p, hp, rfl⟩, e1, e2⟩
  have hin : HInv ⟨0, w, E.of π, keys bx⟩ (E.of π) bx [] w := by
    refine ⟨fun i b hb hn => ?_, fun i t ht => by simp at ht, fun i j b b' hi hj hn hn' he => ?_, fun i j t t' g hi => by simp at hi, fun i j b t hi hn hj => by simp at hj, fun i b hb hn => ?_, fun j t g hj => by simp at hj, hh.new, fun _ _ => rfl, fun i hi => ⟨rfl, rfl, ?_⟩, KeptBut.refl _ _⟩
    · exact (hh.box (π i) _ (hlk i b hb) (Box.ren_ne.2 hn)).unren
    · have := hh.bb (π i) (π j) _ _ (hlk i b hi) (hlk j b' hj) (Box.ren_ne.2 hn) (Box.ren_ne.2 hn') he
      rw [← hσ i, this, hσ]
    · rcases hh.own (π i) _ (hlk i b hb) (Box.ren_ne.2 hn) with h | h
      · exact .inl h
      · exact .inr ((hM _).2 h)
    · obtain ⟨b, hb⟩ := mem_keys hi; show (List.lookup i bx).isSome = true; rw [hb]; rfl
  refine (h (E.of π) w us hargs hin hG).mono ?_
  rintro e w' ⟨u, E1, he, hu, ho⟩
  have hE : (Env.of π ⟨E1.φ, fun i => E1.ρ (σ i), fun i => E1.η (σ i)⟩) = E1 := by simp [Env.of, hσ]
  have hEof : ∀ i, (⟨E1.φ, fun i => E1.ρ (σ i), fun i => E1.η (σ i)⟩ : Env).ρ (π i) = E1.ρ i := fun i => by simp [hσ]
  refine ⟨u, ⟨E1.φ, fun i => E1.ρ (σ i), fun i => E1.η (σ i)⟩, he, RepA.doren res (by rw [hE]; exact hu), ?_⟩
  refine ⟨fun i b hb hn => ?_, fun i t ht => ?_, fun i j b b' hi hj hn hn' he => ?_, fun i j t t' g hi hj h1 h2 => ?_, fun i j b t hi hn hj => ?_, fun i b hb hn => ?_, fun j t g hj hg => ?_, ho.new, fun b hb => ho.old b hb, fun i hi => ?_, ?_⟩
  · obtain ⟨b0, h0, rfl⟩ := hlu i b hb
    have := BoxOk.doren (π := π) (E := ⟨E1.φ, fun i => E1.ρ (σ i), fun i => E1.η (σ i)⟩) (by rw [hE]; exact ho.box (σ i) b0 h0 (Box.ren_ne.1 hn))
    rw [hπ] at this; exact this
  · exact ho.tok (σ i) t (hlt i t ht)
  · obtain ⟨b0, h0, rfl⟩ := hlu i b hi
    obtain ⟨b1, h1, rfl⟩ := hlu j b' hj
    have := ho.bb (σ i) (σ j) b0 b1 h0 h1 (Box.ren_ne.1 hn) (Box.ren_ne.1 hn') he
    rw [← hπ i, this, hπ]
  · have := ho.tt (σ i) (σ j) t t' g (hlt i t hi) (hlt j t' hj) h1 h2
    rw [← hπ i, this, hπ]
  · obtain ⟨b0, h0, rfl⟩ := hlu i b hi
    exact ho.bt (σ i) (σ j) b0 t h0 (Box.ren_ne.1 hn) (hlt j t hj)
  · obtain ⟨b0, h0, rfl⟩ := hlu i b hb
    rcases ho.own (σ i) b0 h0 (Box.ren_ne.1 hn) with h | h
    · exact .inl h
    · exact .inr ((hM _).1 h)
  · exact ho.ownt (σ j) t g (hlt j t hj) hg
  · simp only [keys, renB, List.map_map, List.mem_map] at hi
    obtain ⟨p, hp, rfl⟩ := hi
    obtain ⟨e1, e2, e3⟩ := ho.ins p.1 (List.mem_map.2 ⟨p, hp, rfl⟩)
    refine ⟨by simpa [hσ, Env.of] using e1, by simpa [hσ, Env.of] using e2, ?_⟩
    obtain ⟨b, hb⟩ := Option.isSome_iff_exists.1 e3
    show (List.lookup (π p.1) (renB π bx')).isSome = true
    unfold renB; rw [lookup_ren hσ (Box.ren π), hb]; rfl
  · exact ⟨ho.kept.os, ho.kept.tape, ho.kept.output, ho.kept.size, fun k hk hm => ho.kept.block k hk (fun hM' => hm ((hM k).1 hM'))⟩
def sw (a b n : Nat) : Nat := if n = a then b else if n = b then a else n
theorem sw_sw (a b n : Nat) : sw a b (sw a b n) = n := by
  unfold sw; split <;> split <;> (try split) <;> omega
def sws : List (Nat × Nat) → Nat → Nat
  | [], n => n
  | (a, b) :: r, n => sw (sws r a) b (sws r n)
def swsI : List (Nat × Nat) → Nat → Nat
  | [], n => n
  | (a, b) :: r, n => swsI r (sw (sws r a) b n)
theorem swsI_sws : ∀ (l : List (Nat × Nat)) (n : Nat), swsI l (sws l n) = n
  | [], n => rfl
  | (a, b) :: r, n => by simp only [sws, swsI, sw_sw, swsI_sws r n]
theorem sws_swsI : ∀ (l : List (Nat × Nat)) (n : Nat), sws l (swsI l n) = n
  | [], n => rfl
  | (a, b) :: r, n => by simp only [sws, swsI, sws_swsI r, sw_sw]
theorem sws_hd (a b : Nat) (r : List (Nat × Nat)) : sws ((a, b) :: r) a = b := by simp [sws, sw]
theorem CallG.sws {gs : Globs} {P : Program} {f : FuncId} {args args2 : List AV} {bx bx' bx2 bx2' : List (Nat × Box)} {tk' tk2' : List (Nat × Tok)} {res res2 : AV} (l : List (Nat × Nat)) (h : CallG gs P f args bx bx' tk' res)
    (h1 : AV.rens (Abs.sws l) args = args2) (h2 : renB (Abs.sws l) bx = bx2) (h3 : renB (Abs.sws l) bx' = bx2') (h4 : renT (Abs.sws l) tk' = tk2') (h5 : res.ren (Abs.sws l) = res2) : CallG gs P f args2 bx2 bx2' tk2' res2 := by
  subst h1; subst h2; subst h3; subst h4; subst h5
  exact h.ren _ _ (swsI_sws l) (sws_swsI l)
mutual
theorem AV.ren_id {π : Nat → Nat} : ∀ v : AV, AV.mentIn [] v = true → v.ren π = v
  | .any, _ => rfl
  | .iv _, _ => rfl
  | .nils, _ => rfl
  | .el _, _ => rfl
  | .row i _, h => by simp [AV.mentIn] at h
  | .ptr i _, h => by simp [AV.mentIn] at h
  | .bsl i _ _ _, h => by simp [AV.mentIn] at h
  | .bsh i _ _ _, h => by simp [AV.mentIn] at h
  | .agg cs, h => by rw [AV.ren, AV.rens_id cs (by simpa [AV.mentIn] using h)]
  | .tup cs, h => by rw [AV.ren, AV.rens_id cs (by simpa [AV.mentIn] using h)]
  | .fn _ cs, h => by rw [AV.ren, AV.rens_id cs (by simpa [AV.mentIn] using h)]
  | .opt _ v, h => by rw [AV.ren, AV.ren_id v (by simpa [AV.mentIn] using h)]
theorem AV.rens_id {π : Nat → Nat} : ∀ vs : List AV, AV.mentsIn [] vs = true → AV.rens π vs = vs
  | [], _ => rfl
  | v :: vs, h => by
    simp only [AV.mentsIn, Bool.and_eq_true] at h
    rw [AV.rens, AV.ren_id v h.1, AV.rens_id vs h.2]
end
end Go.Abs
/- A logic of abstract states, part 23: rows of one's own whose contents are published values: reading, writing, appending, handing over. Conditions: each rule's own premises; over any program. -/
namespace Go.Abs
open Go.RowKit (Below)
set_option linter.unusedVariables false
section
variable {P : Program} {c : Ctx} {st : St} {ops : Array Oper} {Q : Exit → Act → World → Prop} {rest : List Oper} {o : Oper}
theorem Inv.recell {E : Env} {a : Act} {w : World} {fr : List (Nat × AV)} {bx : List (Nat × Box)} {tk : List (Nat × Tok)} {id : Nat} {b b' : Box} (h : Inv c E ⟨fr, (id, b) :: bx, tk⟩ a w) (ht : b.ty = b'.ty) (hc : Subs b.cs b'.cs) : Inv c E ⟨fr, (id, b') :: bx, tk⟩ a w := by
  refine ⟨h.defers, h.size, h.slot, HInv.wk (st := ⟨fr, (id, b) :: bx, tk⟩) (st' := ⟨fr, (id, b') :: bx, tk⟩) h.heap ⟨fun i hin => ?_, fun s v hv => ⟨v, hv, Sub.refl _⟩, fun i b1 hi => ?_, fun i t h => h⟩⟩
  · have h3 := (h.heap.ins i hin).2.2
    simp only at h3 ⊢
    by_cases e : i = id
    · subst e; rw [lookup_cons_eq]; rfl
    · rw [lookup_cons_ne e] at h3 ⊢; exact h3
  · simp only at hi ⊢
    by_cases e : i = id
    · subst e; rw [lookup_cons_eq] at hi ⊢; cases hi; exact ⟨b, rfl, ht, hc⟩
    · rw [lookup_cons_ne e] at hi ⊢; exact ⟨b1, hi, rfl, Subs.refl _⟩
theorem Subs.of_eq {l l' : List AV} (h : l = l') : Subs l l' := h ▸ Subs.refl l
end
end Go.Abs
/- A logic of abstract states, part 24: rows of one's own: storing, loading, clearing, literals, publishing; calls that are handed rows. Conditions: each rule's own premises; over any program. -/
namespace Go.Abs
open Go.RowKit (Below)
set_option linter.unusedVariables false
set_option linter.unusedSimpArgs false
section
variable {P : Program} {c : Ctx} {st : St} {ops : Array Oper} {Q : Exit → Act → World → Prop} {rest : List Oper} {o : Oper}
end
end Go.Abs
/- A logic of abstract states, part 25: an append that uses its row up; loops unrolled; nil slices with room to come. Conditions: each rule's own premises; over any program. -/
namespace Go.Abs
open Go.RowKit (Below)
set_option linter.unusedVariables false
set_option linter.unusedSimpArgs false
mutual
theorem mentIn_mono {l : List Nat} : ∀ (v : AV), AV.mentIn [] v = true → AV.mentIn l v = true
  | .any, _ => rfl
  | .iv _, _ => rfl
  | .nils, _ => rfl
  | .el _, _ => rfl
  | .row i _, h => by simp [AV.mentIn] at h
  | .ptr i _, h => by simp [AV.mentIn] at h
  | .bsl i _ _ _, h => by simp [AV.mentIn] at h
  | .bsh i _ _ _, h => by simp [AV.mentIn] at h
  | .agg cs, h => by simp only [AV.mentIn] at h ⊢; exact mentsIn_mono cs h
  | .tup cs, h => by simp only [AV.mentIn] at h ⊢; exact mentsIn_mono cs h
  | .fn _ cs, h => by simp only [AV.mentIn] at h ⊢; exact mentsIn_mono cs h
  | .opt _ v, h => by simp only [AV.mentIn] at h ⊢; exact mentIn_mono v h
theorem mentsIn_mono {l : List Nat} : ∀ (vs : List AV), AV.mentsIn [] vs = true → AV.mentsIn l vs = true
  | [], _ => rfl
  | v :: vs, h => by
    simp only [AV.mentsIn, Bool.and_eq_true] at h ⊢
    exact ⟨mentIn_mono v h.1, mentsIn_mono vs h.2⟩
end
section
variable {P : Program} {c : Ctx} {st : St} {ops : Array Oper} {Q : Exit → Act → World → Prop} {rest : List Oper} {o : Oper}
theorem Yields.capNil {t : TypeId} {x : Operand} (ho : o.op = .call { callee := .builtin .cap, args := #[x], argTypes := #[t] }) {e : TypeId} {k : Nat} (hs : sliceOk P t e k = true) (hx : st.ev x = .nils) : Yields P c st o (aI 0) :=
  .im rfl fun E a w hi => by
    obtain ⟨hu, _⟩ := sliceOk_run hs
    have h := hi.ev x; rw [hx] at h
    have hq : a.eval x = .slice none 0 0 := by generalize a.eval x = u at h; cases h; rfl
    simp [execOp, ho, resolve, invoke, builtin, hq, Builtin.cap_, run_underlying hu, goInt]
theorem Yields.slNil {x y : Operand} {t e : TypeId} {k : Nat} {kd : IntKind} {j : Int} (ho : o.op = .slice t x none (some y) none) (hx : st.ev x = .nils) (hy : st.ev y = .iv (.im (.int kd j))) (hs : sliceOk P t e k = true) (h0 : j = 0) : Yields P c st o .nils := fun E a w hi => by
  obtain ⟨hu, hz⟩ := sl_facts hs w
  have h := hi.ev x; rw [hx] at h
  have hq : a.eval x = .slice none 0 0 := by generalize a.eval x = u at h; cases h; rfl
  refine ⟨_, ?_, .nils⟩
  subst h0
  have := run_slice_h (P := P) w t none 0 0 hu kd 0 (by omega) (by omega)
  simp [execOp, ho, hq, hi.im hy, run_sliceAt_slice w t _ _ _ _ hu, this, hz, Result.andThen, sliced]
theorem Yields.slBshH {x y : Operand} {t e : TypeId} {k id n : Nat} {kd : IntKind} {j : Int} (ho : o.op = .slice t x none (some y) none) (hx : st.ev x = .bsh id 0 n k) (hy : st.ev y = .iv (.im (.int kd j))) (hs : sliceOk P t e k = true)
    (h0 : 0 ≤ j) (h1 : j ≤ n) : Yields P c st o (.bsh id 0 j.toNat k) := fun E a w hi => by
  obtain ⟨hu, hz⟩ := sl_facts hs w
  have h := hi.ev x; rw [hx] at h
  obtain ⟨cap, o', hq, hn, hm, he, hoo⟩ := h.bsh_inv
  simp only [Nat.sub_zero, Nat.zero_mul, Nat.zero_add] at hq hn hoo
  have := run_slice_h (P := P) w t (some ⟨E.ρ id, o', none⟩) n cap hu kd j h0 (by omega)
  have hs2 : sliced (some ⟨E.ρ id, o', none⟩) 0 j.toNat cap k = .slice (some ⟨E.ρ id, o', none⟩) j.toNat cap := by
    unfold sliced
    by_cases e : cap = 0
    · rw [if_pos e]
      have : j.toNat = 0 := by omega
      simp [this, e]
    · rw [if_neg e]; simp [Addr.add_none]
  refine ⟨.slice (some ⟨E.ρ id, o', none⟩) j.toNat cap, ?_, .bsh (cap := cap) (o := o') (by omega) hm he (fun h => by simpa using hoo (by omega)) (by simp)⟩
  simp [execOp, ho, hq, hi.im hy, run_sliceAt_slice w t _ _ _ _ hu, this, hz, Result.andThen, hs2]
theorem Makes.growNZ {t t' e : TypeId} {kd kd' : IntKind} {x y : Operand} {m : Nat} {id' k bytes : Nat} {i : TypeInfo} {z : Value}
    (ho : o.op = .call { callee := .builtin .append, args := #[x, y], argTypes := #[t, t'] }) (ht : P.underlying t = some (.slice e)) (hi0 : P.info? e = some i) (hik : i.size = k) (hib : i.bytes = bytes) (hiz : i.zero = some z) (hzk : z.cells.size = k) (hz1 : ∀ u ∈ z.cells.toList, u.oneCell' = true)
    (hd : P.underlying t' = some (.int kd)) (hk0 : 0 < k) (hx : st.ev x = .nils) (hy : st.ev y = .iv (.im (.int kd' (m : Int)))) (hpos : 0 < m)
    (hm : m ≤ maxLen) (hby : m * bytes ≤ 140737488355328) (hf : st.fresh id' = true) :
    Makes P c st o (.bsh id' 0 m k) ((id', ⟨e, .r [] (m * k)⟩) :: st.bx) st.tk := fun E a w hi => by
  subst hik; subst hib
  have hyq := hi.im hy
  have h := hi.ev x; rw [hx] at h
  have hq : a.eval x = .slice none 0 0 := by generalize a.eval x = u at h; cases h; rfl
  have hexec : (execOp a.eval o).run P w = ((Builtin.append_ #[t, t'] o.type #[a.eval x, a.eval y]).run P w).andThen fun v w' => .ok (.value v) w' := by
    simp [execOp, ho, resolve, invoke, builtin]
  have hrun := Lib.run_append_grow_zeros w t t' o.type e i z kd' kd ht hd hi0 hiz none 0 0 [] (by simp [Builtin.firstCells]) m hpos hk0 (by omega) (by simp only [maxLen] at hm; omega) (by omega) (growslice_fits (by omega) (by simpa using hby))
  simp only [Nat.zero_add] at hrun
  have hge : m ≤ grownCap w m 0 e := grownCap_ge _ _ _ _
  have hcm := grownCap_le_maxLen w m 0 e hm
  have hlen : ((Builtin.zeroCells z.cells m).toList ++ (Builtin.zeroCells z.cells (grownCap w m 0 e - m)).toList).length = grownCap w m 0 e * i.size := by
    simp only [List.length_append, Array.length_toList, size_zeroCells, hzk]
    rw [← Nat.add_mul]; congr 1; omega
  have hul : (Builtin.zeroCells z.cells m).toList.length = m * i.size := by rw [Array.length_toList, size_zeroCells, hzk]
  have hz0 : ∀ (q : Nat) (u : Value), u ∈ (Builtin.zeroCells z.cells q).toList → u.oneCell' = true := fun q u hu => by
    simp only [Builtin.zeroCells, Array.toList_map, Array.toList_range, List.mem_map, List.mem_range] at hu
    obtain ⟨p, _, rfl⟩ := hu
    have hlt : p % z.cells.size < z.cells.size := Nat.mod_lt _ (by rw [hzk]; exact hk0)
    rw [getElem!_pos z.cells _ hlt]
    exact hz1 _ (by simp)
  have hi' := hi.drew.newRoom hf (ty := e) (cs := List.replicate (m * i.size) AV.any) (us := (Builtin.zeroCells z.cells m).toList ++ (Builtin.zeroCells z.cells (grownCap w m 0 e - m)).toList) (capV i.size (grownCap w m 0 e))
    (by rw [hlen, List.length_replicate]; exact Nat.mul_le_mul_right _ hge)
    (fun p x u hx hu => by
      simp only [List.getElem?_replicate] at hx
      split at hx
      · cases hx; exact .any
      · cases hx)
    (fun u hu => by
      rcases List.mem_append.1 hu with hu | hu
      · exact hz0 _ u hu
      · exact hz0 _ u hu)
    (ments_any _ _) (fun k' cap' he => by
      obtain ⟨rfl, rfl⟩ := capV_inj he
      exact Nat.le_of_eq hlen.symm)
  refine ⟨_, _, _, ?_, hi'.recell (b' := ⟨e, .r [] (m * i.size)⟩) rfl (Subs.of_eq (by simp)), .bsh (cap := grownCap w m 0 e) (o := 0) (by omega) hcm (by simp [Env.upd]) (fun _ => by simp) rfl⟩
  rw [hexec, hq, hyq, hrun]
  simp [Env.upd]
  congr 2
  apply Array.ext'
  simp
end
end Go.Abs
/- A logic of abstract states, part 26: rows that grow in the cells of a box. Conditions: each rule's own premises; over any program. -/
namespace Go.Abs
open Go.RowKit (Below)
set_option linter.unusedVariables false
set_option linter.unusedSimpArgs false
variable {P : Program} {c : Ctx} {st : St}
inductive Tk (a b : Nat) : AV → AV → Prop
  | same {v : AV} : Tk a b v v
  | row {es : List (List IV)} : Tk a b (.row a es) (.row b es)
  | agg {l l' : List AV} (hl : l'.length = l.length) (h : ∀ (i : Nat) (x y : AV), l[i]? = some x → l'[i]? = some y → Tk a b x y) : Tk a b (.agg l) (.agg l')
inductive Tks (a b : Nat) : List AV → List AV → Prop
  | nil : Tks a b [] []
  | cons {v v' : AV} {l l' : List AV} (h : Tk a b v v') (t : Tks a b l l') : Tks a b (v :: l) (v' :: l')
theorem Tks.get {a b : Nat} {l l' : List AV} (h : Tks a b l l') : l'.length = l.length ∧ ∀ (i : Nat) (v : AV), l'[i]? = some v → ∃ v0, l[i]? = some v0 ∧ Tk a b v0 v := by
  induction h with
  | nil => exact ⟨rfl, fun i v h => by simp at h⟩
  | cons h _ ih =>
    refine ⟨by simp [ih.1], fun i v hv => ?_⟩
    cases i with
    | zero => simp at hv; subst hv; exact ⟨_, rfl, h⟩
    | succ i => exact ih.2 i v (by simpa using hv)
theorem Tk.rep {a b : Nat} {E : Env} (he : E.η b = E.η a) {w : World} {v v' : AV} (h : Tk a b v v') : ∀ {u : Value}, RepA E w v u → RepA E w v' u := by
  induction h with
  | same => exact fun hu => hu
  | row =>
    intro u hu
    cases hu with
    | row hu h => exact .row (by rw [he]; exact hu) h
  | agg hl h ih =>
    intro u hu
    cases hu with
    | agg hl2 h1 hr =>
      refine .agg (by rw [hl2, hl]) h1 (fun i x y hx hy => ?_)
      have hi := (List.getElem?_eq_some_iff.1 hx).1
      rw [hl] at hi
      exact ih i _ x (List.getElem?_eq_getElem hi) hx (hr i _ y (List.getElem?_eq_getElem hi) hy)
theorem HInv.recs {E : Env} {w : World} {tk : List (Nat × Tok)} {bx : List (Nat × Box)} (hh : HInv c E bx tk w) {j : Nat} {bj : Box} {cs : List AV} (hj : bx.lookup j = some bj) (hjn : bj.cs ≠ [])
    (hl : cs.length = bj.cs.length) (h : ∀ (i : Nat) (v : AV), cs[i]? = some v → ∃ v0, bj.cs[i]? = some v0 ∧ ∀ u, RepA E w v0 u → RepA E w v u) : HInv c E ((j, ⟨bj.ty, .l cs⟩) :: bx) tk w := by
  refine hh.reBox hj hjn (fun hn => ?_)
  obtain ⟨g0, arr, ha, hla, h1, hr, hη⟩ := hh.box j bj hj hjn
  refine ⟨g0, arr, ha, by simpa [hl] using hla, h1, fun i x u hx hu => ?_, hη⟩
  obtain ⟨v0, hv0, hp0⟩ := h i x hx
  exact hp0 u (hr i v0 u hv0 hu)
theorem retok_core {t : Tok} (a b : Nat) (ht : st.tk.lookup a = some t) (hf : st.fresh b = true) (hin : c.ins.contains b = false) {E : Env} {act : Act} {w : World} (hi : Inv c E st act w) :
    ∃ E' : Env, Inv c E' ⟨st.fr, st.bx, (b, t) :: delTok a st.tk⟩ act w ∧ E'.η b = E'.η a := by
  have hab : a ≠ b := St.fresh_tk hf ht
  have mono : ∀ (v : AV) (u : Value), AV.ment b v = false → RepA E w v u → RepA ⟨E.φ, E.ρ, fun i => if i = b then E.η a else E.η i⟩ w v u := fun v u hm hr =>
    hr.mono (E := E) (E' := ⟨E.φ, E.ρ, fun i => if i = b then E.η a else E.η i⟩) (fun _ _ _ => rfl) (fun _ => Nat.le_refl _) (fun i hi' => ⟨rfl, by
      have : i ≠ b := fun e => by subst e; rw [hm] at hi'; cases hi'
      simp [this]⟩)
  have hh : HInv c ⟨E.φ, E.ρ, fun i => if i = b then E.η a else E.η i⟩ st.bx st.tk w := hi.heap.reEta
    (fun i bb h0 k v u hv hr => mono v u (AV.ments_false (St.fresh_bx hf h0).2 k v hv) hr)
    (fun j t' hj => by simp only [if_neg (St.fresh_tk hf hj)])
    (fun id hid => by
      have : id ≠ b := fun e => by subst e; simp at hin; exact hin hid
      simp only [if_neg this])
    (fun i bb h0 => by simp only [if_neg (St.fresh_bx hf h0).1])
  have hh' : HInv c ⟨E.φ, E.ρ, fun i => if i = b then E.η a else E.η i⟩ st.bx (delTok a st.tk) w := by
    have hw : Wk c st ⟨st.fr, st.bx, delTok a st.tk⟩ := ⟨fun id hid => (hi.heap.ins id hid).2.2, fun s v hv => ⟨v, hv, Sub.refl _⟩, fun id bb hb => ⟨bb, hb, rfl, Subs.refl _⟩, fun id t' ht' => by
      simp only at ht'; rw [delTok_look'] at ht'
      split at ht'
      · cases ht'
      · exact ht'⟩
    exact hh.wk (st := st) (st' := ⟨st.fr, st.bx, delTok a st.tk⟩) hw
  refine ⟨⟨E.φ, E.ρ, fun i => if i = b then E.η a else E.η i⟩, ⟨hi.defers, hi.size, fun s' v hv => mono v _ (St.fresh_fr hf hv) (hi.slot s' v hv), ?_⟩, by simp [hab]⟩
  refine hh'.addTok ?_ (fun j t' g hj hl hg => ?_) (fun i bb hb hn => ?_) (fun g hg => ?_)
  · have := hi.heap.tok a t ht
    simp only [TokOk, if_true] at this ⊢
    exact this
  · rw [delTok_look'] at hl
    split at hl
    · cases hl
    · rename_i hja
      simp only [if_neg hj, if_true] at hg ⊢
      intro hg'
      exact hja (hi.heap.tt j a t' t g hl ht hg hg')
  · simp only [if_true]
    exact hi.heap.bt i a bb t hb hn ht
  · simp only [if_true] at hg
    exact hi.heap.ownt a t g ht hg
theorem L.retokB {t : Tok} {X : Act → World → Prop} {bj : Box} {cs : List AV} (j a b : Nat) (hj : st.bx.lookup j = some bj) (hjn : bj.cs ≠ []) (ht : st.tk.lookup a = some t) (hf : st.fresh b = true) (hin : c.ins.contains b = false) (hp : Tks a b bj.cs cs)
    (h : L c ⟨st.fr, (j, ⟨bj.ty, .l cs⟩) :: st.bx, (b, t) :: delTok a st.tk⟩ X) : L c st X := by
  rintro act w ⟨E, hi⟩
  obtain ⟨E', hi2, he⟩ := retok_core a b ht hf hin hi
  obtain ⟨hl, hg⟩ := hp.get
  exact h act w ⟨E', hi2.defers, hi2.size, hi2.slot, hi2.heap.recs hj hjn hl (fun i v hv => by
    obtain ⟨v0, h0, hq⟩ := hg i v hv
    exact ⟨v0, h0, fun u hu => hq.rep he hu⟩)⟩
inductive Ad (id : Nat) : AV → AV → Prop
  | same {v : AV} : Ad id v v
  | here : Ad id .nils (.row id [])
inductive Ads (id : Nat) : List AV → List AV → Prop
  | nil : Ads id [] []
  | cons {v v' : AV} {l l' : List AV} (h : Ad id v v') (t : Ads id l l') : Ads id (v :: l) (v' :: l')
theorem Ads.get {id : Nat} {l l' : List AV} (h : Ads id l l') : l'.length = l.length ∧ ∀ (i : Nat) (v : AV), l'[i]? = some v → ∃ v0, l[i]? = some v0 ∧ Ad id v0 v := by
  induction h with
  | nil => exact ⟨rfl, fun i v h => by simp at h⟩
  | cons h _ ih =>
    refine ⟨by simp [ih.1], fun i v hv => ?_⟩
    cases i with
    | zero => simp at hv; subst hv; exact ⟨_, rfl, h⟩
    | succ i => exact ih.2 i v (by simpa using hv)
theorem adopt_core (id : Nat) (t : TypeId) (k : Nat) (hf : st.fresh id = true) (hin : c.ins.contains id = false) {E : Env} {a : Act} {w : World} (hi : Inv c E st a w) :
    ∃ E' : Env, Inv c E' ⟨st.fr, st.bx, (id, ⟨t, k⟩) :: st.tk⟩ a w ∧ E'.η id = .slice none 0 0 := by
  have mono : ∀ (v : AV) (u : Value), AV.ment id v = false → RepA E w v u → RepA ⟨E.φ, E.ρ, fun i => if i = id then .slice none 0 0 else E.η i⟩ w v u := fun v u hm hr =>
    hr.mono (E := E) (E' := ⟨E.φ, E.ρ, fun i => if i = id then .slice none 0 0 else E.η i⟩) (fun _ _ _ => rfl) (fun _ => Nat.le_refl _) (fun i hi' => ⟨rfl, by
      have : i ≠ id := fun e => by subst e; rw [hm] at hi'; cases hi'
      simp [this]⟩)
  have hh : HInv c ⟨E.φ, E.ρ, fun i => if i = id then .slice none 0 0 else E.η i⟩ st.bx st.tk w := hi.heap.reEta
    (fun i bb h0 k v u hv hr => mono v u (AV.ments_false (St.fresh_bx hf h0).2 k v hv) hr)
    (fun j t' hj => by simp only [if_neg (St.fresh_tk hf hj)])
    (fun i hid => by
      have : i ≠ id := fun e => by subst e; simp at hin; exact hin hid
      simp only [if_neg this])
    (fun i bb h0 => by simp only [if_neg (St.fresh_bx hf h0).1])
  refine ⟨⟨E.φ, E.ρ, fun i => if i = id then .slice none 0 0 else E.η i⟩, ⟨hi.defers, hi.size, fun s' v hv => mono v _ (St.fresh_fr hf hv) (hi.slot s' v hv), ?_⟩, by simp⟩
  exact hh.addTok (.inl (by simp)) (fun j t' g hj hl hg => by simp [Value.ownBlock]) (fun i b hb hn => by simp [Value.ownBlock]) (fun g hg => by simp [Value.ownBlock] at hg)
theorem L.adoptB {X : Act → World → Prop} {bj : Box} {cs : List AV} (j id : Nat) (t : TypeId) (k : Nat) (hj : st.bx.lookup j = some bj) (hjn : bj.cs ≠ []) (hf : st.fresh id = true) (hin : c.ins.contains id = false) (hp : Ads id bj.cs cs)
    (h : L c ⟨st.fr, (j, ⟨bj.ty, .l cs⟩) :: st.bx, (id, ⟨t, k⟩) :: st.tk⟩ X) : L c st X := by
  rintro act w ⟨E, hi⟩
  obtain ⟨E', hi2, he⟩ := adopt_core id t k hf hin hi
  obtain ⟨hl, hg⟩ := hp.get
  exact h act w ⟨E', hi2.defers, hi2.size, hi2.slot, hi2.heap.recs hj hjn hl (fun i v hv => by
    obtain ⟨v0, h0, hq⟩ := hg i v hv
    refine ⟨v0, h0, fun u hu => ?_⟩
    cases hq with
    | same => exact hu
    | here => cases hu; exact .row (by rw [he]) .nil)⟩
theorem Box.ren_id {π : Nat → Nat} {b : Box} (h : AV.mentsIn [] b.cs = true) : b.ren π = b := by
  obtain ⟨ty, cc⟩ := b
  cases cc with
  | l cs => simp only [Box.cs_l] at h; simp only [Box.ren]; rw [AV.rens_id cs h]
  | r xs m => rfl
theorem L.callGN {gs : Globs} (N : List Nat) {o : Oper} {ops : Array Oper} {rest : List Oper} {Q : Exit → Act → World → Prop} {f : FuncId} {args : Array Operand} {ats : Array TypeId} {as : List AV} {bxi bxo : List (Nat × Box)} {tko : List (Nat × Tok)} {res : AV} {d : Nat} (hg : o.guard = none) (hd : o.dst = some d) (hlt : Nat.ble (d + 1) c.nt = true) (hG : Glob gs c.E0 c.w0)
    (ho : o.op = .call { callee := .value (.func f), args := args, argTypes := ats }) (hok : callOk P f = true) (hc : CallG gs P f as bxi bxo tko res) (ha : Subs (args.toList.map st.ev) as) (hbi : WkB st.bx bxi)
    (hN : N.all (fun id => st.fresh id) = true) (hbo : boOk N bxi bxo = true) (hto : (keys tko).all (fun id => N.contains id) = true)
    (hmb : bxo.all (fun p => AV.mentsIn (N ++ keys bxi) p.2.cs) = true) (hmr : AV.mentIn (N ++ keys bxi) res = true)
    (h : L c ⟨(d, res) :: st.fr, bxo ++ st.bx, tko ++ st.tk⟩ (wpList P ops Q rest)) : L c st (wpList P ops Q (o :: rest)) :=
  L.enterG N hg hd hlt hG (fun E a w hi => ⟨args.toList.map a.eval, by
    have hargs : (args.toList.map a.eval).toArray = args.map a.eval := by apply Array.ext'; simp
    rw [hargs]
    simp [execOp, ho, resolve, Deferred.ofValue, Act.eval, invoke, run_callOk hok], (hi.evs args).sub ha⟩) hc hbi hN hbo hto hmb hmr h
theorem L.callG1 {gs : Globs} {o : Oper} {ops : Array Oper} {rest : List Oper} {Q : Exit → Act → World → Prop} {f : FuncId} {args : Array Operand} {ats : Array TypeId} {as1 as : List AV} {d q : Nat} {b b' : Box} {res : AV} (hg : o.guard = none) (hd : o.dst = some d) (hlt : Nat.ble (d + 1) c.nt = true) (ho : o.op = .call { callee := .value (.func f), args := args, argTypes := ats }) (hok : callOk P f = true)
    (hG : Glob gs c.E0 c.w0) (hc : CallG gs P f as1 [(1000, b)] [(1000, b')] [] res) (ha : AV.pub.pubs (args.toList.map st.ev) = as) (h1 : AV.rens (Abs.sws [(1000, q)]) as1 = as) (hb : st.bx.lookup q = some b) (hbn : b.cs.isEmpty = false) (hm : AV.mentsIn [] b.cs = true) (hm' : AV.mentsIn [] b'.cs = true) (hr : AV.mentIn [] res = true)
    (h : L c ⟨(d, res) :: st.fr, (q, b') :: st.bx, st.tk⟩ (wpList P ops Q rest)) : L c st (wpList P ops Q (o :: rest)) := by
  have hs : Abs.sws [(1000, q)] 1000 = q := sws_hd _ _ _
  have h2 := hc.sws [(1000, q)] h1 (bx2 := [(q, b)]) (bx2' := [(q, b')]) (tk2' := []) (res2 := res) (by simp [renB, hs, Box.ren_id hm]) (by simp [renB, hs, Box.ren_id hm']) rfl (AV.ren_id res hr)
  exact L.callGN (bxi := [(q, b)]) [] hg hd hlt hG ho hok h2 (.of_pub ha) (.cons hb rfl (Subs.refl _) .nil) rfl (by simp [boOk, keys, hbn]) rfl (by simp [mentsIn_mono _ hm']) (mentIn_mono _ hr) h
theorem CallG.at1 {gs : Globs} {f : FuncId} {as1 as : List AV} {q : Nat} {b b' : Box} {res : AV} (hc : CallG gs P f as1 [(1000, b)] [(1000, b')] [] res) (h1 : AV.rens (Abs.sws [(1000, q)]) as1 = as) (hm : AV.mentsIn [] b.cs = true) (hm' : AV.mentsIn [] b'.cs = true) (hr : AV.mentIn [] res = true) :
    CallG gs P f as [(q, b)] [(q, b')] [] res := by
  have hs : Abs.sws [(1000, q)] 1000 = q := sws_hd _ _ _
  exact hc.sws [(1000, q)] h1 (by simp [renB, hs, Box.ren_id hm]) (by simp [renB, hs, Box.ren_id hm']) rfl (AV.ren_id res hr)
theorem L.callQ1 {gs : Globs} {o : Oper} {ops : Array Oper} {rest : List Oper} {Q : Exit → Act → World → Prop} {f : FuncId} {args : Array Operand} {ats : Array TypeId} {as : List AV} {d q : Nat} {b b' : Box} {res : AV} (hg : o.guard = none) (hd : o.dst = some d) (hlt : Nat.ble (d + 1) c.nt = true) (ho : o.op = .call { callee := .value (.func f), args := args, argTypes := ats }) (hok : callOk P f = true)
    (hG : Glob gs c.E0 c.w0) (hc : CallG gs P f as [(q, b)] [(q, b')] [] res) (ha : AV.pub.pubs (args.toList.map st.ev) = as) (hb : st.bx.lookup q = some b) (hbn : b.cs.isEmpty = false) (hm' : AV.mentsIn [] b'.cs = true) (hr : AV.mentIn [] res = true)
    (h : L c ⟨(d, res) :: st.fr, (q, b') :: st.bx, st.tk⟩ (wpList P ops Q rest)) : L c st (wpList P ops Q (o :: rest)) :=
  L.callGN (bxi := [(q, b)]) [] hg hd hlt hG ho hok hc (.of_pub ha) (.cons hb rfl (Subs.refl _) .nil) rfl (by simp [boOk, keys, hbn]) rfl (by simp [mentsIn_mono _ hm']) (mentIn_mono _ hr) h
theorem Wk.mkX {fr : List (Nat × AV)} {bx : List (Nat × Box)} {tk : List (Nat × Tok)} (h0 : ∀ id ∈ c.ins, (bx.lookup id).isSome = true) (h1 : WkF st.fr fr) (h2 : ∀ s v, bx.lookup s = some v → st.bx.lookup s = some v) (h3 : WkT st.tk tk) : Wk c st ⟨fr, bx, tk⟩ :=
  ⟨h0, h1.get, fun s v hv => ⟨v, h2 s v hv, rfl, Subs.refl _⟩, h3.get⟩
theorem keys_some {bx : List (Nat × Box)} : ∀ id ∈ keys bx, (bx.lookup id).isSome = true := fun id hid => by
  obtain ⟨b, hb⟩ := mem_keys hid; rw [hb]; rfl
theorem lookup_app {bx : List (Nat × Box)} {bx' : List (Nat × Box)} {s : Nat} {v : Box} (h : bx.lookup s = some v) : (bx ++ bx').lookup s = some v := by
  rw [List.lookup_append, h]; rfl
end Go.Abs
/- A logic of abstract states, part 11: the rules of parts 3 to 10 in the form in which a walk uses them: over an operation that is written out; closed facts on types come as instances. Conditions: each rule's own premises; over any program. -/
namespace Go.Abs
set_option linter.unusedVariables false
set_option linter.unusedSimpArgs false
class VarTy (P : Program) (t : TypeId) (agg : outParam Bool) (k : outParam Nat) : Prop where
  h : varOk P t agg k = true
class FieldTy (P : Program) (s : TypeId) (f : Nat) (fo : outParam Nat) : Prop where
  h : fieldOk P s f fo = true
class SliceTy (P : Program) (t : TypeId) (e : outParam TypeId) (k : outParam Nat) : Prop where
  h : sliceOk P t e k = true
class StrTy (P : Program) (t : TypeId) : Prop where
  h : P.underlying t = some .string
class IntTy (P : Program) (t : TypeId) (k : outParam IntKind) : Prop where
  h : P.underlying t = some (.int k)
class ZeroTy (P : Program) (t : TypeId) (zs : outParam (List Value)) : Prop where
  h : zeroCellsOf P t = some zs
class PlacesTy (P : Program) (t : TypeId) (pl : outParam (List (Nat × Nat))) : Prop where
  h : placesOf P t = some pl
class CallTy (P : Program) (f : FuncId) : Prop where
  h : callOk P f = true
class EqTy (P : Program) (t : TypeId) (ks : outParam (List Nat)) : Prop where
  h : eqOk P t ks = true
class MixTy (P : Program) : Prop where
  h : P.follows .mixedOrders = true
def appOk (P : Program) (t : TypeId) (e : TypeId) (k bytes : Nat) : Bool :=
  sliceOk P t e k && (match P.info? e with | some i => i.bytes == bytes && (match i.zero with | some z => z.cells.size == k | none => false) | none => false) && (Nat.ble 1 k && Nat.ble bytes 100000)
class AppTy (P : Program) (t : TypeId) (e : outParam TypeId) (k bytes : outParam Nat) : Prop where
  h : appOk P t e k bytes = true
theorem appOk_run {P : Program} {t e : TypeId} {k bytes : Nat} (h : appOk P t e k bytes = true) :
    P.underlying t = some (.slice e) ∧ 0 < k ∧ ∃ (i : TypeInfo) (z : Value), P.info? e = some i ∧ i.size = k ∧ i.bytes = bytes ∧ i.zero = some z ∧ z.cells.size = k ∧ bytes ≤ 100000 := by
  unfold appOk at h
  simp only [Bool.and_eq_true] at h
  obtain ⟨⟨h1, h2⟩, h3, h6⟩ := h
  obtain ⟨hu, i, hi, hs⟩ := sliceOk_run h1
  rw [hi] at h2
  simp only [Bool.and_eq_true, beq_iff_eq] at h2
  obtain ⟨h4, h5⟩ := h2
  cases hz : i.zero with
  | none => rw [hz] at h5; simp at h5
  | some z => rw [hz] at h5; exact ⟨hu, Nat.le_of_ble_eq_true h3, i, z, hi, hs, h4, hz, by simpa using h5, Nat.le_of_ble_eq_true h6⟩
theorem zero_alloc {P : Program} {t : TypeId} {zs : List Value} (h : zeroCellsOf P t = some zs) : ∃ z, (P.info? t).bind (·.zero) = some z ∧ z.cells.toList = zs := by
  unfold zeroCellsOf at h
  exact Option.map_eq_some_iff.1 h
def LW (P : Program) (c : Ctx) (st : St) (ops : Array Oper) (Q : Exit → Act → World → Prop) (l : List Oper) : Prop := L c st (wpList P ops Q l)
def VV (P : Program) (c : Ctx) (st : St) (o : Oper) (v : AV) (tb : List Nat) : Prop :=
  ∀ st' : St, (∀ x ∈ o.op.operands, st'.ev x = st.ev x) → (∀ id ∈ tb, st'.bx.lookup id = st.bx.lookup id) → Yields P c st' o v
theorem VV.out {P : Program} {c : Ctx} {st : St} {o : Oper} {v : AV} {tb : List Nat} (h : VV P c st o v tb) : ∀ st' : St, (∀ x ∈ o.op.operands, st'.ev x = st.ev x) → (∀ id ∈ tb, st'.bx.lookup id = st.bx.lookup id) → Yields P c st' o v := h
theorem agP {st st' : St} {ps : Array Operand} (he : ∀ x ∈ ps, st'.ev x = st.ev x) {parts : Array (Nat × Operand)} (h : ∀ x ∈ parts, x.2 ∈ ps) :
    (parts.toList.map fun x => (x.1, st'.ev x.2)) = parts.toList.map fun x => (x.1, st.ev x.2) :=
  List.map_congr_left fun x hx => by rw [he x.2 (h x (by simpa using hx))]
theorem agL {st st' : St} {ps : Array Operand} (he : ∀ x ∈ ps, st'.ev x = st.ev x) {args : Array Operand} (h : ∀ x ∈ args, x ∈ ps) :
    (args.toList.map st'.ev) = args.toList.map st.ev :=
  List.map_congr_left fun x hx => he x (h x (by simpa using hx))
section
variable {P : Program} {c : Ctx} {fr : List (Nat × AV)} {bx : List (Nat × Box)} {tk : List (Nat × Tok)} {ops : Array Oper} {Q : Exit → Act → World → Prop} {rest : List Oper}
  {d : Nat} {ty : TypeId} {pos : String} {aft : Array Edge}
theorem s_vr {v : AV} {tb : List Nat} {op : Op} (hlt : Nat.ble (d + 1) c.nt = true) (hv : VV P c ⟨fr, bx, tk⟩ ⟨some d, op, ty, pos, aft, none⟩ v tb) (h : LW P c ⟨(d, v) :: fr, bx, tk⟩ ops Q rest) :
    LW P c ⟨fr, bx, tk⟩ ops Q (⟨some d, op, ty, pos, aft, none⟩ :: rest) := L.val (st := ⟨fr, bx, tk⟩) rfl rfl hlt (hv _ (fun _ _ => rfl) (fun _ _ => rfl)) h
theorem v_mv {x : Operand} {v : AV} (hx : St.ev ⟨fr, bx, tk⟩ x = v) : VV P c ⟨fr, bx, tk⟩ ⟨some d, .move x, ty, pos, aft, none⟩ (v) [] :=
  fun st' kE kL => ((kE x (by simp [Op.operands, Call.operands])).trans hx) ▸ .move rfl
theorem v_as {x : Operand} {v : AV} (hx : St.ev ⟨fr, bx, tk⟩ x = v) : VV P c ⟨fr, bx, tk⟩ ⟨some d, .assign x, ty, pos, aft, none⟩ (v) [] :=
  fun st' kE kL => ((kE x (by simp [Op.operands, Call.operands])).trans hx) ▸ .assign rfl
theorem v_addI {x y : Operand} {t t' : TypeId} {m n : Int} (hx : St.ev ⟨fr, bx, tk⟩ x = aI m) (hy : St.ev ⟨fr, bx, tk⟩ y = aI n) (hlo : -9223372036854775808 ≤ m + n) (hhi : m + n ≤ 9223372036854775807) : VV P c ⟨fr, bx, tk⟩ ⟨some d, .binOp .add t x y t', ty, pos, aft, none⟩ (aI (m + n)) [] :=
  fun st' kE kL => .addI rfl ((kE x (by simp [Op.operands, Call.operands])).trans hx) ((kE y (by simp [Op.operands, Call.operands])).trans hy) hlo hhi
theorem v_subI {x y : Operand} {t t' : TypeId} {m n : Int} (hx : St.ev ⟨fr, bx, tk⟩ x = aI m) (hy : St.ev ⟨fr, bx, tk⟩ y = aI n) (hlo : -9223372036854775808 ≤ m - n) (hhi : m - n ≤ 9223372036854775807) : VV P c ⟨fr, bx, tk⟩ ⟨some d, .binOp .sub t x y t', ty, pos, aft, none⟩ (aI (m - n)) [] :=
  fun st' kE kL => .subI rfl ((kE x (by simp [Op.operands, Call.operands])).trans hx) ((kE y (by simp [Op.operands, Call.operands])).trans hy) hlo hhi
theorem v_eqlI {x y : Operand} {t t' : TypeId} {k : IntKind} {m n : Int} (hx : St.ev ⟨fr, bx, tk⟩ x = .iv (.im (.int k m))) (hy : St.ev ⟨fr, bx, tk⟩ y = .iv (.im (.int k n))) : VV P c ⟨fr, bx, tk⟩ ⟨some d, .binOp .eql t x y t', ty, pos, aft, none⟩ (aB (m == n)) [] :=
  fun st' kE kL => .eqlI rfl ((kE x (by simp [Op.operands, Call.operands])).trans hx) ((kE y (by simp [Op.operands, Call.operands])).trans hy)
theorem v_neqI {x y : Operand} {t t' : TypeId} {k : IntKind} {m n : Int} (hx : St.ev ⟨fr, bx, tk⟩ x = .iv (.im (.int k m))) (hy : St.ev ⟨fr, bx, tk⟩ y = .iv (.im (.int k n))) : VV P c ⟨fr, bx, tk⟩ ⟨some d, .binOp .neq t x y t', ty, pos, aft, none⟩ (aB (m != n)) [] :=
  fun st' kE kL => .neqI rfl ((kE x (by simp [Op.operands, Call.operands])).trans hx) ((kE y (by simp [Op.operands, Call.operands])).trans hy)
theorem v_lssI {x y : Operand} {t t' : TypeId} {k : IntKind} {m n : Int} (hx : St.ev ⟨fr, bx, tk⟩ x = .iv (.im (.int k m))) (hy : St.ev ⟨fr, bx, tk⟩ y = .iv (.im (.int k n))) : VV P c ⟨fr, bx, tk⟩ ⟨some d, .binOp .lss t x y t', ty, pos, aft, none⟩ (aB (decide (m < n))) [] :=
  fun st' kE kL => .lssI rfl ((kE x (by simp [Op.operands, Call.operands])).trans hx) ((kE y (by simp [Op.operands, Call.operands])).trans hy)
theorem v_leqI {x y : Operand} {t t' : TypeId} {k : IntKind} {m n : Int} (hx : St.ev ⟨fr, bx, tk⟩ x = .iv (.im (.int k m))) (hy : St.ev ⟨fr, bx, tk⟩ y = .iv (.im (.int k n))) : VV P c ⟨fr, bx, tk⟩ ⟨some d, .binOp .leq t x y t', ty, pos, aft, none⟩ (aB (decide (m ≤ n))) [] :=
  fun st' kE kL => .leqI rfl ((kE x (by simp [Op.operands, Call.operands])).trans hx) ((kE y (by simp [Op.operands, Call.operands])).trans hy)
theorem v_gtrI {x y : Operand} {t t' : TypeId} {k : IntKind} {m n : Int} (hx : St.ev ⟨fr, bx, tk⟩ x = .iv (.im (.int k m))) (hy : St.ev ⟨fr, bx, tk⟩ y = .iv (.im (.int k n))) : VV P c ⟨fr, bx, tk⟩ ⟨some d, .binOp .gtr t x y t', ty, pos, aft, none⟩ (aB (decide (n < m))) [] :=
  fun st' kE kL => .gtrI rfl ((kE x (by simp [Op.operands, Call.operands])).trans hx) ((kE y (by simp [Op.operands, Call.operands])).trans hy)
theorem v_geqI {x y : Operand} {t t' : TypeId} {k : IntKind} {m n : Int} (hx : St.ev ⟨fr, bx, tk⟩ x = .iv (.im (.int k m))) (hy : St.ev ⟨fr, bx, tk⟩ y = .iv (.im (.int k n))) : VV P c ⟨fr, bx, tk⟩ ⟨some d, .binOp .geq t x y t', ty, pos, aft, none⟩ (aB (decide (n ≤ m))) [] :=
  fun st' kE kL => .geqI rfl ((kE x (by simp [Op.operands, Call.operands])).trans hx) ((kE y (by simp [Op.operands, Call.operands])).trans hy)
theorem v_eqlS {x y : Operand} {t t' : TypeId} {m n : List UInt8} (hx : St.ev ⟨fr, bx, tk⟩ x = aS m) (hy : St.ev ⟨fr, bx, tk⟩ y = aS n) : VV P c ⟨fr, bx, tk⟩ ⟨some d, .binOp .eql t x y t', ty, pos, aft, none⟩ (aB (m == n)) [] :=
  fun st' kE kL => .eqlS rfl ((kE x (by simp [Op.operands, Call.operands])).trans hx) ((kE y (by simp [Op.operands, Call.operands])).trans hy)
theorem v_neqS {x y : Operand} {t t' : TypeId} {m n : List UInt8} (hx : St.ev ⟨fr, bx, tk⟩ x = aS m) (hy : St.ev ⟨fr, bx, tk⟩ y = aS n) : VV P c ⟨fr, bx, tk⟩ ⟨some d, .binOp .neq t x y t', ty, pos, aft, none⟩ (aB (!(m == n))) [] :=
  fun st' kE kL => .neqS rfl ((kE x (by simp [Op.operands, Call.operands])).trans hx) ((kE y (by simp [Op.operands, Call.operands])).trans hy)
theorem v_lssS {x y : Operand} {t t' : TypeId} {m n : List UInt8} (hx : St.ev ⟨fr, bx, tk⟩ x = aS m) (hy : St.ev ⟨fr, bx, tk⟩ y = aS n) : VV P c ⟨fr, bx, tk⟩ ⟨some d, .binOp .lss t x y t', ty, pos, aft, none⟩ (aB (Op.bytesLess m n)) [] :=
  fun st' kE kL => .lssS rfl ((kE x (by simp [Op.operands, Call.operands])).trans hx) ((kE y (by simp [Op.operands, Call.operands])).trans hy)
theorem v_gtrS {x y : Operand} {t t' : TypeId} {m n : List UInt8} (hx : St.ev ⟨fr, bx, tk⟩ x = aS m) (hy : St.ev ⟨fr, bx, tk⟩ y = aS n) : VV P c ⟨fr, bx, tk⟩ ⟨some d, .binOp .gtr t x y t', ty, pos, aft, none⟩ (aB (!(Op.bytesLess m n || m == n))) [] :=
  fun st' kE kL => .gtrS rfl ((kE x (by simp [Op.operands, Call.operands])).trans hx) ((kE y (by simp [Op.operands, Call.operands])).trans hy)
theorem v_geqS {x y : Operand} {t t' : TypeId} {m n : List UInt8} (hx : St.ev ⟨fr, bx, tk⟩ x = aS m) (hy : St.ev ⟨fr, bx, tk⟩ y = aS n) : VV P c ⟨fr, bx, tk⟩ ⟨some d, .binOp .geq t x y t', ty, pos, aft, none⟩ (aB (!(Op.bytesLess m n))) [] :=
  fun st' kE kL => .geqS rfl ((kE x (by simp [Op.operands, Call.operands])).trans hx) ((kE y (by simp [Op.operands, Call.operands])).trans hy)
theorem v_not {x : Operand} {t : TypeId} {b : Bool} (hx : St.ev ⟨fr, bx, tk⟩ x = aB b) : VV P c ⟨fr, bx, tk⟩ ⟨some d, .unOp .not t x, ty, pos, aft, none⟩ (aB (!b)) [] :=
  fun st' kE kL => .not rfl ((kE x (by simp [Op.operands, Call.operands])).trans hx)
theorem v_lenS {x : Operand} {t : TypeId} {m : List UInt8} (hx : St.ev ⟨fr, bx, tk⟩ x = aS m) [ht : StrTy P t] : VV P c ⟨fr, bx, tk⟩ ⟨some d, .call { callee := .builtin .len, args := #[x], argTypes := #[t] }, ty, pos, aft, none⟩ (aI m.length) [] :=
  fun st' kE kL => .lenS rfl ((kE x (by simp [Op.operands, Call.operands])).trans hx) ht.h
theorem v_lenSl {x : Operand} {t e : TypeId} {k : Nat} {es : List (List IV)} (hx : (St.ev ⟨fr, bx, tk⟩ x).sl? = some es) [hs : SliceTy P t e k] : VV P c ⟨fr, bx, tk⟩ ⟨some d, .call { callee := .builtin .len, args := #[x], argTypes := #[t] }, ty, pos, aft, none⟩ (aI es.length) [] :=
  fun st' kE kL => .lenSl rfl hs.h ((congrArg AV.sl? (kE x (by simp [Op.operands, Call.operands]))).trans hx)
theorem v_indexS {x i : Operand} {t : TypeId} {m : List UInt8} {k : IntKind} {n : Int} {b : UInt8} (hx : St.ev ⟨fr, bx, tk⟩ x = aS m) (hn : St.ev ⟨fr, bx, tk⟩ i = .iv (.im (.int k n))) [ht : StrTy P t] (h0 : 0 ≤ n) (hb : m[n.toNat]? = some b) : VV P c ⟨fr, bx, tk⟩ ⟨some d, .index t x i, ty, pos, aft, none⟩ (.iv (.im (.int .u8 b.toNat))) [] :=
  fun st' kE kL => .indexS rfl ((kE x (by simp [Op.operands, Call.operands])).trans hx) ((kE i (by simp [Op.operands, Call.operands])).trans hn) ht.h h0 hb
theorem v_fieldP {s : TypeId} {x : Operand} {f fo id off off' : Nat} (hx : St.ev ⟨fr, bx, tk⟩ x = .ptr id off) [hf : FieldTy P s f fo] (ho : off + fo = off') : VV P c ⟨fr, bx, tk⟩ ⟨some d, .fieldAddr s x f, ty, pos, aft, none⟩ (.ptr id off') [] :=
  fun st' kE kL => ho ▸ .fieldP rfl ((kE x (by simp [Op.operands, Call.operands])).trans hx) hf.h
theorem v_fieldE {s : TypeId} {x : Operand} {f fo : Nat} {cs cs' : List IV} (hx : St.ev ⟨fr, bx, tk⟩ x = .el cs) [hf : FieldTy P s f fo] (hc : cs.drop fo = cs') : VV P c ⟨fr, bx, tk⟩ ⟨some d, .fieldAddr s x f, ty, pos, aft, none⟩ (.el cs') [] :=
  fun st' kE kL => hc ▸ .fieldE rfl ((kE x (by simp [Op.operands, Call.operands])).trans hx) hf.h
theorem v_indexA {t e : TypeId} {x i : Operand} {k : Nat} {kd : IntKind} {n : Int} {es : List (List IV)} {cs : List IV} (hx : (St.ev ⟨fr, bx, tk⟩ x).sl? = some es) (hn : St.ev ⟨fr, bx, tk⟩ i = .iv (.im (.int kd n))) [hs : SliceTy P t e k] (h0 : 0 ≤ n) (hc : es[n.toNat]? = some cs) (hl : cs.length = k) : VV P c ⟨fr, bx, tk⟩ ⟨some d, .indexAddr t x i, ty, pos, aft, none⟩ (.el cs) [] :=
  fun st' kE kL => .indexAddr rfl hs.h ((congrArg AV.sl? (kE x (by simp [Op.operands, Call.operands]))).trans hx) ((kE i (by simp [Op.operands, Call.operands])).trans hn) h0 hc hl
theorem v_load1P {t : TypeId} {x : Operand} {id off : Nat} {b : Box} {v : AV} (hx : St.ev ⟨fr, bx, tk⟩ x = .ptr id off) [ht : VarTy P t false 1] (hb : bx.lookup id = some b) (hv : b.cs[off]? = some v) : VV P c ⟨fr, bx, tk⟩ ⟨some d, .load t x, ty, pos, aft, none⟩ (v) [id] :=
  fun st' kE kL => .load1P rfl ht.h ((kE x (by simp [Op.operands, Call.operands])).trans hx) ((kL id (by simp)).trans hb) hv
theorem v_loadAP {t : TypeId} {x : Operand} {id off k : Nat} {b : Box} {cs : List AV} (hx : St.ev ⟨fr, bx, tk⟩ x = .ptr id off) [ht : VarTy P t true k] (hb : bx.lookup id = some b) (hc : (b.cs.drop off).take k = cs) (hk : cs.length = k) : VV P c ⟨fr, bx, tk⟩ ⟨some d, .load t x, ty, pos, aft, none⟩ (.agg cs) [id] :=
  fun st' kE kL => hc ▸ .loadAP rfl ht.h ((kE x (by simp [Op.operands, Call.operands])).trans hx) ((kL id (by simp)).trans hb) (hc.symm ▸ hk)
theorem v_load1E {t : TypeId} {x : Operand} {y : IV} {cs : List IV} (hx : St.ev ⟨fr, bx, tk⟩ x = .el cs) [ht : VarTy P t false 1] (hy : cs[0]? = some y) : VV P c ⟨fr, bx, tk⟩ ⟨some d, .load t x, ty, pos, aft, none⟩ (.iv y) [] :=
  fun st' kE kL => .load1E rfl ht.h ((kE x (by simp [Op.operands, Call.operands])).trans hx) hy
theorem v_loadAE {t : TypeId} {x : Operand} {k : Nat} {cs : List IV} {vs : List AV} (hx : St.ev ⟨fr, bx, tk⟩ x = .el cs) [ht : VarTy P t true k] (hc : (cs.take k).map AV.iv = vs) (hk : vs.length = k) : VV P c ⟨fr, bx, tk⟩ ⟨some d, .load t x, ty, pos, aft, none⟩ (.agg vs) [] :=
  fun st' kE kL => hc ▸ .loadAE rfl ht.h ((kE x (by simp [Op.operands, Call.operands])).trans hx) (by rw [← List.length_map (f := AV.iv), hc]; exact hk)
theorem v_extract {x : Operand} {i : Nat} {vs : List AV} {v : AV} (hx : St.ev ⟨fr, bx, tk⟩ x = .tup vs) (hv : vs[i]? = some v) : VV P c ⟨fr, bx, tk⟩ ⟨some d, .extract x i, ty, pos, aft, none⟩ (v) [] :=
  fun st' kE kL => .extract rfl ((kE x (by simp [Op.operands, Call.operands])).trans hx) hv
theorem v_build {t : TypeId} {parts : Array (Nat × Operand)} {zs : List Value} {pl : List (Nat × Nat)} {cs : List AV} [hz : ZeroTy P t zs] (h1 : zs.all (·.oneCell') = true) [hp : PlacesTy P t pl] (hf : fillA (pl[·]?) (zs.map constCell) (parts.toList.map fun x => (x.1, St.ev ⟨fr, bx, tk⟩ x.2)) = some cs) : VV P c ⟨fr, bx, tk⟩ ⟨some d, .build t parts, ty, pos, aft, none⟩ (.agg cs) [] :=
  fun st' kE kL => .build rfl hz.h h1 hp.h (by rw [agP kE (fun x hx => by simp only [Op.operands]; exact List.mem_toArray.2 (List.mem_map.2 ⟨x, by simpa using hx, rfl⟩))]; exact hf)
theorem v_eqlAgg {x y : Operand} {t t' : TypeId} {cs ds : List AV} {ks : List Nat} {b : Bool} (hx : St.ev ⟨fr, bx, tk⟩ x = .agg cs) (hy : St.ev ⟨fr, bx, tk⟩ y = .agg ds) [hok : EqTy P t ks] (hn : cs.map vKind = ks) (hb : eqVs cs ds = some b) : VV P c ⟨fr, bx, tk⟩ ⟨some d, .binOp .eql t x y t', ty, pos, aft, none⟩ (aB (b)) [] :=
  fun st' kE kL => .eqlAgg rfl ((kE x (by simp [Op.operands, Call.operands])).trans hx) ((kE y (by simp [Op.operands, Call.operands])).trans hy) hok.h hn hb
theorem v_sliceVh {x y : Operand} {t e : TypeId} {k : Nat} {es es' : List (List IV)} {kd : IntKind} {n : Int} (hx : (St.ev ⟨fr, bx, tk⟩ x).sl? = some es) (hy : St.ev ⟨fr, bx, tk⟩ y = .iv (.im (.int kd n))) [hs : SliceTy P t e k] (hk : ∀ e ∈ es, e.length = k) (h0 : 0 ≤ n) (h1 : n ≤ es.length) (hm : es.take n.toNat = es') : VV P c ⟨fr, bx, tk⟩ ⟨some d, .slice t x none (some y) none, ty, pos, aft, none⟩ (.iv (.sl es')) [] :=
  fun st' kE kL => hm ▸ .sliceVh rfl ((congrArg AV.sl? (kE x (by simp [Op.operands, Call.operands]))).trans hx) ((kE y (by simp [Op.operands, Call.operands])).trans hy) hs.h hk h0 h1
theorem s_box {t : TypeId} {x : Operand} {v : AV} {cs : List AV} (hlt : Nat.ble (d + 1) c.nt = true) (hx : St.ev ⟨fr, bx, tk⟩ x = v) (hv : v.lays = true) (hc : v.cells = cs) (hf : St.fresh d ⟨fr, bx, tk⟩ = true) (hm : AV.ments d cs = false)
    (h : LW P c ⟨(d, .ptr d 0) :: fr, (d, ⟨t, cs⟩) :: bx, tk⟩ ops Q rest) : LW P c ⟨fr, bx, tk⟩ ops Q (⟨some d, .box t x, ty, pos, aft, none⟩ :: rest) :=
  L.make (st := ⟨fr, bx, tk⟩) rfl rfl hlt (hc ▸ .box rfl hx hv hf (hc.symm ▸ hm)) h
theorem v_and1 {x y : Operand} {t t' : TypeId} {m : Int} (hx : St.ev ⟨fr, bx, tk⟩ x = aI m) (hy : St.ev ⟨fr, bx, tk⟩ y = aI 1) : VV P c ⟨fr, bx, tk⟩ ⟨some d, .binOp .and t x y t', ty, pos, aft, none⟩ (aI (m % 2)) [] :=
  fun st' kE kL => .and1 rfl ((kE x (by simp [Op.operands, Call.operands])).trans hx) ((kE y (by simp [Op.operands, Call.operands])).trans hy)
theorem v_min2 {x y : Operand} {t t' : TypeId} {m n : Int} (hx : St.ev ⟨fr, bx, tk⟩ x = aI m) (hy : St.ev ⟨fr, bx, tk⟩ y = aI n) : VV P c ⟨fr, bx, tk⟩ ⟨some d, .call { callee := .builtin .min, args := #[x, y], argTypes := #[t, t'] }, ty, pos, aft, none⟩ (aI (if n < m then n else m)) [] :=
  fun st' kE kL => .min2 rfl ((kE x (by simp [Op.operands, Call.operands])).trans hx) ((kE y (by simp [Op.operands, Call.operands])).trans hy)
theorem v_loadG {gs : Globs} {g : Nat} {t : TypeId} {x : IV} [ht : VarTy P t false 1] (hG : Glob gs c.E0 c.w0) (hmg : (g, [x]) ∈ gs) : VV P c ⟨fr, bx, tk⟩ ⟨some d, .load t (.global g), ty, pos, aft, none⟩ (.iv x) [] :=
  fun st' kE kL => .loadG rfl ht.h hG hmg
theorem s_callG1 {gs : Globs} {f : FuncId} {args : Array Operand} {ats : Array TypeId} {as1 as : List AV} {q : Nat} {b b' : Box} {res : AV} (hlt : Nat.ble (d + 1) c.nt = true) [hok : CallTy P f] (hG : Glob gs c.E0 c.w0) (hc : CallG gs P f as1 [(1000, b)] [(1000, b')] [] res) (ha : AV.pub.pubs (args.toList.map (St.ev ⟨fr, bx, tk⟩)) = as) (h1 : AV.rens (Abs.sws [(1000, q)]) as1 = as) (hb : bx.lookup q = some b) (hbn : b.cs.isEmpty = false) (hm : AV.mentsIn [] b.cs = true) (hm' : AV.mentsIn [] b'.cs = true) (hr : AV.mentIn [] res = true)
    (h : LW P c ⟨(d, res) :: fr, (q, b') :: bx, tk⟩ ops Q rest) : LW P c ⟨fr, bx, tk⟩ ops Q (⟨some d, .call { callee := .value (.func f), args := args, argTypes := ats }, ty, pos, aft, none⟩ :: rest) :=
  L.callG1 (st := ⟨fr, bx, tk⟩) rfl rfl hlt rfl hok.h hG hc ha h1 hb hbn hm hm' hr h
theorem s_callQ1 {gs : Globs} {f : FuncId} {args : Array Operand} {ats : Array TypeId} {as : List AV} {q : Nat} {b b' : Box} {res : AV} (hlt : Nat.ble (d + 1) c.nt = true) [hok : CallTy P f] (hG : Glob gs c.E0 c.w0) (hc : CallG gs P f as [(q, b)] [(q, b')] [] res) (ha : AV.pub.pubs (args.toList.map (St.ev ⟨fr, bx, tk⟩)) = as) (hb : bx.lookup q = some b) (hbn : b.cs.isEmpty = false) (hm' : AV.mentsIn [] b'.cs = true) (hr : AV.mentIn [] res = true)
    (h : LW P c ⟨(d, res) :: fr, (q, b') :: bx, tk⟩ ops Q rest) : LW P c ⟨fr, bx, tk⟩ ops Q (⟨some d, .call { callee := .value (.func f), args := args, argTypes := ats }, ty, pos, aft, none⟩ :: rest) :=
  L.callQ1 (st := ⟨fr, bx, tk⟩) rfl rfl hlt rfl hok.h hG hc ha hb hbn hm' hr h
theorem s_callG {gs : Globs} {f : FuncId} {args : Array Operand} {ats : Array TypeId} {as : List AV} {res : AV} (hlt : Nat.ble (d + 1) c.nt = true) [hok : CallTy P f] (hG : Glob gs c.E0 c.w0) (hc : CallG gs P f as [] [] [] res) (ha : AV.pub.pubs (args.toList.map (St.ev ⟨fr, bx, tk⟩)) = as)
    (hmr : AV.mentIn [] res = true) (h : LW P c ⟨(d, res) :: fr, bx, tk⟩ ops Q rest) :
    LW P c ⟨fr, bx, tk⟩ ops Q (⟨some d, .call { callee := .value (.func f), args := args, argTypes := ats }, ty, pos, aft, none⟩ :: rest) :=
  L.callG0 (st := ⟨fr, bx, tk⟩) rfl rfl hlt hG rfl hok.h hc (.of_pub ha) hmr h
theorem v_makeFunc {f : FuncId} {caps : Array Operand} {cs : List AV} (hc : caps.toList.map (St.ev ⟨fr, bx, tk⟩) = cs) : VV P c ⟨fr, bx, tk⟩ ⟨some d, .makeFunc (.func f) #[] caps, ty, pos, aft, none⟩ (.fn f cs) [] :=
  fun st' kE kL => (((agL kE (fun x hx => by simp [Op.operands, hx])).trans hc) ▸ .makeFunc rfl)
theorem s_callFn {gs : Globs} {f : FuncId} {x : Operand} {args : Array Operand} {ats : Array TypeId} {avs caps : List AV} {bxi : List (Nat × Box)} {res : AV} (hlt : Nat.ble (d + 1) c.nt = true) (hG : Glob gs c.E0 c.w0) (hx : St.ev ⟨fr, bx, tk⟩ x = .fn f caps) [hok : CallTy P f]
    (hc : CallG gs P f (avs ++ caps) bxi bxi [] res) (ha : AV.pub.pubs (args.toList.map (St.ev ⟨fr, bx, tk⟩)) = avs) (hbi : WkB bx bxi) (hmb : bxi.all (fun p => !p.2.cs.isEmpty && AV.mentsIn (keys bxi) p.2.cs) = true) (hmr : AV.mentIn (keys bxi) res = true)
    (h : LW P c ⟨(d, res) :: fr, bxi ++ bx, tk⟩ ops Q rest) :
    LW P c ⟨fr, bx, tk⟩ ops Q (⟨some d, .call { callee := .value x, args := args, argTypes := ats }, ty, pos, aft, none⟩ :: rest) :=
  L.callFnG (st := ⟨fr, bx, tk⟩) rfl rfl hlt hG rfl hx hok.h hc (.of_pub ha) hbi hmb hmr h
theorem s_alloc {t : TypeId} {zs : List Value} {cs : List AV} (hlt : Nat.ble (d + 1) c.nt = true) [hz : ZeroTy P t zs] (h1 : zs.all (·.oneCell') = true) (hc : zs.map constCell = cs) (hf : St.fresh d ⟨fr, bx, tk⟩ = true) (hm : AV.ments d cs = false)
    (h : LW P c ⟨(d, .ptr d 0) :: fr, (d, ⟨t, cs⟩) :: bx, tk⟩ ops Q rest) : LW P c ⟨fr, bx, tk⟩ ops Q (⟨some d, .alloc t, ty, pos, aft, none⟩ :: rest) := by
  obtain ⟨z, h2, h3⟩ := zero_alloc hz.h
  subst h3; subst hc
  exact L.make (st := ⟨fr, bx, tk⟩) rfl rfl hlt (.alloc (i := default) rfl h2 h1 hf hm) h
theorem s_bslice {t e : TypeId} {n k : Nat} {parts : Array (Nat × Operand)} {zs : List Value} {cs : List AV} {xs : List IV} {es : List (List IV)} (hlt : Nat.ble (d + 1) c.nt = true) [hs : SliceTy P t e k] [hz : ZeroTy P e zs] (h1 : zs.all (·.oneCell') = true) (hzl : zs.length = k) (hn : Nat.ble (n * k) 16777216 = true) (hnk : Nat.ble 1 k = true) (hf : fillA (fun i => some (i * k, k)) ((List.range (n * k)).map fun i => constCell (zs.getD (i % k) undef)) (parts.toList.map fun x => (x.1, St.ev ⟨fr, bx, tk⟩ x.2)) = some cs) (hx : toIs cs = some xs) (hcl : cs.length = n * k) (he : chunks k n xs = es) (hfr : St.fresh d ⟨fr, bx, tk⟩ = true)
    (h : LW P c ⟨(d, .row d es) :: fr, bx, (d, ⟨e, k⟩) :: tk⟩ ops Q rest) : LW P c ⟨fr, bx, tk⟩ ops Q (⟨some d, .buildSlice t n parts, ty, pos, aft, none⟩ :: rest) :=
  L.make (st := ⟨fr, bx, tk⟩) rfl rfl hlt (he ▸ .buildSlice rfl hs.h hz.h h1 hzl (Nat.le_of_ble_eq_true hn) (Nat.le_of_ble_eq_true hnk) hf hx hcl hfr) h
theorem s_store {t : TypeId} {x y : Operand} {id off k : Nat} {b : Box} {v : AV} {agg : Bool} {cs : List AV} (hx : St.ev ⟨fr, bx, tk⟩ x = .ptr id off) (hy : St.ev ⟨fr, bx, tk⟩ y = v) [ht : VarTy P t agg k] (hb : bx.lookup id = some b)
    (hv : v.lays = true) (hk : v.cells.length = k) (hle : Nat.ble (off + k) b.cs.length = true) (hc : setA b.cs off v.cells = cs)
    (h : LW P c ⟨fr, (id, ⟨b.ty, cs⟩) :: bx, tk⟩ ops Q rest) : LW P c ⟨fr, bx, tk⟩ ops Q (⟨none, .store t x y, ty, pos, aft, none⟩ :: rest) := by
  subst hc
  exact L.does (st := ⟨fr, bx, tk⟩) rfl rfl (.store rfl ht.h hx hb hy hv hk (Nat.le_of_ble_eq_true hle)) h
theorem s_append {t t' e : TypeId} {x y : Operand} {id k bytes : Nat} {es news es' : List (List IV)} (hlt : Nat.ble (d + 1) c.nt = true)
    (hx : St.ev ⟨fr, bx, tk⟩ x = .row id es) (htk : tk.lookup id = some ⟨e, k⟩) (hy : (St.ev ⟨fr, bx, tk⟩ y).sl? = some news) [ha : AppTy P t e k bytes] [hs : SliceTy P t' e k] (hes : ∀ e ∈ es, e.length = k) (hnk : ∀ e ∈ news, e.length = k)
    (hm : es.length + news.length ≤ maxLen) (hby : (es.length + news.length) * bytes ≤ 225000000000000) (hf : St.fresh d ⟨fr, bx, tk⟩ = true) (he : es ++ news = es')
    (h : LW P c ⟨(d, .row d es') :: fr, bx, (d, ⟨e, k⟩) :: delTok id tk⟩ ops Q rest) :
    LW P c ⟨fr, bx, tk⟩ ops Q (⟨some d, .call { callee := .builtin .append, args := #[x, y], argTypes := #[t, t'] }, ty, pos, aft, none⟩ :: rest) := by
  obtain ⟨ht, hk0, i, z, hi0, hik, hib, hiz, hzk, hbs⟩ := appOk_run ha.h
  subst he
  exact L.make (st := ⟨fr, bx, tk⟩) rfl rfl hlt (.append rfl ht hi0 hik hib hiz hzk (sliceOk_run hs.h).1 (.inl ⟨_, rfl⟩) hk0 (.inl ⟨hx, htk⟩) hes hnk (.slice hy hnk hk0) hm hby hbs hf) h
theorem s_call0 {f : FuncId} {args : Array Operand} {ats : Array TypeId} {as : List AV} {res : AV} (hlt : Nat.ble (d + 1) c.nt = true) [hok : CallTy P f] (hc : CallA P f as [] [] [] res) (ha : AV.pub.pubs (args.toList.map (St.ev ⟨fr, bx, tk⟩)) = as)
    (hmr : AV.mentIn [] res = true) (h : LW P c ⟨(d, res) :: fr, bx, tk⟩ ops Q rest) :
    LW P c ⟨fr, bx, tk⟩ ops Q (⟨some d, .call { callee := .value (.func f), args := args, argTypes := ats }, ty, pos, aft, none⟩ :: rest) :=
  L.call0 (st := ⟨fr, bx, tk⟩) rfl rfl hlt rfl hok.h hc (.of_pub ha) hmr h
theorem s_callRow {f : FuncId} {args : Array Operand} {ats : Array TypeId} {as : List AV} {t : Tok} {es : List (List IV)} (hlt : Nat.ble (d + 1) c.nt = true) [hok : CallTy P f] (hc : CallA P f as [] [] [(d, t)] (.row d es)) (ha : AV.pub.pubs (args.toList.map (St.ev ⟨fr, bx, tk⟩)) = as)
    (hf : St.fresh d ⟨fr, bx, tk⟩ = true) (h : LW P c ⟨(d, .row d es) :: fr, bx, (d, t) :: tk⟩ ops Q rest) :
    LW P c ⟨fr, bx, tk⟩ ops Q (⟨some d, .call { callee := .value (.func f), args := args, argTypes := ats }, ty, pos, aft, none⟩ :: rest) :=
  L.callN (st := ⟨fr, bx, tk⟩) [d] rfl rfl hlt rfl hok.h hc (.of_pub ha) .nil (by simp [hf]) rfl (by simp [keys]) rfl (by simp [AV.mentIn]) h
theorem s_gdo {dst : Option Tmp} {op : Op} {st : St} {j s : Nat} {b b' : Bool} (hj : (ops[j]?).bind (·.dst) = some s) (hb : st.ev (.tmp s) = aB b') (he : b' = b)
    (h : LW P c st ops Q (⟨dst, op, ty, pos, aft, none⟩ :: rest)) : LW P c st ops Q (⟨dst, op, ty, pos, aft, some (j, b)⟩ :: rest) := L.guardDo hj (he ▸ hb) h
theorem s_gskipT {op : Op} {j s : Nat} {b' : Bool} (hlt : Nat.ble (d + 1) c.nt = true) (hj : (ops[j]?).bind (·.dst) = some s) (hb : St.ev ⟨fr, bx, tk⟩ (.tmp s) = aB b') (he : b' = false)
    (h : LW P c ⟨(d, .opt false .any) :: fr, bx, tk⟩ ops Q rest) : LW P c ⟨fr, bx, tk⟩ ops Q (⟨some d, op, ty, pos, aft, some (j, true)⟩ :: rest) := L.guardSkip (st := ⟨fr, bx, tk⟩) hlt hj hb (by rw [he]; simp) h
theorem s_gskipF {op : Op} {j s : Nat} {b' : Bool} (hlt : Nat.ble (d + 1) c.nt = true) (hj : (ops[j]?).bind (·.dst) = some s) (hb : St.ev ⟨fr, bx, tk⟩ (.tmp s) = aB b') (he : b' = true)
    (h : LW P c ⟨(d, .opt false .any) :: fr, bx, tk⟩ ops Q rest) : LW P c ⟨fr, bx, tk⟩ ops Q (⟨some d, op, ty, pos, aft, some (j, false)⟩ :: rest) := L.guardSkip (st := ⟨fr, bx, tk⟩) hlt hj hb (by rw [he]; simp) h
theorem s_gskipU {op : Op} {j s : Nat} {b : Bool} (hlt : Nat.ble (d + 1) c.nt = true) (hj : (ops[j]?).bind (·.dst) = some s) (hb : St.ev ⟨fr, bx, tk⟩ (.tmp s) = .opt false .any)
    (h : LW P c ⟨(d, .opt false .any) :: fr, bx, tk⟩ ops Q rest) : LW P c ⟨fr, bx, tk⟩ ops Q (⟨some d, op, ty, pos, aft, some (j, b)⟩ :: rest) := L.guardSkipU (st := ⟨fr, bx, tk⟩) hlt hj hb h
theorem s_gsplit {o : Oper} {st : St} {j s : Nat} {b b' : Bool} (hj : (ops[j]?).bind (·.dst) = some s) (hg : o.guard = some (j, b)) (hb : st.ev (.tmp s) = aB b') (hT : b' = true → LW P c st ops Q (o :: rest)) (hF : b' = false → LW P c st ops Q (o :: rest)) : LW P c st ops Q (o :: rest) := by
  cases b'
  · exact hF rfl
  · exact hT rfl
theorem v_pickT {x y z : Operand} {b : Bool} {v : AV} (hx : St.ev ⟨fr, bx, tk⟩ x = aB b) (hb : b = true) (hy : St.ev ⟨fr, bx, tk⟩ y = v) : VV P c ⟨fr, bx, tk⟩ ⟨some d, .pick x y z, ty, pos, aft, none⟩ (v) [] :=
  fun st' kE kL => ((kE y (by simp [Op.operands, Call.operands])).trans hy) ▸ .pickT rfl (hb ▸ ((kE x (by simp [Op.operands, Call.operands])).trans hx))
theorem v_pickF {x y z : Operand} {b : Bool} {v : AV} (hx : St.ev ⟨fr, bx, tk⟩ x = aB b) (hb : b = false) (hy : St.ev ⟨fr, bx, tk⟩ z = v) : VV P c ⟨fr, bx, tk⟩ ⟨some d, .pick x y z, ty, pos, aft, none⟩ (v) [] :=
  fun st' kE kL => ((kE z (by simp [Op.operands, Call.operands])).trans hy) ▸ .pickF rfl (hb ▸ ((kE x (by simp [Op.operands, Call.operands])).trans hx))
theorem c_seq {st : St} {x y : Code} (h : L c st (x.wp P (Exit.then (y.wp P Q) Q))) : L c st ((Code.seq x y).wp P Q) := fun a w hr => wp_seq (h a w hr)
theorem c_condT {st : St} {x : Operand} {b : Bool} {y z : Code} (hx : st.ev x = aB b) (hb : b = true) (h : L c st (y.wp P Q)) : L c st ((Code.cond x y z).wp P Q) := L.condT (hb ▸ hx) h
theorem c_condF {st : St} {x : Operand} {b : Bool} {y z : Code} (hx : st.ev x = aB b) (hb : b = false) (h : L c st (z.wp P Q)) : L c st ((Code.cond x y z).wp P Q) := L.condF (hb ▸ hx) h
theorem Sub.of_eq {v v' : AV} (h : v = v') : Sub v v' := h ▸ Sub.refl v
theorem Wk.none {st : St} (hi : c.ins = []) : Wk c st ⟨[], [], []⟩ := Wk.mk' (by rw [hi]; intro id h; cases h) .nil .nil .nil
theorem s_region {st : St} {id : Nat} {l : List Oper} (h : LW P c st l.toArray Q l) : L c st ((Code.region id l.toArray false).wp P Q) := L.region h
theorem s_nil {st : St} (h : L c st (Q .normal)) : LW P c st ops Q [] := h
end
def rowOk (P : Program) (t : TypeId) (e : TypeId) (k bytes : Nat) : Bool :=
  appOk P t e k bytes && (match P.info? e with | some i => (match i.zero with | some z => z.cells.toList.all (·.oneCell') | none => false) | none => false)
theorem rowOk_run {P : Program} {t e : TypeId} {k bytes : Nat} (h : rowOk P t e k bytes = true) :
    P.underlying t = some (.slice e) ∧ 0 < k ∧ ∃ (i : TypeInfo) (z : Value), P.info? e = some i ∧ i.size = k ∧ i.bytes = bytes ∧ i.zero = some z ∧ z.cells.size = k ∧ ∀ u ∈ z.cells.toList, u.oneCell' = true := by
  unfold rowOk at h
  simp only [Bool.and_eq_true] at h
  obtain ⟨h1, h2⟩ := h
  obtain ⟨hu, hk, i, z, hi, hs, hb, hz, hzk, _⟩ := appOk_run h1
  rw [hi] at h2; simp only [hz] at h2
  exact ⟨hu, hk, i, z, hi, hs, hb, hz, hzk, fun u hu => List.all_eq_true.1 h2 u hu⟩
class RowTy (P : Program) (t : TypeId) (e : outParam TypeId) (k bytes : outParam Nat) : Prop where
  h : rowOk P t e k bytes = true
section
variable {P : Program} {c : Ctx} {fr : List (Nat × AV)} {bx : List (Nat × Box)} {tk : List (Nat × Tok)} {ops : Array Oper} {Q : Exit → Act → World → Prop} {rest : List Oper}
  {d : Nat} {ty : TypeId} {pos : String} {aft : Array Edge}
theorem v_capNil {x : Operand} {t e : TypeId} {k : Nat} (hx : St.ev ⟨fr, bx, tk⟩ x = .nils) [hs : SliceTy P t e k] : VV P c ⟨fr, bx, tk⟩ ⟨some d, .call { callee := .builtin .cap, args := #[x], argTypes := #[t] }, ty, pos, aft, none⟩ (aI 0) [] :=
  fun st' kE kL => .capNil rfl hs.h ((kE x (by simp [Op.operands, Call.operands])).trans hx)
theorem v_slNil {x y : Operand} {t e : TypeId} {k : Nat} {kd : IntKind} {j : Int} (hx : St.ev ⟨fr, bx, tk⟩ x = .nils) (hy : St.ev ⟨fr, bx, tk⟩ y = .iv (.im (.int kd j))) [hs : SliceTy P t e k] (h0 : j = 0) : VV P c ⟨fr, bx, tk⟩ ⟨some d, .slice t x none (some y) none, ty, pos, aft, none⟩ (.nils) [] :=
  fun st' kE kL => .slNil rfl ((kE x (by simp [Op.operands, Call.operands])).trans hx) ((kE y (by simp [Op.operands, Call.operands])).trans hy) hs.h h0
theorem v_slBshH {x y : Operand} {t e : TypeId} {k id n n' : Nat} {kd : IntKind} {j : Int} (hx : St.ev ⟨fr, bx, tk⟩ x = .bsh id 0 n k) (hy : St.ev ⟨fr, bx, tk⟩ y = .iv (.im (.int kd j))) [hs : SliceTy P t e k] (h0 : 0 ≤ j) (h1 : j ≤ n) (e2 : j.toNat = n') : VV P c ⟨fr, bx, tk⟩ ⟨some d, .slice t x none (some y) none, ty, pos, aft, none⟩ (.bsh id 0 n' k) [] :=
  fun st' kE kL => e2 ▸ .slBshH rfl ((kE x (by simp [Op.operands, Call.operands])).trans hx) ((kE y (by simp [Op.operands, Call.operands])).trans hy) hs.h h0 h1
theorem s_growNZ (N : Nat) {t t' e : TypeId} {kd kd' : IntKind} {x y : Operand} {m k bytes mr : Nat} {j : Int} (hlt : Nat.ble (d + 1) c.nt = true) (hx : St.ev ⟨fr, bx, tk⟩ x = .nils) (hy : St.ev ⟨fr, bx, tk⟩ y = .iv (.im (.int kd' j))) (hj : j = (m : Int)) [hr : RowTy P t e k bytes] [hd2 : IntTy P t' kd] (hpos : 0 < m) (hm : m ≤ maxLen) (hby : m * bytes ≤ 140737488355328) (hf : St.fresh N ⟨fr, bx, tk⟩ = true) (hmr : m * k = mr)
    (h : LW P c ⟨(d, .bsh N 0 m k) :: fr, (N, ⟨e, .r [] mr⟩) :: bx, tk⟩ ops Q rest) : LW P c ⟨fr, bx, tk⟩ ops Q (⟨some d, .call { callee := .builtin .append, args := #[x, y], argTypes := #[t, t'] }, ty, pos, aft, none⟩ :: rest) := by
  obtain ⟨ht, hk0, i0, z, hi0, hik, hib, hiz, hzk, hz1⟩ := rowOk_run hr.h
  subst hmr; subst hj
  exact L.make (st := ⟨fr, bx, tk⟩) rfl rfl hlt (.growNZ rfl ht hi0 hik hib hiz hzk hz1 hd2.h hk0 hx hy hpos hm hby hf) h
end
attribute [irreducible] LW VV
end Go.Abs
