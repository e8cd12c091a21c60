/- Several texts in one, each with its own sentence ahead of it. Conditions: each one says its own. -/
import Derived.Test.YthkobnpogigkiaaDoorZPlanWays1
import Derived.Laws.StructEq
import Derived.Laws.Slices
import Derived.Laws.Strings2
import Derived.Laws.BytesString
import Derived.Laws.Externs
import Derived.Lib.Bytealg
import Derived.Laws.Small
import Derived.Laws.Cover3
import Derived.Lib.AppendZerosOnto
import Derived.Lib.Overlaps
/- A logic of abstract states, part 10: the rules for calls, entering, returning, branches, loops. Conditions: each rule's own premises; over any program. -/
namespace Go.Abs
open Go.RowKit (Below)
set_option linter.unusedVariables false
def callOk (P : Program) (f : FuncId) : Bool :=
  match P.funcs[f]? with
  | some fn => fn.body.isSome && !(fn.name == "runtime.NumGoroutine")
  | none => false
theorem run_callOk {P : Program} {f : FuncId} (h : callOk P f = true) (args : Array Value) (w : World) : (callFunc f args).run P w = .ok (.enter f args) w := by
  unfold callOk at h
  split at h
  · rename_i fn hf
    simp only [Bool.and_eq_true, Bool.not_eq_true', beq_eq_false_iff_ne] at h
    obtain ⟨h1, h2⟩ := h
    have h3 : ¬ fn.body = none := fun e => by rw [e] at h1; cases h1
    simp [callFunc, hf, h2, h3]
  · cases h
theorem Subs.of_pub {l l' : List AV} (h : AV.pub.pubs l = l') : Subs l l' := h ▸ Subs.pubs l
theorem RelL.sub {E : Env} {w : World} {l l' : List AV} {us : List Value} (h : RelL E w l us) (hs : Subs l l') : RelL E w l' us :=
  ⟨by rw [h.1, hs.1], fun i c u hc hu => by
    have hi : i < l.length := by
      have := (List.getElem?_eq_some_iff.1 hc).1
      rw [hs.1] at this; exact this
    exact hs.2 i _ _ (List.getElem?_eq_getElem hi) hc E w u (h.2 i _ u (List.getElem?_eq_getElem hi) hu)⟩
def boOk (N : List Nat) (bxi bxo : List (Nat × Box)) : Bool := bxi.all (fun p => !p.2.cs.isEmpty) && (keys bxo).all (fun id => N.contains id || (keys bxi).contains id)
theorem boOk_keys {N : List Nat} {bxi bxo : List (Nat × Box)} (h : boOk N bxi bxo = true) {id : Nat} (hid : id ∈ keys bxo) : id ∈ N ∨ id ∈ keys bxi := by
  simp only [boOk, Bool.and_eq_true] at h
  have := List.all_eq_true.1 h.2 id hid; simpa using this
theorem boOk_live {N : List Nat} {bxi bxo : List (Nat × Box)} (h : boOk N bxi bxo = true) {id : Nat} {b : Box} (hb : bxi.lookup id = some b) : b.cs ≠ [] := by
  simp only [boOk, Bool.and_eq_true] at h
  have := List.all_eq_true.1 h.1 _ (lookup_mem hb)
  intro e; simp [e] at this
section
variable {P : Program} {c : Ctx} {st : St} {ops : Array Oper} {Q : Exit → Act → World → Prop} {rest : List Oper} {o : Oper}
theorem Inv.evs {E : Env} {a : Act} {w : World} (hi : Inv c E st a w) (args : Array Operand) : RelL E w (args.toList.map st.ev) (args.toList.map a.eval) :=
  ⟨by simp, fun i x u hx hu => by
    simp only [List.getElem?_map] at hx hu
    cases hq : args.toList[i]? with
    | none => rw [hq] at hx; simp at hx
    | some y => rw [hq] at hx hu; simp at hx hu; subst hx; subst hu; exact hi.ev y⟩
theorem HInv.hand {E : Env} {w : World} (h : HInv c E st.bx st.tk w) {bxi : List (Nat × Box)} (hb : WkB st.bx bxi) : HInv ⟨0, w, E, keys bxi⟩ E bxi [] w where
  box id b hl hn := by obtain ⟨b0, h0, ht, hs⟩ := hb.get id b hl; exact (h.box id b0 h0 (hs.ne hn)).sub ht hs
  tok id t hl := by simp at hl
  bb i j b b' hi hj hn hn' he := by
    obtain ⟨b0, h0, _, hs⟩ := hb.get i b hi
    obtain ⟨b1, h1, _, hs'⟩ := hb.get j b' hj
    exact h.bb i j b0 b1 h0 h1 (hs.ne hn) (hs'.ne hn') he
  tt i j t t' g hi := by simp at hi
  bt i j b t hi hn hj := by simp at hj
  own i b hi hn := by
    obtain ⟨b0, h0, _, hs⟩ := hb.get i b hi
    exact .inr ⟨i, keys_mem hi, rfl, (h.box i b0 h0 (hs.ne hn)).1⟩
  ownt j t g hj := by simp at hj
  new := h.new
  old b _ := rfl
  ins id hid := ⟨rfl, rfl, by obtain ⟨b, hb'⟩ := mem_keys hid; rw [hb']; rfl⟩
  kept := .refl _ _
theorem L.callN (N : List Nat) {f : FuncId} {args : Array Operand} {ats : Array TypeId} {as : List AV} {bxi bxo : List (Nat × Box)} {tko : List (Nat × Tok)} {res : AV} {d : Nat} (hg : o.guard = none) (hd : o.dst = some d) (hlt : Nat.ble (d + 1) c.nt = true)
    (ho : o.op = .call { callee := .value (.func f), args := args, argTypes := ats }) (hok : callOk P f = true) (hc : CallA P f as bxi bxo tko res) (ha : Subs (args.toList.map st.ev) as) (hbi : WkB st.bx bxi)
    (hN : N.all (fun id => st.fresh id) = true) (hbo : boOk N bxi bxo = true) (hto : (keys tko).all (fun id => N.contains id) = true)
    (hmb : bxo.all (fun p => AV.mentsIn (N ++ keys bxi) p.2.cs) = true) (hmr : AV.mentIn (N ++ keys bxi) res = true)
    (h : L c ⟨(d, res) :: st.fr, bxo ++ st.bx, tko ++ st.tk⟩ (wpList P ops Q rest)) : L c st (wpList P ops Q (o :: rest)) := by
  rintro a w ⟨E, hi⟩
  refine wpList_plain hg (fun K hK => ?_)
  have hrun : (execOp a.eval o).run P w = .ok (.enter f (args.map a.eval)) w := by
    simp [execOp, ho, resolve, Deferred.ofValue, Act.eval, invoke, run_callOk hok]
  unfold Oper.wp
  rw [hrun, Oper.upon_enter]
  have hcall := hc E w (args.toList.map a.eval) ((hi.evs args).sub ha) (hi.heap.hand hbi)
  have hargs : (args.toList.map a.eval).toArray = args.map a.eval := by apply Array.ext'; simp
  rw [hargs] at hcall
  refine hcall.mono fun e w' ⟨u, E', he, hu, hh⟩ => ?_
  subst he
  obtain ⟨hj, monoN, monoC⟩ := hi.heap.join hh (N := N) (fun id hid => List.all_eq_true.1 hN id hid) (fun id hid => by
      obtain ⟨b, hb⟩ := mem_keys hid
      obtain ⟨b0, h0, _, hs⟩ := hbi.get id b hb
      exact ⟨b0, h0, hs.ne (boOk_live hbo hb)⟩)
    (fun id hid => boOk_keys hbo hid) (fun id hid => by have := List.all_eq_true.1 hto id hid; simpa using this)
    (fun id b hb => List.all_eq_true.1 hmb _ (lookup_mem hb))
  refine hK _ _ ?_
  rw [hd]
  refine h _ _ ⟨_, Inv.put (st := ⟨st.fr, bxo ++ st.bx, tko ++ st.tk⟩) ⟨hi.defers, hi.size, fun s v hv => monoC v _ (fun id hid => St.fresh_fr (List.all_eq_true.1 hN id hid) hv) (hi.slot s v hv), hj⟩ (Nat.le_of_ble_eq_true hlt) (monoN res u hmr hu)⟩
theorem L.call0 {f : FuncId} {args : Array Operand} {ats : Array TypeId} {as : List AV} {res : AV} {d : Nat} (hg : o.guard = none) (hd : o.dst = some d) (hlt : Nat.ble (d + 1) c.nt = true)
    (ho : o.op = .call { callee := .value (.func f), args := args, argTypes := ats }) (hok : callOk P f = true) (hc : CallA P f as [] [] [] res) (ha : Subs (args.toList.map st.ev) as)
    (hmr : AV.mentIn [] res = true) (h : L c ⟨(d, res) :: st.fr, st.bx, st.tk⟩ (wpList P ops Q rest)) : L c st (wpList P ops Q (o :: rest)) :=
  L.callN [] hg hd hlt ho hok hc ha .nil rfl rfl rfl rfl hmr h
theorem L.region {id : Nat} {l : List Oper} (h : L c st (wpList P l.toArray Q l)) : L c st ((Code.region id l.toArray false).wp P Q) := fun a w hr => wp_region_lit (h a w hr)
theorem L.skip (h : L c st (Q .normal)) : L c st (Code.skip.wp P Q) := fun a w hr => wp_skip (h a w hr)
theorem L.exit {id : Nat} (h : L c st (Q (.exit id))) : L c st ((Code.exit id).wp P Q) := fun a w hr => wp_exit (h a w hr)
theorem L.ret (h : L c st (Q .ret)) : L c st (Code.ret.wp P Q) := fun a w hr => wp_ret (h a w hr)
theorem L.block {id : Nat} {x : Code} (h : L c st (x.wp P (Exit.inBlock id Q))) : L c st ((Code.block id x).wp P Q) := fun a w hr => wp_block (h a w hr)
theorem L.cond {x : Operand} {t : Bool} {y z : Code} (hx : st.ev x = aB t) (ht : t = true → L c st (y.wp P Q)) (hf : t = false → L c st (z.wp P Q)) : L c st ((Code.cond x y z).wp P Q) := fun a w hr => by
  obtain ⟨E, hi⟩ := hr
  exact wp_cond_split (hi.im hx) (fun e => ht e a w ⟨E, hi⟩) (fun e => hf e a w ⟨E, hi⟩)
theorem L.condT {x : Operand} {y z : Code} (hx : st.ev x = aB true) (h : L c st (y.wp P Q)) : L c st ((Code.cond x y z).wp P Q) := L.cond hx (fun _ => h) (fun e => by cases e)
theorem L.condF {x : Operand} {y z : Code} (hx : st.ev x = aB false) (h : L c st (z.wp P Q)) : L c st ((Code.cond x y z).wp P Q) := L.cond hx (fun e => by cases e) (fun _ => h)
theorem L.thenN {K : Act → World → Prop} (h : L c st K) : L c st (Exit.then K Q .normal) := h
theorem L.thenE {K : Act → World → Prop} {id : Nat} (h : L c st (Q (.exit id))) : L c st (Exit.then K Q (.exit id)) := h
theorem L.thenR {K : Act → World → Prop} (h : L c st (Q .ret)) : L c st (Exit.then K Q .ret) := h
theorem L.inN {id : Nat} (h : L c st (Q .normal)) : L c st (Exit.inBlock id Q .normal) := h
theorem L.inR {id : Nat} (h : L c st (Q .ret)) : L c st (Exit.inBlock id Q .ret) := h
theorem L.inE {id : Nat} (h : L c st (Q .normal)) : L c st (Exit.inBlock id Q (.exit id)) := fun a w hr => by simp only [Exit.inBlock, if_true]; exact h a w hr
theorem L.loop {ι : Type} (inv : ι → St) (n : ι → Nat) {i0 : ι} (h0 : Wk c st (inv i0)) {x : Code}
    (h : ∀ i, ∀ K : Act → World → Prop, (∀ st' i', n i' < n i → Wk c st' (inv i') → L c st' K) → L c (inv i) (x.wp P (Exit.then K Q))) : L c st ((Code.loop x).wp P Q) := by
  have key : ∀ (m : Nat) (i : ι), n i = m → ∀ a w, R c (inv i) a w → ∀ (b : Frame) (k : List Item) (cs : List Frame),
      ∃ e a' w', Q e a' w' ∧ Arrives P (lone (b.at a (.code x :: .inLoop x :: k)) cs w) b k cs e a' w' := by
    intro m
    induction m using Nat.strongRecOn with
    | _ m ih =>
      intro i hn a w hr b k cs
      obtain ⟨e, a₁, w₁, hq, harr⟩ := h i (fun a' w' => ∃ i', n i' < n i ∧ R c (inv i') a' w') (fun st' i' hlt hw a' w' hr' => ⟨i', hlt, hr'.wk hw⟩) a w hr b (.inLoop x :: k) cs
      cases e with
      | normal =>
        obtain ⟨i', hlt, hr'⟩ := hq
        obtain ⟨e₂, a₂, w₂, hq₂, harr₂⟩ := ih (n i') (hn ▸ hlt) i' rfl a₁ w₁ hr' b k cs
        exact ⟨e₂, a₂, w₂, hq₂, .of_steps (Steps.trans harr (.one step_inLoop)) harr₂⟩
      | exit id => exact ⟨_, a₁, w₁, hq, .pass (x := .inLoop x) rfl (fun _ _ => .inl (by simp)) harr⟩
      | goto l => exact ⟨_, a₁, w₁, hq, .pass (x := .inLoop x) rfl (fun _ _ => .inl (by simp)) harr⟩
      | ret => exact ⟨_, a₁, w₁, hq, .pass (x := .inLoop x) rfl (fun _ _ => .inl (by simp)) harr⟩
      | panic ch => exact ⟨_, a₁, w₁, hq, .pass (x := .inLoop x) rfl (fun _ _ => .inl (by simp)) harr⟩
      | outgrown => exact ⟨_, a₁, w₁, hq, .pass (x := .inLoop x) rfl (fun _ _ => .inl (by simp)) harr⟩
  intro a w hr b k cs
  obtain ⟨e, a', w', hq, harr⟩ := key _ i0 rfl a w (hr.wk h0) b k cs
  exact ⟨e, a', w', hq, .of_steps (.one step_loop) harr⟩
def enter : Nat → List AV → List (Nat × AV)
  | _, [] => []
  | n, v :: vs => (n, v) :: enter (n + 1) vs
theorem enter_get : ∀ (vs : List AV) (n s : Nat) (v : AV), (enter n vs).lookup s = some v → n ≤ s ∧ vs[s - n]? = some v
  | [], n, s, v, h => by simp [enter] at h
  | x :: vs, n, s, v, h => by
    by_cases e : s = n
    · subst e; simp only [enter, lookup_cons_eq] at h; cases h; simp
    · simp only [enter] at h
      rw [lookup_cons_ne e] at h
      obtain ⟨h1, h2⟩ := enter_get vs (n + 1) s v h
      refine ⟨by omega, ?_⟩
      rw [show s - n = (s - (n + 1)) + 1 by omega]
      simpa using h2
theorem CallA.intro {f : FuncId} {fn : Func} {code : Code} {args : List AV} {bx bx' : List (Nat × Box)} {tk' : List (Nat × Tok)} {res : AV} (nt : Nat) (hf : P.funcs[f]? = some fn) (hb : fn.body = some code) (hnt : fn.ntmps = nt) (hn : Nat.ble args.length nt = true)
    (h : ∀ (w0 : World) (E0 : Env), L ⟨nt, w0, E0, keys bx⟩ ⟨enter 0 args, bx, []⟩ (code.wp P (bodyPost P fn (Post ⟨nt, w0, E0, keys bx⟩ bx' tk' res)))) : CallA P f args bx bx' tk' res := by
  subst hnt
  have hn := Nat.le_of_ble_eq_true hn
  intro E w us hrel hh
  have hl := hrel.1
  refine calls_of_wp (R := Post ⟨fn.ntmps, w, E, keys bx⟩ bx' tk' res) hf hb (h w E _ _ ⟨E, rfl, ?_, fun s v hv => ?_, ?_⟩) |>.mono ?_
  · simp; omega
  · obtain ⟨_, hv'⟩ := enter_get args 0 s v hv
    rw [Nat.sub_zero] at hv'
    have hlt : s < us.length := by rw [hl]; exact (List.getElem?_eq_some_iff.1 hv').1
    have : (us.toArray ++ Array.replicate (fn.ntmps - us.toArray.size) undef).getD s undef = us[s] := by
      simp [Array.getElem?_append, hlt]
    rw [this]
    exact hrel.2 s v _ hv' (List.getElem?_eq_getElem hlt)
  · exact ⟨hh.box, hh.tok, hh.bb, hh.tt, hh.bt, hh.own, hh.ownt, hh.new, hh.old, hh.ins, hh.kept⟩
  · rintro e w' ⟨u, E', he, hu, hh'⟩
    exact ⟨u, E', he, hu, ⟨hh'.box, hh'.tok, hh'.bb, hh'.tt, hh'.bt, hh'.own, hh'.ownt, hh'.new, hh'.old, hh'.ins, hh'.kept⟩⟩
def St.resv (P : Program) (st : St) : ResultVar → Option AV
  | .tmp t => some (st.ev (.tmp t))
  | .cell p ty => match st.ev (.tmp p) with
    | .ptr id 0 => match st.bx.lookup id, P.info? ty, P.underlying ty with
      | some b, some i, some (.struct _) => if i.size ≤ b.cs.length then some (.agg (b.cs.take i.size)) else none
      | _, _, _ => none
    | _ => none
theorem Inv.resv {E : Env} {a : Act} {w : World} (hi : Inv c E st a w) {r : ResultVar} {v : AV} (hv : st.resv P r = some v) :
    ∃ u, ((match r with | .tmp t => pure (a.tmps.getD t undef) | .cell p t => do loadVar t (← asAddr (a.tmps.getD p undef)) : Sem Value).run P w) = .ok u w ∧ RepA E w v u := by
  cases r with
  | tmp t =>
    simp only [St.resv, Option.some.injEq] at hv
    subst hv
    exact ⟨_, rfl, hi.ev (.tmp t)⟩
  | cell p ty =>
    simp only [St.resv] at hv
    split at hv
    · rename_i id hp
      have hq : a.tmps.getD p undef = .pointer (some ⟨E.ρ id, 0, none⟩) := hi.ptr hp
      split at hv
      · rename_i b i fs hb hin hu
        split at hv
        · rename_i hle
          simp only [Option.some.injEq] at hv
          subst hv
          obtain ⟨arr, _, _, hr, h1, _, hc⟩ := hi.boxCell hb
          have hr' := hr.take i.size
          have hl : (arr.take i.size).length = i.size := by rw [List.length_take, hr.1]; omega
          have hrun : (loadCells ⟨E.ρ id, 0, none⟩ (arr.take i.size).length).run P w = .ok (arr.take i.size).toArray w :=
            run_loadCells_list w _ _ (fun j v hv => by
              rw [List.getElem?_take] at hv
              split at hv
              · rw [Addr.add_none, Nat.zero_add, hc _ (List.getElem?_eq_some_iff.1 hv).1]; exact hv
              · cases hv)
          rw [hl] at hrun
          refine ⟨_, ?_, hr'.agg (fun u hu => h1 u (List.mem_of_mem_take hu))⟩
          simp only [hq]
          simp [asAddr, loadVar, isAgg, run_underlying hu, sizeOf, typeInfo, hin, hrun]
        · cases hv
      · cases hv
    · cases hv
def St.ress (P : Program) (st : St) : List ResultVar → Option (List AV)
  | [] => some []
  | r :: rs => match st.resv P r, st.ress P rs with
    | some v, some vs => some (v :: vs)
    | _, _ => none
theorem Inv.ress {E : Env} {a : Act} {w : World} (hi : Inv c E st a w) : ∀ {rs : List ResultVar} {vs : List AV}, st.ress P rs = some vs →
    ∃ us : List Value, (rs.mapM (fun r => (match r with | .tmp t => pure (a.tmps.getD t undef) | .cell p t => do loadVar t (← asAddr (a.tmps.getD p undef)) : Sem Value))).run P w = .ok us w ∧ RelL E w vs us
  | [], vs, h => by simp [St.ress] at h; subst h; exact ⟨[], rfl, RelL.nil _ _⟩
  | r :: rs, vs, h => by
    simp only [St.ress] at h
    split at h
    · rename_i v vs' hv hvs
      cases h
      obtain ⟨u, hu, hr⟩ := hi.resv (P := P) hv
      obtain ⟨us, hus, hrs⟩ := hi.ress hvs
      refine ⟨u :: us, ?_, ⟨by simp [hrs.1], fun i c' u' hc hu' => ?_⟩⟩
      · rw [List.mapM_cons, Sem.run_bind, hu, Result.andThen_ok, Sem.run_bind, hus]; rfl
      · cases i with
        | zero => simp at hc hu'; subst hc; subst hu'; exact hr
        | succ i => exact hrs.2 i c' u' (by simpa using hc) (by simpa using hu')
    · cases h
def resOf : List AV → AV
  | [v] => v
  | vs => .tup vs
theorem L.ends {fn : Func} {bx' : List (Nat × Box)} {tk' : List (Nat × Tok)} {res : AV} {rs : List ResultVar} {vs : List AV} (hfn : fn.results = rs.toArray) (hv : st.ress P rs = some vs) (hs : Sub (resOf vs) res) (hw : Wk c st ⟨[], bx', tk'⟩) :
    L c st (bodyPost P fn (Post c bx' tk' res) .ret) := by
  rintro a w ⟨E, hi⟩
  obtain ⟨us, hus, hr⟩ := hi.ress hv
  refine ⟨hi.defers, if h : us.length = 1 then us[0] else .tuple us.toArray, ?_, _, E, rfl, hs E w _ ?_, hi.heap.wk hw⟩
  · have hmap : (rs.toArray.mapM (fun r => (match r with | .tmp t => pure (a.tmps.getD t undef) | .cell p t => do loadVar t (← asAddr (a.tmps.getD p undef)) : Sem Value))).run P w = .ok us.toArray w := by
      rw [Array.mapM_eq_mapM_toList, Sem.run_map]
      simp only [hus]; rfl
    unfold results
    rw [hfn, Sem.run_bind]
    erw [hmap]
    simp
  · match vs, us, hr with
    | [v], [u], hr => exact hr.2 0 v u rfl rfl
    | [], [], hr => exact .tup rfl (fun i c u h => by simp at h)
    | v :: v' :: vs, u :: u' :: us, hr => exact .tup hr.1 hr.2
    | [], u :: us, hr => have := hr.1; simp at this
    | [v], [], hr => have := hr.1; simp at this
    | [v], u :: u' :: us, hr => have := hr.1; simp at this
    | v :: v' :: vs, [], hr => have := hr.1; simp at this
    | v :: v' :: vs, [u], hr => have := hr.1; simp at this
end
end Go.Abs
/- A logic of abstract states, part 10b: further values: structs compared, shifts and bits, divisions, bytes as a string, parts of strings and slices; a nil slice taken as an empty row of one's own. Conditions: each rule's own premises; over any program. -/
namespace Go.Abs
open Go.RowKit (Below)
set_option linter.unusedVariables false
set_option linter.unusedSimpArgs false
theorem getM {α β : Type} {f : α → β} {vs : List α} {i : Nat} {v : α} (hv : vs[i]? = some v) : (vs.map f)[((i : Nat) : Int).toNat]? = some (f v) := by simp [hv]
def eqV : Value → Value → Option Bool
  | .int k a, .int k' b => if k = k' then some (a == b) else none
  | .bool a, .bool b => some (a == b)
  | .string a, .string b => some (a.data.toList == b.data.toList)
  | _, _ => none
def eqVs : List AV → List AV → Option Bool
  | [], [] => some true
  | .iv (.im v) :: vs, .iv (.im u) :: us => match eqV v u, eqVs vs us with
    | some a, some b => some (a && b)
    | _, _ => none
  | _, _ => none
def cellKind (P : Program) (t : TypeId) : Nat := match P.underlying t with | some (.int _) => 1 | some .bool => 2 | some .string => 3 | _ => 0
def vKind : AV → Nat
  | .iv (.im (.int _ _)) => 1
  | .iv (.im (.bool _)) => 2
  | .iv (.im (.string _)) => 3
  | _ => 0
def eqFs (P : Program) : Nat → List Field → List Nat → Bool
  | _, [], [] => true
  | i, f :: fs, k :: ks => (f.name != "_" && (f.offset == i && cellKind P f.type == k)) && eqFs P (i + 1) fs ks
  | _, _, _ => false
def eqOk (P : Program) (t : TypeId) (ks : List Nat) : Bool :=
  match P.underlying t with
  | some (.struct fs) => !(P.stoodInHeld t) && (!(P.eqGuardType P.depth t) && eqFs P 0 fs.toList ks)
  | _ => false
theorem run_eqV {P : Program} {t : TypeId} {v u : Value} {b : Bool} (d : Nat) (w : World) (hk : cellKind P t = vKind (.iv (.im v))) (h : eqV v u = some b) : (Op.equalIn (d + 1) t v u).run P w = .ok b w ∧ (isAgg t).run P w = .ok false w := by
  unfold cellKind at hk
  cases v <;> cases u <;> simp only [eqV] at h <;> try (cases h; done)
  · rename_i a b'
    cases h
    cases hu : P.underlying t with
    | none => rw [hu] at hk; simp [vKind] at hk
    | some x => rw [hu] at hk; cases x <;> simp [vKind] at hk <;> simp [Op.equalIn, run_underlying hu, isAgg]
  · rename_i k a k' b'
    split at h
    · rename_i hkk; subst hkk; cases h
      cases hu : P.underlying t with
      | none => rw [hu] at hk; simp [vKind] at hk
      | some x => rw [hu] at hk; cases x <;> simp [vKind] at hk <;> simp [Op.equalIn, run_underlying hu, isAgg]
    · cases h
  · rename_i a b'
    cases h
    have : (a == b') = (a.data.toList == b'.data.toList) := by
      obtain ⟨⟨x⟩⟩ := a
      obtain ⟨⟨y⟩⟩ := b'
      show ((⟨x⟩ : Array UInt8) == ⟨y⟩) = (x == y)
      simp
    cases hu : P.underlying t with
    | none => rw [hu] at hk; simp [vKind] at hk
    | some x => rw [hu] at hk; cases x <;> simp [vKind] at hk <;> simp [Op.equalIn, run_underlying hu, this, isAgg]
theorem run_eqFs {P : Program} (d : Nat) (w : World) : ∀ (fs : List Field) (i : Nat) (xs ys : Array Value) (vs us : List AV) (b : Bool), eqFs P i fs (vs.map vKind) = true → eqVs vs us = some b →
    (∀ (j : Nat) (v : Value), vs[j]? = some (.iv (.im v)) → xs[i + j]? = some v) → (∀ (j : Nat) (v : Value), us[j]? = some (.iv (.im v)) → ys[i + j]? = some v) →
    (Op.eqFields (d + 1) xs ys fs).run P w = .ok b w
  | [], i, xs, ys, vs, us, b, hf, h, _, _ => by
    cases vs with
    | nil => cases us with
      | nil => simp only [eqVs] at h; cases h; simp [Op.eqFields]
      | cons _ _ => simp [eqVs] at h
    | cons _ _ => simp [eqFs] at hf
  | f :: fs, i, xs, ys, vs, us, b, hf, h, hx, hy => by
    match vs, us, h with
    | [], _, h => simp [eqFs] at hf
    | .iv (.im v) :: vs, .iv (.im u) :: us, h =>
      simp only [List.map_cons, eqFs, Bool.and_eq_true, bne_iff_ne, beq_iff_eq] at hf
      obtain ⟨⟨hn, ho, hk⟩, hfs⟩ := hf
      simp only [eqVs] at h
      cases h1 : eqV v u with
      | none => rw [h1] at h; cases h
      | some b1 =>
        cases h2 : eqVs vs us with
        | none => rw [h1, h2] at h; cases h
        | some b2 =>
          rw [h1, h2] at h
          cases h
          have hxi : xs[f.offset]? = some v := by rw [ho]; exact hx 0 v rfl
          have hyi : ys[f.offset]? = some u := by rw [ho]; exact hy 0 u rfl
          obtain ⟨he, hag⟩ := run_eqV (P := P) d w hk h1
          have ih := run_eqFs d w fs (i + 1) xs ys vs us b2 hfs h2 (fun j v' hv' => by have := hx (j + 1) v' (by simpa using hv'); rwa [show i + 1 + j = i + (j + 1) by omega]) (fun j v' hv' => by have := hy (j + 1) v' (by simpa using hv'); rwa [show i + 1 + j = i + (j + 1) by omega])
          have hpx : (part f.type xs f.offset).run P w = .ok v w := by simp [part, hag, hxi]
          have hpy : (part f.type ys f.offset).run P w = .ok u w := by simp [part, hag, hyi]
          simp only [Op.eqFields, hn, ne_eq, not_false_eq_true, if_true, Sem.run_bind, hpx, hpy, Result.andThen_ok, he]
          cases b1
          · simp
          · simpa using ih
section
variable {P : Program} {c : Ctx} {st : St} {ops : Array Oper} {Q : Exit → Act → World → Prop} {rest : List Oper} {o : Oper}
theorem eqAgg_run {x y : Operand} {t : TypeId} {cs ds : List AV} {ks : List Nat} {b : Bool} (hx : st.ev x = .agg cs) (hy : st.ev y = .agg ds) (hok : eqOk P t ks = true) (hn : cs.map vKind = ks) (hb : eqVs cs ds = some b)
    {E : Env} {a : Act} {w : World} (hi : Inv c E st a w) : ∃ xs ys : Array Value, a.eval x = .agg xs ∧ a.eval y = .agg ys ∧ (Op.equalIn 10000 t (.agg xs) (.agg ys)).run P w = .ok b w ∧ ∀ op, (eqGuard op t x y (.agg xs) (.agg ys)).run P w = .ok () w := by
  have h1 := hi.ev x; rw [hx] at h1
  have h2 := hi.ev y; rw [hy] at h2
  obtain ⟨xs, hxs, hxr, _⟩ := h1.agg_inv
  obtain ⟨ys, hys, hyr, _⟩ := h2.agg_inv
  unfold eqOk at hok
  split at hok
  · rename_i fs hu
    simp only [Bool.and_eq_true, Bool.not_eq_true', beq_iff_eq] at hok
    obtain ⟨hs, hg, hfs⟩ := hok
    subst hn
    have hfo : P.fieldsOf t = fs := by simp [Program.fieldsOf, hu]
    refine ⟨_, _, hxs, hys, ?_, fun op => run_eqGuard_agg w op t x y _ _ hg⟩
    rw [run_equalIn_struct w 9999 t _ _ (by rw [hfo]; exact hu) hs, hfo]
    have hcell : ∀ (l : List AV) (us : List Value), RelL E w l us → ∀ (j : Nat) (v : Value), l[j]? = some (.iv (.im v)) → us.toArray[0 + j]? = some v := by
      intro l us hr j v hj
      have hlt : j < us.length := by rw [hr.1]; exact (List.getElem?_eq_some_iff.1 hj).1
      have := (hr.2 j _ _ hj (List.getElem?_eq_getElem hlt)).iv_im
      simp [List.getElem?_eq_getElem hlt, this]
    exact run_eqFs 9998 w fs.toList 0 _ _ cs ds b hfs hb (hcell cs xs hxr) (hcell ds ys hyr)
  · cases hok
theorem Yields.eqlAgg {x y : Operand} {t t' : TypeId} {cs ds : List AV} {ks : List Nat} {b : Bool} (ho : o.op = .binOp .eql t x y t') (hx : st.ev x = .agg cs) (hy : st.ev y = .agg ds) (hok : eqOk P t ks = true) (hn : cs.map vKind = ks) (hb : eqVs cs ds = some b) : Yields P c st o (aB b) :=
  .im rfl fun E a w hi => by
    obtain ⟨xs, ys, h1, h2, h3, h4⟩ := eqAgg_run hx hy hok hn hb hi
    simp [execOp, ho, h1, h2, h4, run_eql_struct, h3, Result.andThen]
theorem Yields.neqAgg {x y : Operand} {t t' : TypeId} {cs ds : List AV} {ks : List Nat} {b : Bool} (ho : o.op = .binOp .neq t x y t') (hx : st.ev x = .agg cs) (hy : st.ev y = .agg ds) (hok : eqOk P t ks = true) (hn : cs.map vKind = ks) (hb : eqVs cs ds = some b) : Yields P c st o (aB (!b)) :=
  .im rfl fun E a w hi => by
    obtain ⟨xs, ys, h1, h2, h3, h4⟩ := eqAgg_run hx hy hok hn hb hi
    simp [execOp, ho, h1, h2, h4, run_neq_struct, h3, Result.andThen]
theorem Yields.shrI {x y : Operand} {t t' : TypeId} {k k' : IntKind} {m n : Int} (ho : o.op = .binOp .shr t x y t') (hx : st.ev x = .iv (.im (.int k m))) (hy : st.ev y = .iv (.im (.int k' n))) (h0 : 0 ≤ n) :
    Yields P c st o (.iv (.im (.int k (m.fdiv (2 ^ min n.toNat k.bits))))) :=
  .im rfl fun E a w hi => by
    have : ¬ n < 0 := by omega
    simp [execOp, ho, hi.im hx, hi.im hy, eqGuard, binOp, Op.shift, this]
theorem Yields.convU8 {x : Operand} {s t : TypeId} {b : UInt8} (ho : o.op = .convert s t x) (hx : st.ev x = .iv (.im (.int .u8 (b.toNat : Int)))) (ht : P.underlying t = some (.int .i64)) (hs : (P.underlying s).isSome = true) : Yields P c st o (aI (b.toNat : Int)) := by
  have h := Yields.conv (c := c) ho hx ht hs
  have hb := b.toNat_lt
  have hw : IntKind.i64.wrap (b.toNat : Int) = (b.toNat : Int) := IntWalk.i64_in _ (by omega)
  rwa [hw] at h
theorem or_add {a n : Int} {i : Nat} (ha : 0 ≤ a) (h1 : a * 2 ^ i + 2 ^ i ≤ 9223372036854775807) (hn : 0 ≤ n) (h2 : n < 2 ^ i) :
    IntKind.i64.wrap ((BitVec.ofInt IntKind.i64.bits (a * 2 ^ i) ||| BitVec.ofInt IntKind.i64.bits n).toNat : Int) = a * 2 ^ i + n := by
  obtain ⟨A, rfl⟩ := Int.eq_ofNat_of_zero_le ha
  obtain ⟨N, rfl⟩ := Int.eq_ofNat_of_zero_le hn
  have e0 : ((A : Int) * 2 ^ i) = ((A * 2 ^ i : Nat) : Int) := by simp
  have h2' : N < 2 ^ i := by
    have : ((N : Nat) : Int) < ((2 ^ i : Nat) : Int) := by simpa using h2
    exact Int.ofNat_lt.1 this
  have h1' : A * 2 ^ i + 2 ^ i ≤ 9223372036854775807 := by
    have : (((A * 2 ^ i + 2 ^ i : Nat)) : Int) ≤ 9223372036854775807 := by simpa using h1
    omega
  have hor : (A * 2 ^ i) ||| N = A * 2 ^ i + N := by
    have := Nat.shiftLeft_add_eq_or_of_lt h2' A
    rw [Nat.shiftLeft_eq] at this; exact this.symm
  have hb : (BitVec.ofInt IntKind.i64.bits ((A : Int) * 2 ^ i) ||| BitVec.ofInt IntKind.i64.bits (N : Int)).toNat = A * 2 ^ i + N := by
    rw [e0, BitVec.toNat_or]
    have b64 : IntKind.i64.bits = 64 := rfl
    rw [b64, BitVec.ofInt_natCast, BitVec.ofInt_natCast, BitVec.toNat_ofNat, BitVec.toNat_ofNat, Nat.mod_eq_of_lt (by omega), Nat.mod_eq_of_lt (by omega), hor]
  rw [hb, IntWalk.i64_in _ (by omega)]
  simp
theorem Yields.orA {x y : Operand} {t t' : TypeId} {m n a p : Int} (i : Nat) (ho : o.op = .binOp .or t x y t') (hx : st.ev x = aI m) (hy : st.ev y = aI n) (hp : (2 : Int) ^ i = p) (hm : m = a * p) (ha : 0 ≤ a) (h1 : a * p + p ≤ 9223372036854775807) (hn : 0 ≤ n) (h2 : n < p) : Yields P c st o (aI (m + n)) :=
  .im rfl fun E act w hi => by
    subst hm; subst hp
    have h := or_add ha h1 hn h2
    simp [execOp, ho, hi.im hx, hi.im hy, eqGuard, binOp, Op.intBits] at h ⊢
    exact h
theorem Yields.shlA {x y : Operand} {t t' : TypeId} {k' : IntKind} {m n p : Int} (ho : o.op = .binOp .shl t x y t') (hx : st.ev x = aI m) (hy : st.ev y = .iv (.im (.int k' n))) (h0 : 0 ≤ n) (hp : (2 : Int) ^ min n.toNat 64 = p) (hlo : -9223372036854775808 ≤ m * p) (hhi : m * p ≤ 9223372036854775807) :
    Yields P c st o (aI (m * p)) :=
  .im rfl fun E a w hi => by
    subst hp
    have : ¬ n < 0 := by omega
    have hw : IntKind.i64.wrap (m * 2 ^ min n.toNat 64) = m * 2 ^ min n.toNat 64 := IntWalk.i64_in _ ⟨hlo, hhi⟩
    have hb : IntKind.i64.bits = 64 := rfl
    simp [execOp, ho, hi.im hx, hi.im hy, eqGuard, binOp, Op.shift, this, hb, hw]
theorem Yields.quoI {x y : Operand} {t t' : TypeId} {m n : Int} (ho : o.op = .binOp .quo t x y t') (hx : st.ev x = aI m) (hy : st.ev y = aI n) (hn : 0 < n) (hlo : -9223372036854775808 ≤ m) (hhi : m ≤ 9223372036854775807) :
    Yields P c st o (aI (m.tdiv n)) :=
  .im rfl fun E a w hi => by
    have h0 : ¬ n = 0 := by omega
    have hr : -9223372036854775808 ≤ m.tdiv n ∧ m.tdiv n ≤ 9223372036854775807 := by
      rcases Int.le_total 0 m with h | h
      · have h1 := Int.tdiv_nonneg h (by omega : 0 ≤ n)
        have h2 : m.tdiv n ≤ m := Int.tdiv_le_self n h
        omega
      · have h1 : (-m).tdiv n ≤ -m := Int.tdiv_le_self n (by omega)
        have h2 := Int.tdiv_nonneg (by omega : 0 ≤ -m) (by omega : 0 ≤ n)
        rw [Int.neg_tdiv] at h1 h2
        omega
    have : IntKind.i64.wrap (m.tdiv n) = m.tdiv n := IntWalk.i64_in _ hr
    simp [execOp, ho, hi.im hx, hi.im hy, eqGuard, binOp, Op.intDiv, h0, this]
theorem Yields.sliceSl {x y : Operand} {t : TypeId} {m : List UInt8} {k : IntKind} {n : Int} (ho : o.op = .slice t x (some y) none none) (hx : st.ev x = aS m) (hy : st.ev y = .iv (.im (.int k n))) (ht : P.underlying t = some .string)
    (h0 : 0 ≤ n) (h1 : n ≤ m.length) : Yields P c st o (aS (m.drop n.toNat)) :=
  .im rfl fun E a w hi => by
    have hs := run_slice_string_l (P := P) w t ⟨m.toArray⟩ ht k n h0 (by simpa [ByteArray.size] using h1)
    have he : (ByteArray.mk m.toArray).extract n.toNat (ByteArray.mk m.toArray).size = ByteArray.mk (m.drop n.toNat).toArray := by
      rw [ByteArray.extract_mk]
      congr 2
      exact List.take_of_length_le (by simp [ByteArray.size])
    rw [he] at hs
    simp [execOp, ho, hi.im hx, hi.im hy, run_sliceAt_string w t _ _ _ _ ht, hs]
theorem Yields.sliceSh {x y : Operand} {t : TypeId} {m : List UInt8} {k : IntKind} {n : Int} (ho : o.op = .slice t x none (some y) none) (hx : st.ev x = aS m) (hy : st.ev y = .iv (.im (.int k n))) (ht : P.underlying t = some .string)
    (h0 : 0 ≤ n) (h1 : n ≤ m.length) : Yields P c st o (aS (m.take n.toNat)) :=
  .im rfl fun E a w hi => by
    have hs := run_slice_string_h (P := P) w t ⟨m.toArray⟩ ht k n h0 (by simpa [ByteArray.size] using h1)
    rw [ByteArray.extract_mk] at hs
    simp only [List.drop_zero, Nat.sub_zero] at hs
    simp [execOp, ho, hi.im hx, hi.im hy, run_sliceAt_string w t _ _ _ _ ht, hs]
theorem RepI.part {φ : Nat → Nat} {w : World} {es : List (List IV)} {k len cap : Nat} {a : Option Addr} (h : RepI φ w (.sl es) (.slice a len cap)) (hk : ∀ e ∈ es, e.length = k) {l n : Nat} (hn : n ≤ es.length) (hl : l ≤ n) :
    RepI φ w (.sl ((es.take n).drop l)) (sliced a l n cap k) := by
  cases h with
  | emp hnn hm =>
    have : n = 0 := by simpa using hn
    subst this
    have : l = 0 := by omega
    subst this
    refine .emp (fun ha => ?_) (by omega)
    split at ha
    · omega
    · cases a with
      | none => have := hnn rfl; omega
      | some _ => simp at ha
  | @sl _ b o _ k' f hc hm hk' hφ hcell hrep =>
    have hkk : ∀ (i : Nat) (e : List IV), es[i]? = some e → k' = k := fun i e he => by rw [← hk' i e he, hk e (List.mem_of_getElem? he)]
    have hget : ∀ (i : Nat) (e : List IV), ((es.take n).drop l)[i]? = some e → es[l + i]? = some e := fun i e he => by
      rw [List.getElem?_drop, List.getElem?_take] at he
      split at he
      · exact he
      · cases he
    have hlen : ((es.take n).drop l).length = n - l := by simp; omega
    by_cases hcl : cap = l
    · have h1 : (es.take n).drop l = [] := List.eq_nil_of_length_eq_zero (by rw [hlen]; omega)
      rw [h1]
      have h2 : n - l = 0 := by omega
      simp only [sliced, hcl, if_true, h2]
      exact RepI.sl (es := []) (k := k) (fun _ _ => undef) (by simp) (by omega) (fun i e h => by simp at h) (fun i e j x h => by simp at h) (fun i e j x h => by simp at h) (fun i e j x h => by simp at h)
    · have : sliced (some ⟨b, o, none⟩) l n cap k = .slice (some ⟨b, o + l * k, none⟩) ((es.take n).drop l).length (cap - l) := by
        simp only [sliced, if_neg hcl, Option.map_some, Addr.add_none, hlen]
      rw [this]
      refine .sl (k := k) (fun i j => f (l + i) j) (by rw [hlen]; omega) (by omega) (fun i e he => hk e (List.mem_of_getElem? (hget i e he))) (fun i e j x he hx => ?_) (fun i e j x he hx => ?_) (fun i e j x he hx => hrep _ _ _ _ (hget i e he) hx)
      · have := hφ _ _ _ _ (hget i e he) hx
        rw [hkk _ _ (hget i e he)] at this
        rw [show o + l * k + i * k + j = o + (l + i) * k + j by rw [Nat.add_mul]; omega]; exact this
      · have := hcell _ _ _ _ (hget i e he) hx
        rw [hkk _ _ (hget i e he)] at this
        rw [show o + l * k + i * k + j = o + (l + i) * k + j by rw [Nat.add_mul]; omega]; exact this
theorem sliceV_run {t e : TypeId} {k : Nat} {x : Operand} {es : List (List IV)} (hs : sliceOk P t e k = true) (hx : (st.ev x).sl? = some es) (hk : ∀ e ∈ es, e.length = k) {E : Env} {a : Act} {w : World} (hi : Inv c E st a w) :
    ∃ ad len cap, a.eval x = .slice ad len cap ∧ len = es.length ∧ es.length ≤ cap ∧ P.underlying t = some (.slice (P.elem t)) ∧ (sizeOf (P.elem t)).run P w = .ok k w ∧
      ∀ l n, n ≤ es.length → l ≤ n → RepI E.φ w (.sl ((es.take n).drop l)) (sliced ad l n cap k) := by
  have hr := (hi.ev x).sl hx
  obtain ⟨hu, inf, hinf, hsz⟩ := sliceOk_run hs
  have he : P.elem t = e := by simp [Program.elem, hu]
  have h2 : P.underlying t = some (.slice (P.elem t)) := by rw [he]; exact hu
  have h3 : (sizeOf (P.elem t)).run P w = .ok k w := by rw [he]; simp [sizeOf, typeInfo, hinf, hsz]
  rcases hr.sl_inv with ⟨hq, rfl⟩ | ⟨ad, cap, hq, _, _, rfl⟩ | ⟨b, o', cap, k', f, hq, hc, hm, hkk, hcell⟩
  · rw [hq] at hr
    exact ⟨none, 0, 0, hq, rfl, Nat.le_refl _, h2, h3, fun l n hn hl => hr.part hk hn hl⟩
  · rw [hq] at hr
    exact ⟨some ad, 0, cap, hq, rfl, Nat.zero_le _, h2, h3, fun l n hn hl => hr.part hk hn hl⟩
  · rw [hq] at hr
    exact ⟨_, _, _, hq, rfl, hc, h2, h3, fun l n hn hl => hr.part hk hn hl⟩
theorem Yields.sliceVl {x y : Operand} {t e : TypeId} {k : Nat} {es : List (List IV)} {kd : IntKind} {n : Int} (ho : o.op = .slice t x (some y) none none) (hx : (st.ev x).sl? = some es) (hy : st.ev y = .iv (.im (.int kd n))) (hs : sliceOk P t e k = true)
    (hk : ∀ e ∈ es, e.length = k) (h0 : 0 ≤ n) (h1 : n ≤ es.length) : Yields P c st o (.iv (.sl (es.drop n.toNat))) := fun E a w hi => by
  obtain ⟨ad, len, cap, hq, hlen, hc, hu, hz, hp⟩ := sliceV_run hs hx hk hi
  have hp' := hp n.toNat es.length (Nat.le_refl _) (by omega)
  rw [List.take_length] at hp'
  refine ⟨_, ?_, .iv hp'⟩
  subst hlen
  have := run_slice_l (P := P) w t ad es.length cap hu kd n h0 h1
  simp [execOp, ho, hq, hi.im hy, run_sliceAt_slice w t _ _ _ _ hu, this, hz, Result.andThen]
theorem Yields.sliceVh {x y : Operand} {t e : TypeId} {k : Nat} {es : List (List IV)} {kd : IntKind} {n : Int} (ho : o.op = .slice t x none (some y) none) (hx : (st.ev x).sl? = some es) (hy : st.ev y = .iv (.im (.int kd n))) (hs : sliceOk P t e k = true)
    (hk : ∀ e ∈ es, e.length = k) (h0 : 0 ≤ n) (h1 : n ≤ es.length) : Yields P c st o (.iv (.sl (es.take n.toNat))) := fun E a w hi => by
  obtain ⟨ad, len, cap, hq, hlen, hc, hu, hz, hp⟩ := sliceV_run hs hx hk hi
  have hp' := hp 0 n.toNat (by omega) (by omega)
  rw [List.drop_zero] at hp'
  refine ⟨_, ?_, .iv hp'⟩
  subst hlen
  have := run_slice_h (P := P) w t ad es.length cap hu kd n h0 (by omega)
  simp [execOp, ho, hq, hi.im hy, run_sliceAt_slice w t _ _ _ _ hu, this, hz, Result.andThen]
abbrev cB (b : UInt8) : List IV := [.im (.int .u8 b.toNat)]
theorem foldl_push (l : List UInt8) : ∀ (r : List UInt8), ((l.map fun b => ((b.toNat : Int))).foldl (fun (r : ByteArray) n => r.push (UInt8.ofNat n.toNat)) ⟨r.toArray⟩) = ⟨(r ++ l).toArray⟩ := by
  induction l with
  | nil => intro r; simp
  | cons b l ih =>
    intro r
    simp only [List.map_cons, List.foldl_cons]
    have : (ByteArray.mk r.toArray).push (UInt8.ofNat ((b.toNat : Int)).toNat) = ⟨(r ++ [b]).toArray⟩ := by
      have : UInt8.ofNat ((b.toNat : Int)).toNat = b := by simp
      rw [this]; apply ByteArray.ext; simp [ByteArray.push]
    rw [this, ih]; simp
theorem Yields.bytesS {x : Operand} {s t e : TypeId} {bs : List UInt8} (ho : o.op = .convert s t x) (hx : (st.ev x).sl? = some (bs.map cB)) (hs : sliceOk P s e 1 = true) (he : P.underlying e = some (.int .u8)) (ht : P.underlying t = some .string) :
    Yields P c st o (aS bs) :=
  .im rfl fun E a w hi => by
    obtain ⟨hu, inf, hinf, hsz⟩ := sliceOk_run hs
    rcases ((hi.ev x).sl hx).sl_inv with ⟨hq, h0⟩ | ⟨ad, cap, hq, _, _, h0⟩ | ⟨b, o', cap, k', f, hq, _, _, hk, hcell⟩
    · have : bs = [] := by simpa using h0
      subst this
      simp [execOp, ho, hq, run_convert_bytes_string w s t e none 0 0 hu he ht, Conv.bytesToString]
      rfl
    · have : bs = [] := by simpa using h0
      subst this
      have hb := run_bytesToString (P := P) w ad 0 cap [] (run_loadCells_list w ad [] (fun j v hv => by simp at hv))
      simp [execOp, ho, hq, run_convert_bytes_string w s t e (some ad) 0 cap hu he ht, hb]
      rfl
    · have hc : ∀ (i : Nat) (b' : UInt8), bs[i]? = some b' → w.cell? ⟨b, o' + i, none⟩ = some (.int .u8 b'.toNat) := by
        intro i b' hb
        have h1 : (bs.map cB)[i]? = some (cB b') := by simp [hb]
        have h2 := hcell i _ 0 _ h1 rfl
        have h3 := (hk i _ h1)
        simp at h3
        have h4 := h2.2.2.im_eq
        rw [h4] at h2
        simpa [← h3] using h2.2.1
      have hload : (loadCells ⟨b, o', none⟩ ((bs.map fun x => (x.toNat : Int)).map (Value.int .u8)).length).run P w = .ok (((bs.map fun x => (x.toNat : Int)).map (Value.int .u8))).toArray w :=
        run_loadCells_list w _ _ (fun j v hv => by
          simp only [List.getElem?_map, Option.map_map] at hv
          cases hb : bs[j]? with
          | none => rw [hb] at hv; simp at hv
          | some b' => rw [hb] at hv; simp at hv; subst hv; rw [Addr.add_none]; exact hc j b' hb)
      have hlen : ((bs.map fun x => (x.toNat : Int)).map (Value.int .u8)).length = bs.length := by simp
      rw [hlen] at hload
      have hlm : (bs.map cB).length = bs.length := by simp
      have := run_bytesToString w ⟨b, o', none⟩ bs.length cap _ hload
      have hf := foldl_push bs []
      simp only [List.nil_append] at hf
      have hemp : (ByteArray.mk ([] : List UInt8).toArray) = ByteArray.empty := rfl
      rw [hemp] at hf
      rw [hf] at this
      rw [hlm] at hq
      simp [execOp, ho, hq, run_convert_bytes_string w s t e _ _ _ hu he ht, this]
theorem L.adopt {s : Nat} (id : Nat) {t : TypeId} {k : Nat} {X : Act → World → Prop} (hs : st.fr.lookup s = some .nils) (hf : st.fresh id = true) (hin : c.ins.contains id = false) (h : L c ⟨(s, .row id []) :: st.fr, st.bx, (id, ⟨t, k⟩) :: st.tk⟩ X) : L c st X := by
  rintro a w ⟨E, hi⟩
  have mono : ∀ (v : AV) (u : Value), AV.ment id v = false → RepA E w v u → RepA ⟨E.φ, E.ρ, fun i => if i = id then .slice none 0 0 else E.η i⟩ w v u := fun v u hm hr =>
    hr.mono (E := E) (E' := ⟨E.φ, E.ρ, fun i => if i = id then .slice none 0 0 else E.η i⟩) (fun _ _ _ => rfl) (fun _ => Nat.le_refl _) (fun i hi' => ⟨rfl, by
      have : i ≠ id := fun e => by subst e; rw [hm] at hi'; cases hi'
      simp [this]⟩)
  refine h a w ⟨⟨E.φ, E.ρ, fun i => if i = id then .slice none 0 0 else E.η i⟩, hi.defers, hi.size, fun s' v hv => ?_, ?_⟩
  · by_cases e : s' = s
    · subst e
      simp [List.lookup] at hv; subst hv
      have h0 := hi.slot s' _ hs
      generalize a.tmps.getD s' undef = u at h0 ⊢
      cases h0
      exact .row (by simp) .nil
    · rw [lookup_cons_ne e] at hv
      exact mono v _ (St.fresh_fr hf hv) (hi.slot s' v hv)
  · have hh : HInv c ⟨E.φ, E.ρ, fun i => if i = id then .slice none 0 0 else E.η i⟩ st.bx st.tk w := by
      have hne : ∀ (j : Nat) (t' : Tok), st.tk.lookup j = some t' → (if j = id then Value.slice none 0 0 else E.η j) = E.η j := fun j t' hj => by rw [if_neg (St.fresh_tk hf hj)]
      refine ⟨fun i b hb hn => ?_, fun i t' hi' => ?_, hi.heap.bb, fun i j t1 t2 g h1 h2 e1 e2 => ?_, fun i j b t' h1 hn h2 => ?_, hi.heap.own, fun j t' g hj hg => ?_, hi.heap.new, hi.heap.old, fun i hi' => ?_, hi.heap.kept⟩
      · obtain ⟨h0, arr, ha, hl, h1, hr, hq⟩ := hi.heap.box i b hb hn
        refine ⟨h0, arr, ha, hl, h1, fun k c u hc hu => mono c u ?_ (hr k c u hc hu), fun k cap he => hq k cap (by simpa only [if_neg (St.fresh_bx hf hb).1] using he)⟩
        exact AV.ments_false (St.fresh_bx hf hb).2 k c hc
      · have := hi.heap.tok i t' hi'
        simp only [TokOk, hne i t' hi'] at this ⊢
        exact this
      · simp only [hne i t1 h1] at e1
        simp only [hne j t2 h2] at e2
        exact hi.heap.tt i j t1 t2 g h1 h2 e1 e2
      · simp only [hne j t' h2]
        exact hi.heap.bt i j b t' h1 hn h2
      · simp only [hne j t' hj] at hg
        exact hi.heap.ownt j t' g hj hg
      · obtain ⟨h1, h2, h3⟩ := hi.heap.ins i hi'
        refine ⟨h1, ?_, h3⟩
        have : i ≠ id := fun e => by subst e; simp at hin; exact hin hi'
        simp only [if_neg this]; exact h2
    refine hh.addTok (.inl (by simp)) (fun j t' g hj hl hg => by simp [Value.ownBlock]) (fun i b hb hn => by simp [Value.ownBlock]) (fun g hg => by simp [Value.ownBlock] at hg)
theorem HInv.reEta {E : Env} {w : World} {η : Nat → Value} (h : HInv c E st.bx st.tk w) (hb : ∀ (i : Nat) (b : Box), st.bx.lookup i = some b → ∀ (k : Nat) (v : AV) (u : Value), b.cs[k]? = some v → RepA E w v u → RepA ⟨E.φ, E.ρ, η⟩ w v u)
    (ht : ∀ (j : Nat) (t : Tok), st.tk.lookup j = some t → η j = E.η j) (hin : ∀ id ∈ c.ins, η id = E.η id) (hbe : ∀ (i : Nat) (b : Box), st.bx.lookup i = some b → η i = E.η i) : HInv c ⟨E.φ, E.ρ, η⟩ st.bx st.tk w := by
  refine ⟨fun i b h0 hn => ?_, fun i t' hi' => ?_, h.bb, fun i j t1 t2 g h1 h2 e1 e2 => ?_, fun i j b t' h1 hn h2 => ?_, h.own, fun j t' g hj hg => ?_, h.new, h.old, fun i hi' => ?_, h.kept⟩
  · obtain ⟨h0', arr, ha, hl, h1, hr, hq⟩ := h.box i b h0 hn
    exact ⟨h0', arr, ha, hl, h1, fun k c u hc hu => hb i b h0 k c u hc (hr k c u hc hu), fun k cap he => hq k cap (by simpa only [hbe i b h0] using he)⟩
  · have := h.tok i t' hi'
    simp only [TokOk, ht i t' hi'] at this ⊢
    exact this
  · simp only [ht i t1 h1] at e1
    simp only [ht j t2 h2] at e2
    exact h.tt i j t1 t2 g h1 h2 e1 e2
  · simp only [ht j t' h2]
    exact h.bt i j b t' h1 hn h2
  · simp only [ht j t' hj] at hg
    exact h.ownt j t' g hj hg
  · obtain ⟨h1, h2, h3⟩ := h.ins i hi'
    exact ⟨h1, by rw [← h2]; exact hin i hi', h3⟩
theorem delTok_look' (id : Nat) : ∀ (tk : List (Nat × Tok)) (s : Nat), (delTok id tk).lookup s = if s = id then none else tk.lookup s
  | [], s => by simp [delTok]
  | (t, u) :: tk, s => by
    have ih := delTok_look' id tk s
    unfold delTok at ih ⊢
    by_cases e : t = id
    · subst e
      simp only [List.filter_cons, bne_self_eq_false, Bool.false_eq_true, if_false]
      rw [ih]
      by_cases h : s = t
      · simp [h]
      · rw [lookup_cons_ne h]
    · have hb : (t != id) = true := by simpa [bne] using e
      simp only [List.filter_cons, hb, if_true]
      by_cases h : s = t
      · subst h; rw [lookup_cons_eq, lookup_cons_eq, if_neg e]
      · rw [lookup_cons_ne h, lookup_cons_ne h, ih]
theorem L.retok {es : List (List IV)} {t : Tok} {X : Act → World → Prop} (s a b : Nat) (hs : st.fr.lookup s = some (.row a es)) (ht : st.tk.lookup a = some t) (hf : st.fresh b = true) (hin : c.ins.contains b = false)
    (h : L c ⟨(s, .row b es) :: st.fr, st.bx, (b, t) :: delTok a st.tk⟩ X) : L c st X := by
  rintro act w ⟨E, hi⟩
  have hab : a ≠ b := St.fresh_tk hf ht
  have mono : ∀ (v : AV) (u : Value), AV.ment b v = false → RepA E w v u → RepA ⟨E.φ, E.ρ, fun i => if i = b then E.η a else E.η i⟩ w v u := fun v u hm hr =>
    hr.mono (E := E) (E' := ⟨E.φ, E.ρ, fun i => if i = b then E.η a else E.η i⟩) (fun _ _ _ => rfl) (fun _ => Nat.le_refl _) (fun i hi' => ⟨rfl, by
      have : i ≠ b := fun e => by subst e; rw [hm] at hi'; cases hi'
      simp [this]⟩)
  have hh : HInv c ⟨E.φ, E.ρ, fun i => if i = b then E.η a else E.η i⟩ st.bx st.tk w := hi.heap.reEta
    (fun i bb h0 k v u hv hr => mono v u (AV.ments_false (St.fresh_bx hf h0).2 k v hv) hr)
    (fun j t' hj => by simp only [if_neg (St.fresh_tk hf hj)])
    (fun id hid => by
      have : id ≠ b := fun e => by subst e; simp at hin; exact hin hid
      simp only [if_neg this])
    (fun i bb h0 => by simp only [if_neg (St.fresh_bx hf h0).1])
  have hh' : HInv c ⟨E.φ, E.ρ, fun i => if i = b then E.η a else E.η i⟩ st.bx (delTok a st.tk) w := by
    have hw : Wk c st ⟨st.fr, st.bx, delTok a st.tk⟩ := ⟨fun id hid => (hi.heap.ins id hid).2.2, fun s v hv => ⟨v, hv, Sub.refl _⟩, fun id bb hb => ⟨bb, hb, rfl, Subs.refl _⟩, fun id t' ht' => by
      simp only at ht'; rw [delTok_look'] at ht'
      split at ht'
      · cases ht'
      · exact ht'⟩
    exact hh.wk (st := st) (st' := ⟨st.fr, st.bx, delTok a st.tk⟩) hw
  refine h act w ⟨⟨E.φ, E.ρ, fun i => if i = b then E.η a else E.η i⟩, hi.defers, hi.size, fun s' v hv => ?_, ?_⟩
  · by_cases e : s' = s
    · subst e
      simp [List.lookup] at hv; subst hv
      have h0 := hi.slot s' _ hs
      cases h0 with
      | row hu h0 => exact .row (by simp [hu]) h0
    · rw [lookup_cons_ne e] at hv
      exact mono v _ (St.fresh_fr hf hv) (hi.slot s' v hv)
  · refine hh'.addTok ?_ (fun j t' g hj hl hg => ?_) (fun i bb hb hn => ?_) (fun g hg => ?_)
    · have := hi.heap.tok a t ht
      simp only [TokOk, if_true] at this ⊢
      exact this
    · rw [delTok_look'] at hl
      split at hl
      · cases hl
      · rename_i hja
        simp only [if_neg hj, if_true] at hg ⊢
        intro hg'
        exact hja (hi.heap.tt j a t' t g hl ht hg hg')
    · simp only [if_true]
      exact hi.heap.bt i a bb t hb hn ht
    · simp only [if_true] at hg
      exact hi.heap.ownt a t g ht hg
end
end Go.Abs
/- A logic of abstract states, part 18: bytes of a string, the first place of a byte, the last bit, the lesser of two. Conditions: each rule's own premises; over any program. -/
namespace Go.Abs
open Go.RowKit (Below)
set_option linter.unusedVariables false
section
variable {P : Program} {c : Ctx} {st : St} {ops : Array Oper} {Q : Exit → Act → World → Prop} {rest : List Oper} {o : Oper}
def extOk (P : Program) (f : FuncId) (e : Array Value → Sem Value) : Prop :=
  ∃ fn, P.funcs[f]? = some fn ∧ (fn.name == "runtime.NumGoroutine") = false ∧ fn.body.isNone = true ∧ Extern.findNext fn = none ∧ Extern.find fn = some e
theorem and_one (n : Int) : bits .and .i64 n 1 = n % 2 := by
  have h1 : (BitVec.ofInt 64 1).toNat = 2 ^ 1 - 1 := by decide
  have key : (BitVec.ofInt 64 n &&& BitVec.ofInt 64 1).toNat = (n % ((2 ^ 64 : Nat) : Int)).toNat % 2 ^ 1 := by
    rw [BitVec.toNat_and, BitVec.toNat_ofInt, h1, Nat.and_two_pow_sub_one_eq_mod]
  show IntKind.i64.wrap ((BitVec.ofInt 64 n &&& BitVec.ofInt 64 1).toNat : Nat) = n % 2
  rw [key, IntKind.wrap_i64]
  omega
theorem Yields.and1 {x y : Operand} {t t' : TypeId} {m : Int} (ho : o.op = .binOp .and t x y t') (hx : st.ev x = aI m) (hy : st.ev y = aI 1) : Yields P c st o (aI (m % 2)) :=
  .arith ho hx hy (fun w => by rw [← and_one m]; rfl) (fun w => rfl)
theorem Yields.min2 {x y : Operand} {t t' : TypeId} {m n : Int} (ho : o.op = .call { callee := .builtin .min, args := #[x, y], argTypes := #[t, t'] }) (hx : st.ev x = aI m) (hy : st.ev y = aI n) : Yields P c st o (aI (if n < m then n else m)) :=
  .im rfl fun E a w hi => by
    have e1 := hi.im hx
    have e2 := hi.im hy
    simp [execOp, ho, resolve, invoke, builtin, e1, e2, run_min_int2, Result.andThen]
abbrev Globs := List (Nat × List IV)
def Glob (gs : Globs) (E : Env) (w : World) : Prop :=
  (∀ b, w.heap.size ≤ b → E.φ b = 0) ∧ ∀ (g : Nat) (xs : List IV), (g, xs) ∈ gs → ∀ (i : Nat) (x : IV), xs[i]? = some x → i < E.φ g ∧ ∃ v, w.cell? ⟨g, i, none⟩ = some v ∧ RepI E.φ w x v
theorem Glob.nil {E : Env} {w : World} (h : ∀ b, w.heap.size ≤ b → E.φ b = 0) : Glob [] E w := ⟨h, fun g xs h => by simp at h⟩
theorem Glob.keep {gs : Globs} {E : Env} {a : Act} {w : World} (h : Glob gs c.E0 c.w0) (hi : Inv c E st a w) : Glob gs E w := by
  obtain ⟨h0, h1⟩ := h
  have lt : ∀ b o, o < c.E0.φ b → b < c.w0.heap.size := fun b o ho => Nat.lt_of_not_le (fun hle => by rw [h0 b hle] at ho; omega)
  have hk : Keeps c.E0.φ c.w0 w := fun b o ho => by
    have hb := lt b o ho
    exact World.cell?_of_block (w := c.w0) (hi.heap.kept.block b hb (fun ⟨id, hid, hg, h0⟩ => by omega))
  have hφ : ∀ b, c.E0.φ b ≤ E.φ b := fun b => by
    by_cases hb : b < c.w0.heap.size
    · rw [hi.heap.old b hb]; exact Nat.le_refl _
    · rw [h0 b (by omega)]; exact Nat.zero_le _
  refine ⟨hi.heap.new, fun g xs hg i x hx => ?_⟩
  obtain ⟨k1, v, k2, k3⟩ := h1 g xs hg i x hx
  exact ⟨Nat.lt_of_lt_of_le k1 (hφ g), v, by rw [hk g i k1]; exact k2, k3.mono hk hφ⟩
def CallG (gs : Globs) (P : Program) (f : FuncId) (args : List AV) (bx bx' : List (Nat × Box)) (tk' : List (Nat × Tok)) (res : AV) : Prop :=
  ∀ (E : Env) (w : World) (us : List Value), RelL E w args us → HInv ⟨0, w, E, keys bx⟩ E bx [] w → Glob gs E w →
    Calls P f us.toArray w fun e w' => ∃ (u : Value) (E' : Env), e = .returned u ∧ RepA E' w' res u ∧ HInv ⟨0, w, E, keys bx⟩ E' bx' tk' w'
theorem CallA.toG {gs : Globs} {f : FuncId} {args : List AV} {bx bx' : List (Nat × Box)} {tk' : List (Nat × Tok)} {res : AV} (h : CallA P f args bx bx' tk' res) : CallG gs P f args bx bx' tk' res :=
  fun E w us hr hh _ => h E w us hr hh
theorem CallG.toA {f : FuncId} {args : List AV} {bx bx' : List (Nat × Box)} {tk' : List (Nat × Tok)} {res : AV} (h : CallG [] P f args bx bx' tk' res) : CallA P f args bx bx' tk' res :=
  fun E w us hr hh => h E w us hr hh (Glob.nil hh.new)
theorem CallG.intro {gs : Globs} {f : FuncId} {fn : Func} {code : Code} {args : List AV} {bx bx' : List (Nat × Box)} {tk' : List (Nat × Tok)} {res : AV} (nt : Nat) (hf : P.funcs[f]? = some fn) (hb : fn.body = some code) (hnt : fn.ntmps = nt) (hn : Nat.ble args.length nt = true)
    (h : ∀ (w0 : World) (E0 : Env), Glob gs E0 w0 → L ⟨nt, w0, E0, keys bx⟩ ⟨enter 0 args, bx, []⟩ (code.wp P (bodyPost P fn (Post ⟨nt, w0, E0, keys bx⟩ bx' tk' res)))) : CallG gs P f args bx bx' tk' res := by
  subst hnt
  have hn := Nat.le_of_ble_eq_true hn
  intro E w us hrel hh hg
  have hl := hrel.1
  refine calls_of_wp (R := Post ⟨fn.ntmps, w, E, keys bx⟩ bx' tk' res) hf hb (h w E hg _ _ ⟨E, rfl, ?_, fun s v hv => ?_, ?_⟩) |>.mono ?_
  · simp; omega
  · obtain ⟨_, hv'⟩ := enter_get args 0 s v hv
    rw [Nat.sub_zero] at hv'
    have hlt : s < us.length := by rw [hl]; exact (List.getElem?_eq_some_iff.1 hv').1
    have : (us.toArray ++ Array.replicate (fn.ntmps - us.toArray.size) undef).getD s undef = us[s] := by
      simp [Array.getElem?_append, hlt]
    rw [this]
    exact hrel.2 s v _ hv' (List.getElem?_eq_getElem hlt)
  · exact ⟨hh.box, hh.tok, hh.bb, hh.tt, hh.bt, hh.own, hh.ownt, hh.new, hh.old, hh.ins, hh.kept⟩
  · rintro e w' ⟨u, E', he, hu, hh'⟩
    exact ⟨u, E', he, hu, ⟨hh'.box, hh'.tok, hh'.bb, hh'.tt, hh'.bt, hh'.own, hh'.ownt, hh'.new, hh'.old, hh'.ins, hh'.kept⟩⟩
theorem L.enterG {gs : Globs} (N : List Nat) {f : FuncId} {as : List AV} {bxi bxo : List (Nat × Box)} {tko : List (Nat × Tok)} {res : AV} {d : Nat} (hg : o.guard = none) (hd : o.dst = some d) (hlt : Nat.ble (d + 1) c.nt = true) (hG : Glob gs c.E0 c.w0)
    (ho : ∀ (E : Env) (a : Act) (w : World), Inv c E st a w → ∃ us : List Value, (execOp a.eval o).run P w = .ok (.enter f us.toArray) w ∧ RelL E w as us) (hc : CallG gs P f as bxi bxo tko res) (hbi : WkB st.bx bxi)
    (hN : N.all (fun id => st.fresh id) = true) (hbo : boOk N bxi bxo = true) (hto : (keys tko).all (fun id => N.contains id) = true)
    (hmb : bxo.all (fun p => AV.mentsIn (N ++ keys bxi) p.2.cs) = true) (hmr : AV.mentIn (N ++ keys bxi) res = true)
    (h : L c ⟨(d, res) :: st.fr, bxo ++ st.bx, tko ++ st.tk⟩ (wpList P ops Q rest)) : L c st (wpList P ops Q (o :: rest)) := by
  rintro a w ⟨E, hi⟩
  refine wpList_plain hg (fun K hK => ?_)
  obtain ⟨us, hrun, hrel⟩ := ho E a w hi
  unfold Oper.wp
  rw [hrun, Oper.upon_enter]
  have hcall := hc E w us hrel (hi.heap.hand hbi) (hG.keep hi)
  refine hcall.mono fun e w' ⟨u, E', he, hu, hh⟩ => ?_
  subst he
  obtain ⟨hj, monoN, monoC⟩ := hi.heap.join hh (N := N) (fun id hid => List.all_eq_true.1 hN id hid) (fun id hid => by
      obtain ⟨b, hb⟩ := mem_keys hid
      obtain ⟨b0, h0, _, hs⟩ := hbi.get id b hb
      exact ⟨b0, h0, hs.ne (boOk_live hbo hb)⟩)
    (fun id hid => boOk_keys hbo hid) (fun id hid => by have := List.all_eq_true.1 hto id hid; simpa using this)
    (fun id b hb => List.all_eq_true.1 hmb _ (lookup_mem hb))
  refine hK _ _ ?_
  rw [hd]
  refine h _ _ ⟨_, Inv.put (st := ⟨st.fr, bxo ++ st.bx, tko ++ st.tk⟩) ⟨hi.defers, hi.size, fun s v hv => monoC v _ (fun id hid => St.fresh_fr (List.all_eq_true.1 hN id hid) hv) (hi.slot s v hv), hj⟩ (Nat.le_of_ble_eq_true hlt) (monoN res u hmr hu)⟩
theorem L.callG0 {gs : Globs} {f : FuncId} {args : Array Operand} {ats : Array TypeId} {as : List AV} {res : AV} {d : Nat} (hg : o.guard = none) (hd : o.dst = some d) (hlt : Nat.ble (d + 1) c.nt = true) (hG : Glob gs c.E0 c.w0)
    (ho : o.op = .call { callee := .value (.func f), args := args, argTypes := ats }) (hok : callOk P f = true) (hc : CallG gs P f as [] [] [] res) (ha : Subs (args.toList.map st.ev) as)
    (hmr : AV.mentIn [] res = true) (h : L c ⟨(d, res) :: st.fr, st.bx, st.tk⟩ (wpList P ops Q rest)) : L c st (wpList P ops Q (o :: rest)) :=
  L.enterG [] hg hd hlt hG (fun E a w hi => ⟨args.toList.map a.eval, by
    have hargs : (args.toList.map a.eval).toArray = args.map a.eval := by apply Array.ext'; simp
    rw [hargs]
    simp [execOp, ho, resolve, Deferred.ofValue, Act.eval, invoke, run_callOk hok], (hi.evs args).sub ha⟩) hc .nil rfl rfl rfl rfl hmr h
def arrOk (P : Program) (t e : TypeId) (n : Nat) : Bool :=
  (match P.underlying t with | some (.array m e') => m == n && e' == e | _ => false) && (match P.info? e with | some i => i.size == 1 | none => false)
theorem Yields.indexG {gs : Globs} {g : Nat} {xs : List IV} {t e : TypeId} {i : Operand} {kd : IntKind} {n : Int} {v : IV} (ho : o.op = .indexAddr t (.global g) i) (hs : arrOk P t e xs.length = true) (hG : Glob gs c.E0 c.w0) (hm : (g, xs) ∈ gs)
    (hi' : st.ev i = .iv (.im (.int kd n))) (h0 : 0 ≤ n) (hv : xs[n.toNat]? = some v) : Yields P c st o (.el [v]) := fun E a w hi => by
  have e1 := hi.im hi'
  obtain ⟨g1, u, g2, g3⟩ := (hG.keep hi).2 g xs hm _ v hv
  unfold arrOk at hs
  simp only [Bool.and_eq_true] at hs
  obtain ⟨hs1, hs2⟩ := hs
  have hu : P.underlying t = some (.array xs.length e) := by
    split at hs1
    · rename_i m e' hm
      simp only [Bool.and_eq_true, beq_iff_eq] at hs1
      rw [hm, hs1.1, hs1.2]
    · cases hs1
  have hlt : n < (xs.length : Int) := by
    have := (List.getElem?_eq_some_iff.1 hv).1
    omega
  cases hinf : P.info? e with
  | none => rw [hinf] at hs2; simp at hs2
  | some inf =>
    rw [hinf] at hs2
    have hsz : inf.size = 1 := by simpa using hs2
    refine ⟨.pointer (some ⟨g, n.toNat, none⟩), ?_, .el (fun _ => u) (fun j x hx => ?_) (fun j x hx => ?_)⟩
    · have eg : a.eval (.global g) = .pointer (some ⟨g, 0, none⟩) := rfl
      have ea : (⟨g, 0, none⟩ : Addr).add n.toNat = ⟨g, n.toNat, none⟩ := by rw [Addr.add_none, Nat.zero_add]
      simp [execOp, ho, eg, e1, Instr.indexAt, asIntOf, run_underlying hu, Instr.sureAddr, h0, hlt, sizeOf, typeInfo, hinf, hsz, ea]
    · cases j with
      | zero => exact ⟨g1, g2⟩
      | succ j => simp at hx
    · cases j with
      | zero => simp at hx; subst hx; exact g3
      | succ j => simp at hx
theorem Yields.loadG {gs : Globs} {g : Nat} {t : TypeId} {x : IV} (ho : o.op = .load t (.global g)) (ht : varOk P t false 1 = true) (hG : Glob gs c.E0 c.w0) (hm : (g, [x]) ∈ gs) : Yields P c st o (.iv x) := fun E a w hi => by
  obtain ⟨g1, u, g2, g3⟩ := (hG.keep hi).2 g [x] hm 0 x rfl
  refine ⟨u, ?_, .iv g3⟩
  have eg : a.eval (.global g) = .pointer (some ⟨g, 0, none⟩) := rfl
  simp [execOp, ho, eg, Instr.loadAt, Instr.sureAddr, loadVar, (varOk_agg ht w).1, g2]
theorem Yields.makeFunc {f : FuncId} {caps : Array Operand} (ho : o.op = .makeFunc (.func f) #[] caps) : Yields P c st o (.fn f (caps.toList.map st.ev)) := fun E a w hi => by
  refine ⟨.func (.func f) #[] (caps.toList.map a.eval).toArray, ?_, ?_⟩
  · have hc : (caps.toList.map a.eval).toArray = caps.map a.eval := by apply Array.ext'; simp
    rw [hc]
    simp [execOp, ho, Instr.makeFunc]
  · obtain ⟨h1, h2⟩ := hi.evs caps
    exact .fn h1 h2
theorem L.callFnG {gs : Globs} {f : FuncId} {x : Operand} {args : Array Operand} {ats : Array TypeId} {as caps : List AV} {bxi : List (Nat × Box)} {res : AV} {d : Nat} (hg : o.guard = none) (hd : o.dst = some d) (hlt : Nat.ble (d + 1) c.nt = true) (hG : Glob gs c.E0 c.w0)
    (ho : o.op = .call { callee := .value x, args := args, argTypes := ats }) (hx : st.ev x = .fn f caps) (hok : callOk P f = true) (hc : CallG gs P f (as ++ caps) bxi bxi [] res) (ha : Subs (args.toList.map st.ev) as)
    (hbi : WkB st.bx bxi) (hmb : bxi.all (fun p => !p.2.cs.isEmpty && AV.mentsIn (keys bxi) p.2.cs) = true) (hmr : AV.mentIn (keys bxi) res = true)
    (h : L c ⟨(d, res) :: st.fr, bxi ++ st.bx, st.tk⟩ (wpList P ops Q rest)) : L c st (wpList P ops Q (o :: rest)) :=
  L.enterG [] hg hd hlt hG (fun E a w hi => by
    have hv := hi.ev x
    rw [hx] at hv
    generalize hu : a.eval x = u at hv
    cases hv with
    | @fn _ _ us hl hr =>
      refine ⟨args.toList.map a.eval ++ us, ?_, ((hi.evs args).sub ha).append ⟨hl, hr⟩⟩
      have hargs : (args.toList.map a.eval ++ us).toArray = args.map a.eval ++ us.toArray := by apply Array.ext'; simp
      rw [hargs]
      simp [execOp, ho, resolve, hu, Deferred.ofValue, invoke, run_callOk hok]) hc hbi rfl (by
      simp only [boOk, Bool.and_eq_true, List.all_eq_true] at hmb ⊢
      exact ⟨fun p hp => (hmb p hp).1, fun id hid => by simpa using hid⟩) rfl (by
      simp only [Bool.and_eq_true, List.all_eq_true] at hmb ⊢
      exact fun p hp => (hmb p hp).2) hmr h
def fldOk (P : Program) (s : TypeId) (f fo : Nat) : Bool :=
  match P.underlying s with
  | some (.struct fs) => match fs[f]? with
    | some fd => fd.offset == fo && (match P.underlying fd.type with | some (.int _) | some .string | some .bool | some (.slice _) => true | _ => false)
    | none => false
  | _ => false
theorem Yields.fieldV {s : TypeId} {x : Operand} {f fo : Nat} {cs : List AV} {v : AV} (ho : o.op = .field s x f) (hf : fldOk P s f fo = true) (hx : st.ev x = .agg cs) (hv : cs[fo]? = some v) : Yields P c st o v := fun E a w hi => by
  have h := hi.ev x
  rw [hx] at h
  obtain ⟨us, hu, hr, _⟩ := h.agg_inv
  have hlt : fo < us.length := by rw [hr.1]; exact (List.getElem?_eq_some_iff.1 hv).1
  refine ⟨us[fo], ?_, hr.2 fo v _ hv (List.getElem?_eq_getElem hlt)⟩
  unfold fldOk at hf
  split at hf
  · rename_i fs hus
    split at hf
    · rename_i fd hfd
      simp only [Bool.and_eq_true, beq_iff_eq] at hf
      obtain ⟨h1, h2⟩ := hf
      have hag : (isAgg fd.type).run P w = .ok false w := by
        split at h2
        all_goals first | (rename_i hd; simp [isAgg, run_underlying hd]; done) | cases h2
      have hget : us[fo]? = some us[fo] := List.getElem?_eq_getElem hlt
      simp [execOp, ho, hu, Instr.field, run_underlying hus, hfd, asAgg, part, hag, h1, hget]
    · cases hf
  · cases hf
end
end Go.Abs
/- A logic of abstract states, part 15: slices that lie in own blocks: their length, room, parts, elements. Conditions: each rule's own premises; over any program. -/
namespace Go.Abs
open Go.RowKit (Below)
set_option linter.unusedVariables false
section
variable {P : Program} {c : Ctx} {st : St} {ops : Array Oper} {Q : Exit → Act → World → Prop} {rest : List Oper} {o : Oper}
theorem Yields.lenBsl {t : TypeId} {x : Operand} {id off n cap : Nat} (ho : o.op = .call { callee := .builtin .len, args := #[x], argTypes := #[t] }) {e : TypeId} {k : Nat} (hs : sliceOk P t e k = true) (hx : st.ev x = .bsl id off n cap) : Yields P c st o (aI n) :=
  .im rfl fun E a w hi => by
    obtain ⟨hu, _⟩ := sliceOk_run hs
    have h := hi.ev x; rw [hx] at h
    obtain ⟨o', hq, _⟩ := h.bsl_inv
    simp [execOp, ho, resolve, invoke, builtin, hq, Builtin.len_, run_underlying hu, goInt]
theorem Yields.lenBsh {t : TypeId} {x : Operand} {id off n k' : Nat} (ho : o.op = .call { callee := .builtin .len, args := #[x], argTypes := #[t] }) {e : TypeId} {k : Nat} (hs : sliceOk P t e k = true) (hx : st.ev x = .bsh id off n k') : Yields P c st o (aI n) :=
  .im rfl fun E a w hi => by
    obtain ⟨hu, _⟩ := sliceOk_run hs
    have h := hi.ev x; rw [hx] at h
    obtain ⟨cap, o', hq, _⟩ := h.bsh_inv
    simp [execOp, ho, resolve, invoke, builtin, hq, Builtin.len_, run_underlying hu, goInt]
theorem Yields.capBsl {t : TypeId} {x : Operand} {id off n cap : Nat} (ho : o.op = .call { callee := .builtin .cap, args := #[x], argTypes := #[t] }) {e : TypeId} {k : Nat} (hs : sliceOk P t e k = true) (hx : st.ev x = .bsl id off n cap) : Yields P c st o (aI cap) :=
  .im rfl fun E a w hi => by
    obtain ⟨hu, _⟩ := sliceOk_run hs
    have h := hi.ev x; rw [hx] at h
    obtain ⟨o', hq, _⟩ := h.bsl_inv
    simp [execOp, ho, resolve, invoke, builtin, hq, Builtin.cap_, run_underlying hu, goInt]
theorem Yields.indexBsh {t e : TypeId} {x i : Operand} {k : Nat} {kd : IntKind} {j : Int} {id off n : Nat} (ho : o.op = .indexAddr t x i) (hs : sliceOk P t e k = true) (hx : st.ev x = .bsh id off n k)
    (hj : st.ev i = .iv (.im (.int kd j))) (h0 : 0 ≤ j) (h1 : j < n) : Yields P c st o (.ptr id ((off + j.toNat) * k)) :=
  fun E a w hi => by
    obtain ⟨hu, inf, hinf, hsz⟩ := sliceOk_run hs
    have h := hi.ev x; rw [hx] at h
    obtain ⟨cap, o', hq, hn, _, _, hoo⟩ := h.bsh_inv
    have := hoo (by omega); subst this
    refine ⟨.pointer (some ⟨E.ρ id, off * k + j.toNat * k, none⟩), ?_, .ptr (by rw [Nat.add_mul])⟩
    simp [execOp, ho, hq, hi.im hj, Instr.indexAt, asIntOf, run_underlying hu, h0, h1, sizeOf, typeInfo, hinf, hsz, Addr.add_none]
theorem sliced_bsl {E : Env} {w : World} {id off cap o' l h m s : Nat} (hl : l ≤ h) (hh : h ≤ m) (hm : m ≤ cap) (hx : cap ≤ maxLen) (ho : cap ≠ 0 → o' = off) :
    RepA E w (.bsl id (off + l * s) (h - l) (m - l)) (sliced (some ⟨E.ρ id, o', none⟩) l h m s) := by
  unfold sliced
  by_cases e : m = l
  · rw [if_pos e]
    exact .bsl (by omega) (by omega) (fun h => by omega) rfl
  · rw [if_neg e]
    exact .bsl (by omega) (by omega) (fun _ => rfl) (by rw [ho (by omega)]; simp [Addr.add_none])
theorem sl_facts {t e : TypeId} {k : Nat} (hs : sliceOk P t e k = true) (w : World) : P.underlying t = some (.slice (P.elem t)) ∧ (sizeOf (P.elem t)).run P w = .ok k w := by
  obtain ⟨hu, inf, hinf, hsz⟩ := sliceOk_run hs
  have he : P.elem t = e := by simp [Program.elem, hu]
  exact ⟨by rw [he]; exact hu, by rw [he]; simp [sizeOf, typeInfo, hinf, hsz]⟩
theorem Yields.slBl {x y : Operand} {t e : TypeId} {k id off n cap : Nat} {kd : IntKind} {j : Int} (ho : o.op = .slice t x (some y) none none) (hx : st.ev x = .bsl id off n cap) (hy : st.ev y = .iv (.im (.int kd j))) (hs : sliceOk P t e k = true)
    (h0 : 0 ≤ j) (h1 : j ≤ n) : Yields P c st o (.bsl id (off + j.toNat * k) (n - j.toNat) (cap - j.toNat)) := fun E a w hi => by
  obtain ⟨hu, hz⟩ := sl_facts hs w
  have h := hi.ev x; rw [hx] at h
  obtain ⟨o', hq, hn, hm, hoo⟩ := h.bsl_inv
  refine ⟨_, ?_, sliced_bsl (s := k) (by omega) hn (Nat.le_refl _) hm hoo⟩
  have := run_slice_l (P := P) w t (some ⟨E.ρ id, o', none⟩) n cap hu kd j h0 h1
  simp [execOp, ho, hq, hi.im hy, run_sliceAt_slice w t _ _ _ _ hu, this, hz, Result.andThen]
theorem Yields.slBh {x y : Operand} {t e : TypeId} {k id off n cap : Nat} {kd : IntKind} {j : Int} (ho : o.op = .slice t x none (some y) none) (hx : st.ev x = .bsl id off n cap) (hy : st.ev y = .iv (.im (.int kd j))) (hs : sliceOk P t e k = true)
    (h0 : 0 ≤ j) (h1 : j ≤ cap) : Yields P c st o (.bsl id off j.toNat cap) := fun E a w hi => by
  obtain ⟨hu, hz⟩ := sl_facts hs w
  have h := hi.ev x; rw [hx] at h
  obtain ⟨o', hq, hn, hm, hoo⟩ := h.bsl_inv
  have h2 := sliced_bsl (E := E) (w := w) (id := id) (s := k) (Nat.zero_le j.toNat) (by omega : j.toNat ≤ cap) (Nat.le_refl _) hm hoo
  simp only [Nat.zero_mul, Nat.add_zero, Nat.sub_zero] at h2
  refine ⟨_, ?_, h2⟩
  have := run_slice_h (P := P) w t (some ⟨E.ρ id, o', none⟩) n cap hu kd j h0 h1
  simp [execOp, ho, hq, hi.im hy, run_sliceAt_slice w t _ _ _ _ hu, this, hz, Result.andThen]
end
end Go.Abs
/- A logic of abstract states, part 16: steps that no operation takes: a slice's room laid open, a row under a new name, a box given up. Conditions: each rule's own premises; over any program. -/
namespace Go.Abs
open Go.RowKit (Below)
set_option linter.unusedVariables false
theorem HInv.reBox {c : Ctx} {E : Env} {bx : List (Nat × Box)} {tk : List (Nat × Tok)} {w : World} (h : HInv c E bx tk w) {id : Nat} {b b' : Box} (hb : bx.lookup id = some b) (hbn : b.cs ≠ []) (hb' : b'.cs ≠ [] → BoxOk E w id b') :
    HInv c E ((id, b') :: bx) tk w := by
  have f : ∀ (i : Nat) (b1 : Box), List.lookup i ((id, b') :: bx) = some b1 → b1.cs ≠ [] → ∃ b2, bx.lookup i = some b2 ∧ b2.cs ≠ [] := fun i b1 h hn => by
    by_cases e : i = id
    · subst e; exact ⟨b, hb, hbn⟩
    · rw [lookup_cons_ne e] at h; exact ⟨b1, h, hn⟩
  refine ⟨fun i b1 hi hn => ?_, h.tok, fun i j b1 b2 hi hj hn hn' he => ?_, h.tt, fun i j b1 t hi hn hj => ?_, fun i b1 hi hn => ?_, h.ownt, h.new, h.old, fun i hin => ?_, h.kept⟩
  · by_cases e : i = id
    · subst e; rw [lookup_cons_eq] at hi; cases hi; exact hb' hn
    · rw [lookup_cons_ne e] at hi; exact h.box i b1 hi hn
  · obtain ⟨b3, h3, n3⟩ := f i b1 hi hn
    obtain ⟨b4, h4, n4⟩ := f j b2 hj hn'
    exact h.bb i j b3 b4 h3 h4 n3 n4 he
  · obtain ⟨b3, h3, n3⟩ := f i b1 hi hn
    exact h.bt i j b3 t h3 n3 hj
  · obtain ⟨b3, h3, n3⟩ := f i b1 hi hn
    exact h.own i b3 h3 n3
  · obtain ⟨e1, e2, e3⟩ := h.ins i hin
    refine ⟨e1, e2, ?_⟩
    by_cases e : i = id
    · subst e; rw [lookup_cons_eq]; rfl
    · rw [lookup_cons_ne e]; exact e3
theorem HInv.turn {c : Ctx} {E : Env} {st : St} {w : World} (h : HInv c E st.bx st.tk w) {id : Nat} (hf : st.fresh id = true) (g : Nat) (v : Value) :
    HInv c ⟨E.φ, fun i => if i = id then g else E.ρ i, fun i => if i = id then v else E.η i⟩ st.bx st.tk w ∧
      (∀ (x : AV) (u : Value), AV.ment id x = false → RepA E w x u → RepA ⟨E.φ, fun i => if i = id then g else E.ρ i, fun i => if i = id then v else E.η i⟩ w x u) := by
  have hρ : ∀ i, i ≠ id → (if i = id then g else E.ρ i) = E.ρ i := fun i hi => by simp [hi]
  have hη : ∀ i, i ≠ id → (if i = id then v else E.η i) = E.η i := fun i hi => by simp [hi]
  have mono : ∀ (x : AV) (u : Value), AV.ment id x = false → RepA E w x u → RepA ⟨E.φ, fun i => if i = id then g else E.ρ i, fun i => if i = id then v else E.η i⟩ w x u := fun x u hm hr =>
    RepA.mono (E := E) (w := w) (h := hr) (E' := ⟨E.φ, fun i => if i = id then g else E.ρ i, fun i => if i = id then v else E.η i⟩) (fun _ _ _ => rfl) (fun _ => Nat.le_refl _) (fun i hi => by
      have : i ≠ id := fun e => by subst e; rw [hm] at hi; cases hi
      exact ⟨hρ i this, hη i this⟩)
  refine ⟨⟨fun i b hb hn => ?_, fun i t ht => ?_, fun i j b b' hi hj hn hn' he => ?_, fun i j t t' g' hi hj h1 h2 => ?_, fun i j b t hi hn hj => ?_, fun i b hi hn => ?_, fun j t g' hj hg => ?_, h.new, h.old, fun i hin => ?_, h.kept⟩, mono⟩
  · obtain ⟨hne, hm⟩ := St.fresh_bx hf hb
    obtain ⟨h0, arr, ha, hl, h1, hr, hq⟩ := h.box i b hb hn
    refine ⟨by simp only [hρ i hne]; exact h0, arr, by simp only [hρ i hne]; exact ha, hl, h1, fun k x u hx hu => mono x u (AV.ments_false hm k x hx) (hr k x u hx hu), fun k cap he => hq k cap (by simpa only [hη i hne] using he)⟩
  · have := h.tok i t ht
    simp only [TokOk, hη i (St.fresh_tk hf ht)] at this ⊢
    exact this
  · simp only [hρ i (St.fresh_bx hf hi).1, hρ j (St.fresh_bx hf hj).1] at he
    exact h.bb i j b b' hi hj hn hn' he
  · simp only [hη i (St.fresh_tk hf hi)] at h1
    simp only [hη j (St.fresh_tk hf hj)] at h2
    exact h.tt i j t t' g' hi hj h1 h2
  · simp only [hρ i (St.fresh_bx hf hi).1, hη j (St.fresh_tk hf hj)]
    exact h.bt i j b t hi hn hj
  · simp only [hρ i (St.fresh_bx hf hi).1]; exact h.own i b hi hn
  · simp only [hη j (St.fresh_tk hf hj)] at hg; exact h.ownt j t g' hj hg
  · obtain ⟨e1, e2, e3⟩ := h.ins i hin
    obtain ⟨b, hb⟩ := Option.isSome_iff_exists.1 e3
    have hne := (St.fresh_bx hf hb).1
    exact ⟨(hρ i hne).trans e1, (hη i hne).trans e2, e3⟩
section
variable {c : Ctx} {st : St} {X : Act → World → Prop}
theorem L.openRow (s : Nat) {id n k m : Nat} {ty : TypeId} {xs : List IV} (hs : st.fr.lookup s = some (.bsh id 0 n k)) (hb : st.bx.lookup id = some ⟨ty, .r xs m⟩) (hbn : xs ≠ [] ∨ 0 < m) (hl : n * k ≤ xs.length + m)
    (h : ∀ cap, n ≤ cap → cap ≤ maxLen → L c ⟨(s, .bsl id 0 n cap) :: st.fr, (id, ⟨ty, .r xs (cap * k - xs.length)⟩) :: st.bx, st.tk⟩ X) : L c st X := by
  rintro a w ⟨E, hi⟩
  have hbn' : (⟨ty, .r xs m⟩ : Box).cs ≠ [] := fun e => by
    simp only [Box.cs_r, List.append_eq_nil_iff, List.map_eq_nil_iff, List.replicate_eq_nil_iff] at e
    rcases hbn with h | h
    · exact h e.1
    · omega
  obtain ⟨cap, o, hq, hn, hm, he, hoo⟩ := (hi.slot s _ hs).bsh_inv
  obtain ⟨h0, arr, ha, hla, h1, hr, hη⟩ := hi.heap.box id _ hb hbn'
  simp only [Box.cs_r, List.length_append, List.length_map, List.length_replicate] at hla
  refine h cap (by omega) hm a w ⟨E, hi.defers, hi.size, fun s' v hv => ?_, hi.heap.reBox hb hbn' (fun _ => ⟨h0, arr, ha, ?_, h1, fun i x u hx hu => ?_, hη⟩)⟩
  · by_cases e : s' = s
    · subst e; rw [lookup_cons_eq] at hv; cases hv
      exact .bsl (o := o) (by omega) hm (fun h => by rw [hoo (by omega)]; simp) (by rw [hq]; simp)
    · rw [lookup_cons_ne e] at hv; exact hi.slot s' v hv
  · have := hη k cap he
    simp only [Box.cs_r, List.length_append, List.length_map, List.length_replicate]; omega
  · simp only [Box.cs_r] at hx
    rw [List.getElem?_append] at hx
    split at hx
    · rename_i hlt
      exact hr i x u (by simp only [Box.cs_r]; rw [List.getElem?_append_left hlt]; exact hx) hu
    · simp only [List.getElem?_replicate] at hx
      split at hx
      · cases hx; exact .any
      · cases hx
theorem L.kill (id : Nat) {b : Box} (hb : st.bx.lookup id = some b) (hbn : b.cs ≠ []) (h : L c ⟨st.fr, (id, ⟨b.ty, .l []⟩) :: st.bx, st.tk⟩ X) : L c st X := by
  rintro a w ⟨E, hi⟩
  exact h a w ⟨E, hi.defers, hi.size, hi.slot, hi.heap.reBox hb hbn (fun h => (h rfl).elim)⟩
theorem L.rename (s N : Nat) {id n cap m : Nat} (k : Nat) {ty : TypeId} {xs : List IV} (hs : st.fr.lookup s = some (.bsl id 0 n cap)) (hb : st.bx.lookup id = some ⟨ty, .r xs m⟩) (hf : st.fresh N = true) (hbn : xs ≠ [] ∨ 0 < m) (hcap : cap * k ≤ xs.length + m)
    (h : L c ⟨(s, .bsh N 0 n k) :: st.fr, (N, ⟨ty, .r (xs.take (n * k)) 0⟩) :: (id, ⟨ty, .l []⟩) :: st.bx, st.tk⟩ X) : L c st X := by
  rintro a w ⟨E, hi⟩
  have hbn' : (⟨ty, .r xs m⟩ : Box).cs ≠ [] := fun e => by
    simp only [Box.cs_r, List.append_eq_nil_iff, List.map_eq_nil_iff, List.replicate_eq_nil_iff] at e
    rcases hbn with h | h
    · exact h e.1
    · omega
  have hne : id ≠ N := (St.fresh_bx hf hb).1
  obtain ⟨o, hq, hn, hmx, hoo⟩ := (hi.slot s _ hs).bsl_inv
  obtain ⟨h0, arr, ha, hl, h1, hr, hη⟩ := hi.heap.box id _ hb hbn'
  simp only [Box.cs_r, List.length_append, List.length_map, List.length_replicate] at hl
  obtain ⟨hh, mono⟩ := hi.heap.turn hf (E.ρ id) (capV k cap)
  have hid : (if id = N then E.ρ id else E.ρ id) = E.ρ id := by simp
  have hk := hh.reBox (b' := ⟨ty, .l []⟩) hb hbn' (fun h => (h rfl).elim)
  refine h a w ⟨⟨E.φ, fun i => if i = N then E.ρ id else E.ρ i, fun i => if i = N then capV k cap else E.η i⟩, hi.defers, hi.size, fun s' v hv => ?_, hk.addBox ?_ ?_ ?_ ?_ ?_⟩
  · by_cases e : s' = s
    · subst e; rw [lookup_cons_eq] at hv; cases hv
      exact .bsh (cap := cap) (o := o) (by omega) hmx (by simp) (fun h => by rw [hoo (by omega)]; simp) (by rw [hq]; simp)
    · rw [lookup_cons_ne e] at hv; exact mono v _ (St.fresh_fr hf hv) (hi.slot s' v hv)
  · rw [lookup_cons_ne (Ne.symm hne)]
    cases hq' : st.bx.lookup N with
    | none => rfl
    | some b1 => exact ((St.fresh_bx hf hq').1 rfl).elim
  · refine ⟨by simp only [if_true]; exact h0, arr, by simp only [if_true]; exact ha, ?_, h1, fun i x u hx hu => ?_, fun k' cap' he => ?_⟩
    · simp only [Box.cs_r, List.length_append, List.length_map, List.length_replicate, List.length_take]; omega
    · simp only [Box.cs_r, List.replicate_zero, List.append_nil, List.map_take] at hx
      rw [List.getElem?_take] at hx
      split at hx
      · refine mono x u ?_ (hr i x u ?_ hu)
        · rw [List.getElem?_map, Option.map_eq_some_iff] at hx
          obtain ⟨y, _, rfl⟩ := hx
          rfl
        · simp only [Box.cs_r]
          have := (List.getElem?_eq_some_iff.1 hx).1
          rw [List.getElem?_append_left this]; exact hx
      · cases hx
    · simp only [if_true] at he
      obtain ⟨rfl, rfl⟩ := capV_inj he
      omega
  · intro j b1 hj hjn
    by_cases e : j = id
    · subst e; rw [lookup_cons_eq] at hj; cases hj; exact (hjn rfl).elim
    · rw [lookup_cons_ne e] at hj
      simp only [if_true, if_neg (St.fresh_bx hf hj).1]
      exact fun he => e (hi.heap.bb j id b1 _ hj hb hjn hbn' he)
  · intro j t hj
    simp only [if_true, if_neg (St.fresh_tk hf hj)]
    exact hi.heap.bt id j _ t hb hbn' hj
  · simp only [if_true]; exact hi.heap.own id _ hb hbn'
end
end Go.Abs
/- A logic of abstract states, part 17: memory in own blocks: comparisons with nil. Conditions: each rule's own premises; over any program. -/
namespace Go.Abs
open Go.RowKit (Below)
set_option linter.unusedVariables false
section
variable {P : Program} {c : Ctx} {st : St} {ops : Array Oper} {Q : Exit → Act → World → Prop} {rest : List Oper} {o : Oper}
theorem Yields.eqlNil {x y : Operand} {t t' e : TypeId} {k : Nat} {es : List (List IV)} (ho : o.op = .binOp .eql t x y t') (hx : (st.ev x).sl? = some es) (hy : st.ev y = .nils) (hs : sliceOk P t e k = true) (hne : es ≠ []) : Yields P c st o (aB false) :=
  .im rfl fun E a w hi => by
    obtain ⟨hu, _⟩ := sliceOk_run hs
    have h2 := hi.ev y; rw [hy] at h2
    generalize hqy : a.eval y = uy at h2
    cases h2
    rcases ((hi.ev x).sl hx).sl_inv with ⟨_, rfl⟩ | ⟨_, _, _, _, _, rfl⟩ | ⟨b, o', cap, k', f, hq, _⟩
    · exact (hne rfl).elim
    · exact (hne rfl).elim
    · simp [execOp, ho, hq, hqy, eqGuard, binOp, run_equal_slice_nil w t e _ _ _ hu]
theorem L.eqlNil0 {x y : Operand} {t t' e : TypeId} {k d : Nat} (hg : o.guard = none) (hd : o.dst = some d) (hlt : Nat.ble (d + 1) c.nt = true) (ho : o.op = .binOp .eql t x y t') (hx : (st.ev x).sl? = some []) (hy : st.ev y = .nils) (hs : sliceOk P t e k = true)
    (h : ∀ b, L c ⟨(d, aB b) :: st.fr, st.bx, st.tk⟩ (wpList P ops Q rest)) : L c st (wpList P ops Q (o :: rest)) := by
  rintro a w ⟨E, hi⟩
  obtain ⟨hu, _⟩ := sliceOk_run hs
  have h2 := hi.ev y; rw [hy] at h2
  generalize hqy : a.eval y = uy at h2
  cases h2
  have hr : ∃ b, (execOp a.eval o).run P w = .ok (.value (.bool b)) w := by
    rcases ((hi.ev x).sl hx).sl_inv with ⟨hq, _⟩ | ⟨ad, cap, hq, _, _, _⟩ | ⟨b, o', cap, k', f, hq, _⟩
    · exact ⟨true, by simp [execOp, ho, hq, hqy, eqGuard, binOp, run_equal_slice_nil w t e _ _ _ hu]⟩
    · exact ⟨false, by simp [execOp, ho, hq, hqy, eqGuard, binOp, run_equal_slice_nil w t e _ _ _ hu]⟩
    · exact ⟨false, by simp [execOp, ho, hq, hqy, eqGuard, binOp, run_equal_slice_nil w t e _ _ _ hu]⟩
  obtain ⟨b, hr⟩ := hr
  refine wpList_plain hg (fun K hK => Oper.wp_value hr (hK _ _ ?_))
  rw [hd]
  exact h b _ _ ⟨E, hi.put (Nat.le_of_ble_eq_true hlt) (.iv (.im rfl))⟩
theorem Makes.buildBox {t e : TypeId} {n k id : Nat} {parts : Array (Nat × Operand)} {zs : List Value} {cs : List AV} (ho : o.op = .buildSlice t n parts) (hs : sliceOk P t e k = true)
    (hz : zeroCellsOf P e = some zs) (h1 : zs.all (·.oneCell') = true) (hzl : zs.length = k) (hn : n * k ≤ 16777216) (hnk : 0 < k)
    (hf : fillA (fun i => some (i * k, k)) ((List.range (n * k)).map fun i => constCell (zs.getD (i % k) undef)) (parts.toList.map fun x => (x.1, st.ev x.2)) = some cs)
    (hcl : cs.length = n * k) (hm : AV.ments id cs = false) (hfr : st.fresh id = true) : Makes P c st o (.bsl id 0 n n) ((id, ⟨e, cs⟩) :: st.bx) st.tk := fun E a w hi => by
  obtain ⟨hu, inf, hinf, hsz⟩ := sliceOk_run hs
  have hz0 : ∃ z, inf.zero = some z ∧ z.cells = zs.toArray := by
    unfold zeroCellsOf at hz
    simp only [hinf, Option.bind_some, Option.map_eq_some_iff] at hz
    obtain ⟨z, hz1, hz2⟩ := hz
    exact ⟨z, hz1, by rw [← hz2]⟩
  obtain ⟨z, hz1, hz2⟩ := hz0
  have hget : ∀ i, i < n * k → zs.toArray[i % zs.toArray.size]! = zs.getD (i % k) undef := fun i hi => by
    have : i % k < zs.length := by rw [hzl]; exact Nat.mod_lt _ hnk
    simp [hzl]
    rw [List.getElem?_eq_getElem this]; rfl
  have hinit : ((Array.range (n * k)).map (zs.toArray[· % zs.toArray.size]!)) = ((List.range (n * k)).map fun i => zs.getD (i % k) undef).toArray := by
    apply Array.ext'
    simp only [Array.toList_map, Array.toList_range]
    exact List.map_congr_left (fun i hi => hget i (List.mem_range.1 hi))
  have hone : ∀ i, i < n * k → (zs.getD (i % k) undef).oneCell' = true := fun i hi => by
    have hlt : i % k < zs.length := by rw [hzl]; exact Nat.mod_lt _ hnk
    have : zs.getD (i % k) undef = zs[i % k] := by simp [hlt]
    rw [this]; exact List.all_eq_true.1 h1 _ (List.getElem_mem hlt)
  have hrel : RelL E w ((List.range (n * k)).map fun i => constCell (zs.getD (i % k) undef)) ((List.range (n * k)).map fun i => zs.getD (i % k) undef) := by
    refine ⟨by simp, fun i c u hc hu => ?_⟩
    simp only [List.getElem?_map] at hc hu
    cases hr : (List.range (n * k))[i]? with
    | none => rw [hr] at hc; simp at hc
    | some j =>
      rw [hr] at hc hu
      simp only [Option.map_some, Option.some.injEq] at hc hu
      subst hc; subst hu
      exact constCell_rep E w _ (hone j (List.mem_range.1 (List.mem_of_getElem? hr)))
  obtain ⟨arr, ha, hr, h1'⟩ := fill_rel (E := E) (w := w) _ (parts.map fun (i, x) => (i, a.eval x)).toList _ _ ((List.range (n * k)).map fun i => zs.getD (i % k) undef).toArray (by simpa using hrel)
    (fun u hu => by
      simp only [List.mem_map, List.mem_range] at hu
      obtain ⟨i, hi', rfl⟩ := hu
      exact hone i hi')
    (by simp) (fun n p q => parts_rep hi parts n p q) hf
  refine ⟨.slice (some ⟨w.heap.size, 0, none⟩) n n, _, _, ?_, hi.newBox hfr (ty := e) (us := arr.toList) hr h1' hm, .bsl (o := 0) (Nat.le_refl _) (by have : n ≤ n * k := Nat.le_mul_of_pos_right n hnk; simp only [maxLen]; omega) (fun _ => rfl) (by simp [Env.upd])⟩
  have hbig : ¬ (n * k > 2 ^ 24) := by omega
  have hfill : Instr.fill (fun i => some (i * k, k)) ((Array.range (n * k)).map (zs.toArray[· % zs.toArray.size]!)) (parts.map fun (i, x) => (i, a.eval x)).toList = some arr := by rw [hinit]; exact ha
  have hat : arr.toList.toArray = arr := by simp
  rw [hat]
  by_cases h0 : n * k = 0
  · have : n = 0 := by
      rcases Nat.mul_eq_zero.1 h0 with h | h
      · exact h
      · omega
    subst this
    have e0 : Array.range 0 = #[] := rfl
    have hfill' : Instr.fill (fun i => some (i * k, k)) #[] (parts.map fun (i, x) => (i, a.eval x)).toList = some arr := by simpa [e0] using hfill
    simp only [Array.toList_map] at hfill'
    simp [execOp, ho, Instr.buildSlice, run_underlying hu, sizeOf, typeInfo, hinf, hsz, newRow, e0, hfill']
  · simp only [execOp, ho, Instr.buildSlice, Sem.run_bind, run_underlying hu, sizeOf, typeInfo, zeroValue, run_program, hinf, hsz, hz1, hz2, Result.andThen_ok, Sem.run_pure, hbig, h0, if_false, hfill, newRow, run_newObj, Sem.run_ite]
    rfl
theorem Inv.newRoom {E : Env} {a : Act} {w : World} (hi : Inv c E st a w) {id : Nat} (hf : st.fresh id = true) {ty : TypeId} {cs : List AV} {us : List Value} (v : Value)
    (hl : cs.length ≤ us.length) (hr : ∀ (i : Nat) (x : AV) (u : Value), cs[i]? = some x → us[i]? = some u → RepA E w x u) (h1 : ∀ u ∈ us, u.oneCell' = true) (hm : AV.ments id cs = false) (hv : ∀ k cap, v = capV k cap → cap * k ≤ us.length) :
    Inv c (E.upd id w.heap.size 0 v) ⟨st.fr, (id, ⟨ty, cs⟩) :: st.bx, st.tk⟩ a (w.alloc (.cells us.toArray ty (0, 0))) := by
  obtain ⟨hh, mono⟩ := hi.heap.alloc hf (.cells us.toArray ty (0, 0)) 0 v
  have hid : (E.upd id w.heap.size 0 v).ρ id = w.heap.size := by simp [Env.upd]
  refine ⟨hi.defers, hi.size, fun s v hv => mono v _ (St.fresh_fr hf hv) (hi.slot s v hv), hh.addBox ?_ ?_ ?_ ?_ ?_⟩
  · cases hq : st.bx.lookup id with
    | none => rfl
    | some b => exact ((St.fresh_bx hf hq).1 rfl).elim
  · refine ⟨by rw [hid]; simp [Env.upd], us, by rw [hid]; exact heapNew w _, hl, h1, fun i x u hx hu => mono x u (AV.ments_false hm i x hx) (hr i x u hx hu), fun k cap he => hv k cap (by simpa [Env.upd] using he)⟩
  · intro j b' hj hn
    rw [hid]
    have : (E.upd id w.heap.size 0 v).ρ j = E.ρ j := by simp [Env.upd, (St.fresh_bx hf hj).1]
    rw [this]
    have := box_lt (hi.heap.box j b' hj hn)
    omega
  · intro j t hj
    rw [hid]
    have e : (E.upd id w.heap.size 0 v).η j = E.η j := by simp [Env.upd, St.fresh_tk hf hj]
    rw [e]
    intro hg
    have := ownBlock_lt (hi.heap.tok j t hj) hg
    omega
  · rw [hid]; exact .inl hi.heap.kept.size
theorem flatten_get {α : Type} {k : Nat} (hk0 : 0 < k) : ∀ (news : List (List α)) (p : Nat) (x : α), (∀ e ∈ news, e.length = k) → news.flatten[p]? = some x → ∃ e, news[p / k]? = some e ∧ e[p % k]? = some x
  | [], p, x, _, h => by simp at h
  | e :: r, p, x, hn, h => by
    have he : e.length = k := hn e List.mem_cons_self
    rw [List.flatten_cons, List.getElem?_append] at h
    split at h
    · rename_i hlt
      rw [he] at hlt
      exact ⟨e, by rw [Nat.div_eq_of_lt hlt]; rfl, by rw [Nat.mod_eq_of_lt hlt]; exact h⟩
    · rename_i hge
      rw [he] at hge h
      obtain ⟨e', h1, h2⟩ := flatten_get hk0 r (p - k) x (fun e' h' => hn e' (List.mem_cons_of_mem _ h')) h
      have hp : p = (p - k) + k := by omega
      refine ⟨e', ?_, ?_⟩
      · rw [hp, Nat.add_div_right _ hk0]; simpa using h1
      · rw [hp, Nat.add_mod_right]; simpa using h2
theorem flatten_len {α : Type} {k : Nat} : ∀ (news : List (List α)), (∀ e ∈ news, e.length = k) → news.flatten.length = news.length * k
  | [], _ => by simp
  | e :: r, hn => by
    rw [List.flatten_cons, List.length_append, hn e List.mem_cons_self, flatten_len r (fun e' h' => hn e' (List.mem_cons_of_mem _ h')), List.length_cons, Nat.add_mul, Nat.one_mul, Nat.add_comm]
theorem Makes.cloneB {t t' e : TypeId} {d : TypeDesc} {x y : Operand} {id id' k off bytes : Nat} {i : TypeInfo} {z : Value} {news : List (List IV)} {cs : List AV}
    (ho : o.op = .call { callee := .builtin .append, args := #[x, y], argTypes := #[t, t'] }) (ht : P.underlying t = some (.slice e)) (hi0 : P.info? e = some i) (hik : i.size = k) (hib : i.bytes = bytes) (hiz : i.zero = some z) (hzk : z.cells.size = k) (hz1 : ∀ u ∈ z.cells.toList, u.oneCell' = true)
    (hd : P.underlying t' = some d) (hn : notInt d) (hk0 : 0 < k) (hx : st.ev x = .bsl id off 0 0) (hnk : ∀ e ∈ news, e.length = k) (hy : Adds P c st y k news) (hne : news ≠ [])
    (hm : news.length ≤ maxLen) (hby : news.length * bytes ≤ 140737488355328) (hf : st.fresh id' = true) (hcs : news.flatten.map .iv = cs) (hmo : AV.ments id' cs = false) :
    Makes P c st o (.bsh id' 0 news.length k) ((id', ⟨e, cs⟩) :: st.bx) st.tk := fun E a w hi => by
  subst hik; subst hib
  obtain ⟨us, hsrc, hul, hu1, hur⟩ := hy E a w hi
  have h := hi.ev x; rw [hx] at h
  obtain ⟨o', hq, _⟩ := h.bsl_inv
  have hpos : 0 < news.length := List.length_pos_iff.2 hne
  have hsmall : news.length ≤ 9223372036854775807 := by simp only [maxLen] at hm; omega
  have hexec : (execOp a.eval o).run P w = ((Builtin.append_ #[t, t'] o.type #[a.eval x, a.eval y]).run P w).andThen fun v w' => .ok (.value v) w' := by
    simp [execOp, ho, resolve, invoke, builtin]
  have hrun := app_grow (ty := o.type) ht hd hn hi0 hiz hsrc (base := some ⟨E.ρ id, o', none⟩) (n := 0) (cap := 0) (olds := []) (by simp [Builtin.firstCells, loadCells, loadCellsFrom]) (by omega) (by omega) (growslice_fits (by omega) (by simpa using hby))
  simp only [Nat.zero_add, List.nil_append] at hrun
  have hge : news.length ≤ grownCap w news.length 0 e := grownCap_ge _ _ _ _
  have hcm := grownCap_le_maxLen w news.length 0 e hm
  have hlen : (us ++ (Builtin.zeroCells z.cells (grownCap w news.length 0 e - news.length)).toList).length = grownCap w news.length 0 e * i.size := by
    simp only [List.length_append, hul, Array.length_toList, size_zeroCells, hzk]
    rw [← Nat.add_mul]; congr 1; omega
  have hcl : cs.length = news.length * i.size := by rw [← hcs, List.length_map, flatten_len news hnk]
  have hi' := hi.drew.newRoom hf (ty := e) (cs := cs) (us := us ++ (Builtin.zeroCells z.cells (grownCap w news.length 0 e - news.length)).toList) (capV i.size (grownCap w news.length 0 e))
    (by rw [hlen, hcl]; exact Nat.mul_le_mul_right _ hge)
    (fun p x u hx hu => by
      have hlt := (List.getElem?_eq_some_iff.1 hx).1
      rw [List.getElem?_append_left (by rw [hul, ← hcl]; exact hlt)] at hu
      rw [← hcs, List.getElem?_map, Option.map_eq_some_iff] at hx
      obtain ⟨x', hx', rfl⟩ := hx
      obtain ⟨e', h1, h2⟩ := flatten_get hk0 news p x' hnk hx'
      have hp : p / i.size * i.size + p % i.size = p := by rw [Nat.mul_comm]; exact Nat.div_add_mod p i.size
      exact .iv (RepI.mono (φ := E.φ) (w := w) (w' := w.drew) (fun _ _ _ => rfl) (fun _ => Nat.le_refl _) (hur _ e' _ x' u h1 h2 (by rw [hp]; exact hu))))
    (fun u hu => by
      rcases List.mem_append.1 hu with hu | hu
      · exact hu1 u hu
      · simp only [Builtin.zeroCells, Array.toList_map, Array.toList_range, List.mem_map, List.mem_range] at hu
        obtain ⟨p, _, rfl⟩ := hu
        have hlt : p % z.cells.size < z.cells.size := Nat.mod_lt _ (by rw [hzk]; exact hk0)
        rw [getElem!_pos z.cells _ hlt]
        exact hz1 _ (by simp))
    hmo (fun k' cap' he => by
      obtain ⟨rfl, rfl⟩ := capV_inj he
      exact Nat.le_of_eq hlen.symm)
  refine ⟨_, _, _, ?_, hi', .bsh (cap := grownCap w news.length 0 e) (o := 0) (by omega) hcm (by simp [Env.upd]) (fun _ => by simp) rfl⟩
  rw [hexec, hq, hrun]
  simp [Env.upd]
end
end Go.Abs
/- A logic of abstract states, part 18: copies into own blocks. Conditions: each rule's own premises; over any program. -/
namespace Go.Abs
open Go.RowKit (Below)
set_option linter.unusedVariables false
section
variable {P : Program} {c : Ctx} {st : St} {ops : Array Oper} {Q : Exit → Act → World → Prop} {rest : List Oper} {o : Oper}
def Reads (P : Program) (c : Ctx) (st : St) (y : Operand) (k m : Nat) (new : List AV) : Prop :=
  ∀ (E : Env) (a : Act) (w : World), Inv c E st a w → ∃ us : List Value, (Builtin.lenOf (a.eval y)).run P w = .ok m w ∧ (∀ j, j ≤ m → (Builtin.firstCells k j (a.eval y)).run P w = .ok (us.take (j * k)).toArray w) ∧ RelL E w new us ∧ us.length = m * k ∧ ∀ u ∈ us, u.oneCell' = true
theorem Reads.bsl {y : Operand} {k id off m cap : Nat} {b : Box} {new : List AV} (hy : st.ev y = .bsl id off m cap) (hb : st.bx.lookup id = some b) (hn : (b.cs.drop off).take (m * k) = new) (hl : new.length = m * k) : Reads P c st y k m new := fun E a w hi => by
  have h := hi.ev y; rw [hy] at h
  obtain ⟨o', hq, hn', hm, hoo⟩ := h.bsl_inv
  obtain ⟨arr, rest, _, hr, h1, _, hc⟩ := hi.boxCell hb
  refine ⟨(arr.drop off).take (m * k), by rw [hq]; rfl, fun j hj => ?_, by rw [← hn]; exact (hr.drop off).take _, by rw [((hr.drop off).take (m * k)).1, hn, hl], fun u hu => h1 u (List.mem_of_mem_drop (List.mem_of_mem_take hu))⟩
  have hlen : ((arr.drop off).take (m * k)).length = m * k := by rw [((hr.drop off).take (m * k)).1, hn, hl]
  have hjk : j * k ≤ m * k := Nat.mul_le_mul_right k hj
  have hl2 : (((arr.drop off).take (m * k)).take (j * k)).length = j * k := by rw [List.length_take, hlen]; omega
  rw [hq]
  refine run_firstCells_some w k j _ m cap _ hl2 (fun p v hv => ?_)
  have hp := (List.getElem?_eq_some_iff.1 hv).1
  rw [hl2] at hp
  have hcap : cap ≠ 0 := fun e => by
    have : m = 0 := by omega
    subst this; simp at hjk; omega
  rw [hoo hcap]
  rw [List.getElem?_take, if_pos hp, List.getElem?_take, if_pos (by omega), List.getElem?_drop] at hv
  simp only [Addr.add_none]
  rw [hc _ (List.getElem?_eq_some_iff.1 hv).1]
  exact hv
theorem Makes.copyB {t t' e : TypeId} {x y : Operand} {k n m cnt id off cap : Nat} {b : Box} {new : List AV} (ho : o.op = .call { callee := .builtin .copy, args := #[x, y], argTypes := #[t, t'] }) (hs : sliceOk P t e k = true)
    (hx : st.ev x = .bsl id off n cap) (hb : st.bx.lookup id = some b) (hy : Reads P c st y k m new) (hcnt : Nat.min m n = cnt) (hpos : 0 < cnt) (hk0 : 0 < k) (hle : off + cnt * k ≤ b.cs.length) :
    Makes P c st o (aI cnt) ((id, ⟨b.ty, setA b.cs off (new.take (cnt * k))⟩) :: st.bx) st.tk := fun E a w hi => by
  obtain ⟨hu, inf, hinf, hsz⟩ := sliceOk_run hs
  have h := hi.ev x; rw [hx] at h
  obtain ⟨o', hq, hn', hm, hoo⟩ := h.bsl_inv
  have hcm : cnt ≤ m := by rw [← hcnt]; exact Nat.min_le_left _ _
  have hcn : cnt ≤ n := by rw [← hcnt]; exact Nat.min_le_right _ _
  have hoe := hoo (by omega)
  subst hoe
  have hck : 0 < cnt * k := Nat.mul_pos hpos hk0
  have hbn : b.cs ≠ [] := fun e => by rw [e] at hle; simp at hle; omega
  obtain ⟨us, hlen, hf, hr, hul, h1u⟩ := hy E a w hi
  obtain ⟨arr, rst, ha, hra, h1, h1r, hc⟩ := hi.boxCell hb
  have hfc := hf cnt hcm
  have hrn := hr.take (cnt * k)
  have hmk : cnt * k ≤ m * k := Nat.mul_le_mul_right k hcm
  have hul' : (us.take (cnt * k)).length = cnt * k := by rw [List.length_take, hul]; omega
  have hnl : (new.take (cnt * k)).length = cnt * k := by rw [← hrn.1, hul']
  have h1v : ∀ u ∈ us.take (cnt * k), u.oneCell' = true := fun u hu => h1u u (List.mem_of_mem_take hu)
  have hal : o' + cnt * k ≤ arr.length := by rw [hra.1]; exact hle
  have hrun := run_storeCells_at P (E.ρ id) o' b.ty (us.take (cnt * k)) 0 (arr ++ rst).toArray w (ha hbn) (by rw [hul']; simp; omega) h1v
  have hnew : RelL E w (setA b.cs o' (new.take (cnt * k))) (arr.take o' ++ (us.take (cnt * k) ++ arr.drop (o' + cnt * k))) := by
    unfold setA; rw [hnl]; exact (hra.take o').append (hrn.append (hra.drop (o' + cnt * k)))
  have hrun' : (storeCells ⟨E.ρ id, o', none⟩ (us.take (cnt * k))).run P w = .ok () (w.setRow (E.ρ id) ((arr.take o' ++ (us.take (cnt * k) ++ arr.drop (o' + cnt * k))) ++ rst).toArray) := by
    rw [hrun]; simp only [Nat.add_zero, hul', List.append_assoc]
    rw [List.take_append_of_le_length (by omega), List.drop_append_of_le_length hal]
  refine ⟨.int .i64 cnt, E, _, ?_, hi.setBox hb hbn (ha hbn) h1r (us := arr.take o' ++ (us.take (cnt * k) ++ arr.drop (o' + cnt * k))) ?_ hnew ?_, .iv (.im rfl)⟩
  · simp [execOp, ho, resolve, invoke, builtin, Builtin.copy_, run_underlying hu, hq, hlen, hcnt, sizeOf, typeInfo, hinf, hsz, hfc, hrun', goInt]
  · simp only [List.length_append, List.length_take, List.length_drop, hul]; omega
  · intro u hu
    rcases List.mem_append.1 hu with hu | hu
    · exact h1 u (List.mem_of_mem_take hu)
    · rcases List.mem_append.1 hu with hu | hu
      · exact h1v u hu
      · exact h1 u (List.mem_of_mem_drop hu)
theorem app_room2 {P : Program} {w : World} {t t' ty e : TypeId} {d : TypeDesc} {i : TypeInfo} {x : Value} {m : Nat} {news : List Value} (ht : P.underlying t = some (.slice e)) (hd : P.underlying t' = some d) (hn : notInt d) (hi : P.info? e = some i)
    (hs1 : (Builtin.lenOf x).run P w = .ok m w) (hs2 : (Builtin.firstCells i.size m x).run P w = .ok news.toArray w) {g n cap : Nat} {cur : Array Value} {ty0 : TypeId} (hg : w.heap[g]? = some (.cells cur ty0 (0, 0))) (h1 : ∀ u ∈ news, u.oneCell' = true) (hroom : n + m ≤ cap)
    (hfit : n * i.size + news.length ≤ cur.size) :
    (Builtin.append_ #[t, t'] ty #[.slice (some ⟨g, 0, none⟩) n cap, x]).run P w =
      .ok (.slice (some ⟨g, 0, none⟩) (n + m) cap) (w.setRow g (cur.toList.take (n * i.size) ++ news ++ cur.toList.drop (n * i.size + news.length)).toArray) := by
  have hst := run_storeCells_at P g (n * i.size) ty0 news 0 cur w hg (by simpa using hfit) h1
  simp only [Nat.add_zero] at hst
  rcases hn with ⟨e', rfl⟩ | rfl <;> simp [Builtin.append_, run_underlying ht, run_underlying hd, sizeOf, typeInfo, hi, hs1, hroom, hs2, Addr.add_none, hst]
theorem Makes.roomB {t t' e : TypeId} {d : TypeDesc} {x y : Operand} {k n m id cap : Nat} {i : TypeInfo} {b : Box} {new : List AV} (ho : o.op = .call { callee := .builtin .append, args := #[x, y], argTypes := #[t, t'] }) (ht : P.underlying t = some (.slice e)) (hi0 : P.info? e = some i) (hik : i.size = k)
    (hd : P.underlying t' = some d) (hn : notInt d) (hx : st.ev x = .bsl id 0 n cap) (hb : st.bx.lookup id = some b) (hbn : b.cs ≠ []) (hy : Reads P c st y k m new) (hc0 : 0 < cap) (hroom : n + m ≤ cap) (hle : (n + m) * k ≤ b.cs.length) :
    Makes P c st o (.bsl id 0 (n + m) cap) ((id, ⟨b.ty, setA b.cs (n * k) new⟩) :: st.bx) st.tk := fun E a w hi => by
  subst hik
  have h := hi.ev x; rw [hx] at h
  obtain ⟨o', hq, hn', hm, hoo⟩ := h.bsl_inv
  have hoe : o' = 0 := hoo (by omega)
  rw [hoe] at hq
  obtain ⟨us, hlen, hf, hr, hul, h1u⟩ := hy E a w hi
  obtain ⟨arr, rst, ha, hra, h1, h1r, hc⟩ := hi.boxCell hb
  have hfc := hf m (Nat.le_refl _)
  rw [List.take_of_length_le (by rw [hul]; exact Nat.le_refl _)] at hfc
  have hal : n * i.size + m * i.size ≤ arr.length := by rw [hra.1, ← Nat.add_mul]; exact hle
  have hnl : new.length = m * i.size := by rw [← hr.1, hul]
  have hrun := app_room2 (ty := o.type) ht hd hn hi0 hlen hfc (ha hbn) h1u hroom (n := n) (by rw [hul]; simp; omega)
  have hnew : RelL E w (setA b.cs (n * i.size) new) (arr.take (n * i.size) ++ (us ++ arr.drop (n * i.size + m * i.size))) := by
    unfold setA; rw [hnl]; exact (hra.take _).append (hr.append (hra.drop _))
  have hw : (((arr ++ rst).toArray.toList.take (n * i.size) ++ us ++ (arr ++ rst).toArray.toList.drop (n * i.size + us.length)).toArray) = ((arr.take (n * i.size) ++ (us ++ arr.drop (n * i.size + m * i.size))) ++ rst).toArray := by
    simp only [hul, List.append_assoc]
    rw [List.take_append_of_le_length (by omega), List.drop_append_of_le_length hal]
  rw [hw] at hrun
  refine ⟨_, E, _, ?_, hi.setBox hb hbn (ha hbn) h1r (us := arr.take (n * i.size) ++ (us ++ arr.drop (n * i.size + m * i.size))) ?_ hnew ?_, .bsl (o := 0) hroom hm (fun _ => rfl) rfl⟩
  · simp [execOp, ho, resolve, invoke, builtin, hq, hrun]
  · simp only [List.length_append, List.length_take, List.length_drop, hul]; omega
  · intro u hu
    rcases List.mem_append.1 hu with hu | hu
    · exact h1 u (List.mem_of_mem_take hu)
    · rcases List.mem_append.1 hu with hu | hu
      · exact h1u u hu
      · exact h1 u (List.mem_of_mem_drop hu)
theorem L.clearB {t e : TypeId} {x : Operand} {k n id off cap : Nat} {i : TypeInfo} {z : Value} {b : Box} (hg : o.guard = none) (hd : o.dst = none) (ho : o.op = .call { callee := .builtin .clear, args := #[x], argTypes := #[t] }) (ht : P.underlying t = some (.slice e))
    (hi0 : P.info? e = some i) (hiz : i.zero = some z) (hzk : z.cells.size = k) (hz1 : ∀ u ∈ z.cells.toList, u.oneCell' = true) (hk0 : 0 < k) (hx : st.ev x = .bsl id off n cap) (hb : st.bx.lookup id = some b) (hn0 : 0 < n) (hle : off + n * k ≤ b.cs.length)
    (h : L c ⟨st.fr, (id, ⟨b.ty, setA b.cs off (List.replicate (n * k) .any)⟩) :: st.bx, st.tk⟩ (wpList P ops Q rest)) : L c st (wpList P ops Q (o :: rest)) := by
  rintro a w ⟨E, hi⟩
  have hv := hi.ev x; rw [hx] at hv
  obtain ⟨o', hq, hn', hm, hoo⟩ := hv.bsl_inv
  have hoe : o' = off := hoo (by omega)
  rw [hoe] at hq
  have hnk : 0 < n * k := Nat.mul_pos hn0 hk0
  have hbn : b.cs ≠ [] := fun e => by rw [e] at hle; simp at hle; omega
  obtain ⟨arr, rst, ha, hra, h1, h1r, hc⟩ := hi.boxCell hb
  have hal : off + n * k ≤ arr.length := by rw [hra.1]; exact hle
  have hzl : (Builtin.zeroCells z.cells n).toList.length = n * k := by rw [Array.length_toList, size_zeroCells, hzk]
  have hz2 : ∀ u ∈ (Builtin.zeroCells z.cells n).toList, u.oneCell' = true := fun u hu => by
    simp only [Builtin.zeroCells, Array.toList_map, Array.toList_range, List.mem_map, List.mem_range] at hu
    obtain ⟨p, _, rfl⟩ := hu
    have hlt : p % z.cells.size < z.cells.size := Nat.mod_lt _ (by rw [hzk]; exact hk0)
    rw [getElem!_pos z.cells _ hlt]
    exact hz1 _ (by simp)
  have hrun := run_storeCells_at P (E.ρ id) off b.ty (Builtin.zeroCells z.cells n).toList 0 (arr ++ rst).toArray w (ha hbn) (by rw [hzl]; simp; omega) hz2
  have hrun' : (storeCells ⟨E.ρ id, off, none⟩ (Builtin.zeroCells z.cells n).toList).run P w = .ok () (w.setRow (E.ρ id) ((arr.take off ++ ((Builtin.zeroCells z.cells n).toList ++ arr.drop (off + n * k))) ++ rst).toArray) := by
    rw [hrun]; simp only [Nat.add_zero, hzl, List.append_assoc]
    rw [List.take_append_of_le_length (by omega), List.drop_append_of_le_length hal]
  have hany : RelL E w (List.replicate (n * k) .any) (Builtin.zeroCells z.cells n).toList := ⟨by rw [hzl, List.length_replicate], fun p x u hx hu => by
    simp only [List.getElem?_replicate] at hx
    split at hx
    · cases hx; exact .any
    · cases hx⟩
  have hnew : RelL E w (setA b.cs off (List.replicate (n * k) .any)) (arr.take off ++ ((Builtin.zeroCells z.cells n).toList ++ arr.drop (off + n * k))) := by
    unfold setA; rw [List.length_replicate]; exact (hra.take off).append (hany.append (hra.drop _))
  have hex : (execOp a.eval o).run P w = .ok (.value (.tuple #[])) (w.setRow (E.ρ id) ((arr.take off ++ ((Builtin.zeroCells z.cells n).toList ++ arr.drop (off + n * k))) ++ rst).toArray) := by
    obtain ⟨n', rfl⟩ : ∃ n', n = n' + 1 := ⟨n - 1, by omega⟩
    simp [execOp, ho, resolve, invoke, builtin, Builtin.clear_, run_underlying ht, hq, zeroValue, typeInfo, hi0, hiz, hrun']
  refine wpList_plain hg (fun K hK => Oper.wp_value hex (hK _ _ ?_))
  rw [hd]
  refine h _ _ ⟨E, hi.setBox hb hbn (ha hbn) h1r (us := arr.take off ++ ((Builtin.zeroCells z.cells n).toList ++ arr.drop (off + n * k))) ?_ hnew ?_⟩
  · simp only [List.length_append, List.length_take, List.length_drop, hzl]; omega
  · intro u hu
    rcases List.mem_append.1 hu with hu | hu
    · exact h1 u (List.mem_of_mem_take hu)
    · rcases List.mem_append.1 hu with hu | hu
      · exact hz2 u hu
      · exact h1 u (List.mem_of_mem_drop hu)
theorem growB_core {E : Env} {a : Act} {w : World} (hi : Inv c E st a w) {o' : Nat} {t t' e : TypeId} {d : TypeDesc} {x y : Operand} {id id' k off bytes : Nat} {i : TypeInfo} {z : Value} {n cap : Nat} {b : Box} {news : List (List IV)} {old cs : List AV}
    (ho : o.op = .call { callee := .builtin .append, args := #[x, y], argTypes := #[t, t'] }) (ht : P.underlying t = some (.slice e)) (hi0 : P.info? e = some i) (hik : i.size = k) (hib : i.bytes = bytes) (hiz : i.zero = some z) (hzk : z.cells.size = k) (hz1 : ∀ u ∈ z.cells.toList, u.oneCell' = true)
    (hd : P.underlying t' = some d) (hn : notInt d) (hk0 : 0 < k) (hq : a.eval x = .slice (some ⟨E.ρ id, o', none⟩) n cap) (hoo : cap ≠ 0 → o' = off) (hn1 : n ≤ cap) (hb : st.bx.lookup id = some b) (hold : (b.cs.drop off).take (n * k) = old) (hol : old.length = n * k) (hcap : cap < n + news.length) (hnk : ∀ e ∈ news, e.length = k) (hy : Adds P c st y k news) (hne : news ≠ [])
    (hm : n + news.length ≤ maxLen) (hby : (n + news.length) * bytes ≤ 140737488355328) (hf : st.fresh id' = true) (hcs : news.flatten.map .iv = cs) (hmo' : AV.ments id' old = false) (hmo : AV.ments id' cs = false) :
    ∃ (u : Value) (E' : Env) (w' : World), (execOp a.eval o).run P w = .ok (.value u) w' ∧ Inv c E' ⟨st.fr, (id', ⟨e, old ++ cs⟩) :: st.bx, st.tk⟩ a w' ∧ RepA E' w' (.bsh id' 0 (n + news.length) k) u := by
  subst hik; subst hib
  obtain ⟨us, hsrc, hul, hu1, hur⟩ := hy E a w hi
  have hpos : 0 < news.length := List.length_pos_iff.2 hne
  have hexec : (execOp a.eval o).run P w = ((Builtin.append_ #[t, t'] o.type #[a.eval x, a.eval y]).run P w).andThen fun v w' => .ok (.value v) w' := by
    simp [execOp, ho, resolve, invoke, builtin]
  obtain ⟨arr, rst, _, hra, h1a, _, hc⟩ := hi.boxCell hb
  have hro : RelL E w old ((arr.drop off).take (n * i.size)) := by rw [← hold]; exact (hra.drop off).take _
  generalize hod : (arr.drop off).take (n * i.size) = olds at hro
  have hol2 : olds.length = n * i.size := by rw [hro.1, hol]
  have hfc : (Builtin.firstCells i.size n (.slice (some ⟨E.ρ id, o', none⟩) n cap)).run P w.drew = .ok olds.toArray w.drew := by
    refine run_firstCells_some w.drew i.size n _ n cap olds hol2 (fun p v hv => ?_)
    have hp := (List.getElem?_eq_some_iff.1 hv).1
    rw [hol2] at hp
    have hn0 : n ≠ 0 := fun e => by rw [e] at hp; simp at hp
    rw [hoo (by omega)]
    rw [← hod, List.getElem?_take, if_pos hp, List.getElem?_drop] at hv
    simp only [Addr.add_none]
    show w.cell? _ = _
    rw [hc _ (List.getElem?_eq_some_iff.1 hv).1]; exact hv
  have hrun := app_grow (ty := o.type) ht hd hn hi0 hiz hsrc hfc hcap (by simp only [maxLen] at hm; omega) (growslice_fits hcap hby)
  have hge : n + news.length ≤ grownCap w (n + news.length) cap e := grownCap_ge _ _ _ _
  have hcm := grownCap_le_maxLen w (n + news.length) cap e hm
  have hlen : (olds ++ (us ++ (Builtin.zeroCells z.cells (grownCap w (n + news.length) cap e - (n + news.length))).toList)).length = grownCap w (n + news.length) cap e * i.size := by
    simp only [List.length_append, hul, hol2, Array.length_toList, size_zeroCells, hzk]
    rw [← Nat.add_mul, ← Nat.add_mul]; congr 1; omega
  have hcl : cs.length = news.length * i.size := by rw [← hcs, List.length_map, flatten_len news hnk]
  have hrn : RelL E w cs us := ⟨by rw [hul, hcl], fun p x u hx hu => by
    rw [← hcs, List.getElem?_map, Option.map_eq_some_iff] at hx
    obtain ⟨x', hx', rfl⟩ := hx
    obtain ⟨e', h2, h3⟩ := flatten_get hk0 news p x' hnk hx'
    have hp : p / i.size * i.size + p % i.size = p := by rw [Nat.mul_comm]; exact Nat.div_add_mod p i.size
    exact .iv (hur _ e' _ x' u h2 h3 (by rw [hp]; exact hu))⟩
  have hrel := RelL.keep (E := E) (w := w) (w' := w.drew) (fun _ _ _ => rfl) (hro.append hrn)
  have hi' := hi.drew.newRoom hf (ty := e) (cs := old ++ cs) (us := olds ++ (us ++ (Builtin.zeroCells z.cells (grownCap w (n + news.length) cap e - (n + news.length))).toList)) (capV i.size (grownCap w (n + news.length) cap e))
    (by rw [hlen, List.length_append, hol, hcl, ← Nat.add_mul]; exact Nat.mul_le_mul_right _ hge)
    (fun p x u hx hu => by
      have hlt := (List.getElem?_eq_some_iff.1 hx).1
      rw [← List.append_assoc, List.getElem?_append_left (by rw [hrel.1]; exact hlt)] at hu
      exact hrel.2 p x u hx hu)
    (fun u hu => by
      rcases List.mem_append.1 hu with hu | hu
      · rw [← hod] at hu; exact h1a u (List.mem_of_mem_drop (List.mem_of_mem_take hu))
      rcases List.mem_append.1 hu with hu | hu
      · exact hu1 u hu
      · simp only [Builtin.zeroCells, Array.toList_map, Array.toList_range, List.mem_map, List.mem_range] at hu
        obtain ⟨p, _, rfl⟩ := hu
        have hlt : p % z.cells.size < z.cells.size := Nat.mod_lt _ (by rw [hzk]; exact hk0)
        rw [getElem!_pos z.cells _ hlt]
        exact hz1 _ (by simp))
    (ments_app hmo' hmo) (fun k' cap' he => by
      obtain ⟨rfl, rfl⟩ := capV_inj he
      exact Nat.le_of_eq hlen.symm)
  refine ⟨_, _, _, ?_, hi', .bsh (cap := grownCap w (n + news.length) cap e) (o := 0) (by omega) hcm (by simp [Env.upd]) (fun _ => by simp) rfl⟩
  rw [hexec, hq, hrun]
  simp [Env.upd]
theorem Makes.growB {t t' e : TypeId} {d : TypeDesc} {x y : Operand} {id id' k off bytes : Nat} {i : TypeInfo} {z : Value} {n cap : Nat} {b : Box} {news : List (List IV)} {old cs : List AV}
    (ho : o.op = .call { callee := .builtin .append, args := #[x, y], argTypes := #[t, t'] }) (ht : P.underlying t = some (.slice e)) (hi0 : P.info? e = some i) (hik : i.size = k) (hib : i.bytes = bytes) (hiz : i.zero = some z) (hzk : z.cells.size = k) (hz1 : ∀ u ∈ z.cells.toList, u.oneCell' = true)
    (hd : P.underlying t' = some d) (hn : notInt d) (hk0 : 0 < k) (hx : st.ev x = .bsl id off n cap) (hb : st.bx.lookup id = some b) (hold : (b.cs.drop off).take (n * k) = old) (hol : old.length = n * k) (hcap : cap < n + news.length) (hnk : ∀ e ∈ news, e.length = k) (hy : Adds P c st y k news) (hne : news ≠ [])
    (hm : n + news.length ≤ maxLen) (hby : (n + news.length) * bytes ≤ 140737488355328) (hf : st.fresh id' = true) (hcs : news.flatten.map .iv = cs) (hmo' : AV.ments id' old = false) (hmo : AV.ments id' cs = false) :
    Makes P c st o (.bsh id' 0 (n + news.length) k) ((id', ⟨e, old ++ cs⟩) :: st.bx) st.tk := fun E a w hi => by
  have h := hi.ev x; rw [hx] at h
  obtain ⟨o', hq, hn1, hm1, hoo⟩ := h.bsl_inv
  exact growB_core hi ho ht hi0 hik hib hiz hzk hz1 hd hn hk0 hq hoo hn1 hb hold hol hcap hnk hy hne hm hby hf hcs hmo' hmo
end
end Go.Abs
/- A logic of abstract states, part 19: append of a make into own blocks. Conditions: each rule's own premises; over any program. -/
namespace Go.Abs
open Go.RowKit (Below)
set_option linter.unusedVariables false
section
variable {P : Program} {c : Ctx} {st : St} {ops : Array Oper} {Q : Exit → Act → World → Prop} {rest : List Oper} {o : Oper}
theorem Makes.growZ {t t' e : TypeId} {kd kd' : IntKind} {x y : Operand} {m : Nat} {id id' k off bytes : Nat} {i : TypeInfo} {z : Value} {n cap : Nat} {b : Box} {old : List AV}
    (ho : o.op = .call { callee := .builtin .append, args := #[x, y], argTypes := #[t, t'] }) (ht : P.underlying t = some (.slice e)) (hi0 : P.info? e = some i) (hik : i.size = k) (hib : i.bytes = bytes) (hiz : i.zero = some z) (hzk : z.cells.size = k) (hz1 : ∀ u ∈ z.cells.toList, u.oneCell' = true)
    (hd : P.underlying t' = some (.int kd)) (hk0 : 0 < k) (hx : st.ev x = .bsl id off n cap) (hb : st.bx.lookup id = some b) (hold : (b.cs.drop off).take (n * k) = old) (hol : old.length = n * k) (hcap : cap < n + m) (hy : st.ev y = .iv (.im (.int kd' (m : Int)))) (hpos : 0 < m)
    (hm : n + m ≤ maxLen) (hby : (n + m) * bytes ≤ 140737488355328) (hf : st.fresh id' = true) (hmo' : AV.ments id' old = false) :
    Makes P c st o (.bsh id' 0 (n + m) k) ((id', ⟨e, .l (old ++ List.replicate (m * k) .any)⟩) :: st.bx) st.tk := fun E a w hi => by
  subst hik; subst hib
  have hyq := hi.im hy
  have h := hi.ev x; rw [hx] at h
  obtain ⟨o', hq, hn1, hm1, hoo⟩ := h.bsl_inv
  have hexec : (execOp a.eval o).run P w = ((Builtin.append_ #[t, t'] o.type #[a.eval x, a.eval y]).run P w).andThen fun v w' => .ok (.value v) w' := by
    simp [execOp, ho, resolve, invoke, builtin]
  obtain ⟨arr, rst, _, hra, h1a, _, hc⟩ := hi.boxCell hb
  have hro : RelL E w old ((arr.drop off).take (n * i.size)) := by rw [← hold]; exact (hra.drop off).take _
  generalize hod : (arr.drop off).take (n * i.size) = olds at hro
  have hol2 : olds.length = n * i.size := by rw [hro.1, hol]
  have hfc : (Builtin.firstCells i.size n (.slice (some ⟨E.ρ id, o', none⟩) n cap)).run P w.drew = .ok olds.toArray w.drew := by
    refine run_firstCells_some w.drew i.size n _ n cap olds hol2 (fun p v hv => ?_)
    have hp := (List.getElem?_eq_some_iff.1 hv).1
    rw [hol2] at hp
    have hn0 : n ≠ 0 := fun e => by rw [e] at hp; simp at hp
    rw [hoo (by omega)]
    rw [← hod, List.getElem?_take, if_pos hp, List.getElem?_drop] at hv
    simp only [Addr.add_none]
    show w.cell? _ = _
    rw [hc _ (List.getElem?_eq_some_iff.1 hv).1]; exact hv
  have hrun := Lib.run_append_grow_zeros w t t' o.type e i z kd' kd ht hd hi0 hiz (some ⟨E.ρ id, o', none⟩) n cap olds hfc m hpos hk0 hcap (by simp only [maxLen] at hm; omega) (Nat.le_trans (Nat.le_trans (Nat.mul_le_mul_right _ (Nat.le_add_left m n)) hby) (by omega)) (growslice_fits hcap hby)
  have hge : n + m ≤ grownCap w (n + m) cap e := grownCap_ge _ _ _ _
  have hcm := grownCap_le_maxLen w (n + m) cap e hm
  have hlen : (olds ++ ((Builtin.zeroCells z.cells m).toList ++ (Builtin.zeroCells z.cells (grownCap w (n + m) cap e - (n + m))).toList)).length = grownCap w (n + m) cap e * i.size := by
    simp only [List.length_append, hol2, Array.length_toList, size_zeroCells, hzk]
    rw [← Nat.add_mul, ← Nat.add_mul]; congr 1; omega
  have hul : (Builtin.zeroCells z.cells m).toList.length = m * i.size := by rw [Array.length_toList, size_zeroCells, hzk]
  have hz0 : ∀ (q : Nat) (u : Value), u ∈ (Builtin.zeroCells z.cells q).toList → u.oneCell' = true := fun q u hu => by
    simp only [Builtin.zeroCells, Array.toList_map, Array.toList_range, List.mem_map, List.mem_range] at hu
    obtain ⟨p, _, rfl⟩ := hu
    have hlt : p % z.cells.size < z.cells.size := Nat.mod_lt _ (by rw [hzk]; exact hk0)
    rw [getElem!_pos z.cells _ hlt]
    exact hz1 _ (by simp)
  have hrn : RelL E w (List.replicate (m * i.size) .any) (Builtin.zeroCells z.cells m).toList := ⟨by rw [hul, List.length_replicate], fun p x u hx hu => by
    simp only [List.getElem?_replicate] at hx
    split at hx
    · cases hx; exact .any
    · cases hx⟩
  have hma : AV.ments id' (List.replicate (m * i.size) .any) = false := by
    generalize m * i.size = q
    induction q with
    | zero => rfl
    | succ q ih => simpa [List.replicate_succ, AV.ments, AV.ment] using ih
  have hrel := RelL.keep (E := E) (w := w) (w' := w.drew) (fun _ _ _ => rfl) (hro.append hrn)
  have hi' := hi.drew.newRoom hf (ty := e) (cs := old ++ List.replicate (m * i.size) .any) (us := olds ++ ((Builtin.zeroCells z.cells m).toList ++ (Builtin.zeroCells z.cells (grownCap w (n + m) cap e - (n + m))).toList)) (capV i.size (grownCap w (n + m) cap e))
    (by rw [hlen, List.length_append, hol, List.length_replicate, ← Nat.add_mul]; exact Nat.mul_le_mul_right _ hge)
    (fun p x u hx hu => by
      have hlt := (List.getElem?_eq_some_iff.1 hx).1
      rw [← List.append_assoc, List.getElem?_append_left (by rw [hrel.1]; exact hlt)] at hu
      exact hrel.2 p x u hx hu)
    (fun u hu => by
      rcases List.mem_append.1 hu with hu | hu
      · rw [← hod] at hu; exact h1a u (List.mem_of_mem_drop (List.mem_of_mem_take hu))
      rcases List.mem_append.1 hu with hu | hu
      · exact hz0 _ u hu
      · exact hz0 _ u hu)
    (ments_app hmo' hma) (fun k' cap' he => by
      obtain ⟨rfl, rfl⟩ := capV_inj he
      exact Nat.le_of_eq hlen.symm)
  refine ⟨_, _, _, ?_, hi', .bsh (cap := grownCap w (n + m) cap e) (o := 0) (by omega) hcm (by simp [Env.upd]) (fun _ => by simp) rfl⟩
  rw [hexec, hq, hyq, hrun]
  simp [Env.upd]
  congr 2
  apply Array.ext'
  simp
end
end Go.Abs
/- A logic of abstract states, part 20: two slices in two boxes do not overlap. Conditions: each rule's own premises; over any program. -/
namespace Go.Abs
open Go.RowKit (Below)
set_option linter.unusedVariables false
section
variable {P : Program} {c : Ctx} {st : St} {ops : Array Oper} {Q : Exit → Act → World → Prop} {rest : List Oper} {o : Oper}
theorem Yields.overlapsB {f : FuncId} {x y : Operand} {ats : Array TypeId} {t tr e : TypeId} {k i j offi n cap offj m capj : Nat} {b b' : Box} (ho : o.op = .call { callee := .value (.func f), args := #[x, y], argTypes := ats })
    (hok : extOk P f (Extern.SlicesOverlaps.overlaps #[t, t] #[tr])) (hs : sliceOk P t e k = true) (hx : st.ev x = .bsl i offi n cap) (hy : st.ev y = .bsl j offj m capj) (hij : i ≠ j) (hb : st.bx.lookup i = some b) (hb' : st.bx.lookup j = some b') (hbn : b.cs ≠ []) (hbn' : b'.cs ≠ [])
    (hoff : cap ≠ 0) (hin : offi < b.cs.length) : Yields P c st o (aB false) :=
  .im rfl fun E a w hi => by
    obtain ⟨fn, hf, h1, h2, h3, h4⟩ := hok
    obtain ⟨hu, inf, hinf, hsz⟩ := sliceOk_run hs
    have hv := hi.ev x; rw [hx] at hv
    obtain ⟨ox, hqx, _, _, hox⟩ := hv.bsl_inv
    have hv' := hi.ev y; rw [hy] at hv'
    obtain ⟨oy, hqy, _⟩ := hv'.bsl_inv
    obtain ⟨_, arr, ha, hl, _⟩ := hi.heap.box i b hb hbn
    obtain ⟨_, arr', ha', hl', _⟩ := hi.heap.box j b' hb' hbn'
    have hne : E.ρ i ≠ E.ρ j := fun e => hij (hi.heap.bb i j b b' hb hb' hbn hbn' e)
    have hp' : arr'.length ≠ 0 := fun e => hbn' (List.eq_nil_of_length_eq_zero (by omega))
    have hrun := run_callFunc_extern hf h1 h2 h3 h4 #[.slice (some ⟨E.ρ i, ox, none⟩) n cap, .slice (some ⟨E.ρ j, oy, none⟩) m capj] w
    rw [Lib.run_overlaps_apart w t tr e hu k (fun w => by simp [sizeOf, typeInfo, hinf, hsz]) ⟨E.ρ i, ox, none⟩ ⟨E.ρ j, oy, none⟩ n cap m capj hne b.ty b'.ty arr.length arr'.length
      (by simp [World.shape?, ha]) (by simp [World.shape?, ha']) hp' (by simp [World.frozen?, ha]) (by simp [World.frozen?, ha])] at hrun
    have : (execOp a.eval o).run P w = (callFunc f #[a.eval x, a.eval y]).run P w := by
      simp [execOp, ho, resolve, Deferred.ofValue, Act.eval, invoke]
    rw [this, hqx, hqy, hrun]
    simp [Result.andThen]
end
end Go.Abs
/- A logic of abstract states, part 21: a box of one's own is published. Conditions: each rule's own premises; over any program. -/
namespace Go.Abs
open Go.RowKit (Below)
set_option linter.unusedVariables false
inductive Pub (K n k : Nat) (x : IV) : AV → AV → Prop
  | same {v : AV} : Pub K n k x v v
  | here : Pub K n k x (.bsh K 0 n k) (.iv x)
inductive Pubs (K n k : Nat) (x : IV) : List AV → List AV → Prop
  | nil : Pubs K n k x [] []
  | cons {v v' : AV} {l l' : List AV} (h : Pub K n k x v v') (t : Pubs K n k x l l') : Pubs K n k x (v :: l) (v' :: l')
theorem Pubs.get {K n k : Nat} {x : IV} {l l' : List AV} (h : Pubs K n k x l l') : l'.length = l.length ∧ ∀ (i : Nat) (v : AV), l'[i]? = some v → ∃ v0, l[i]? = some v0 ∧ Pub K n k x v0 v := by
  induction h with
  | nil => exact ⟨rfl, fun i v h => by simp at h⟩
  | cons h _ ih =>
    refine ⟨by simp [ih.1], fun i v hv => ?_⟩
    cases i with
    | zero => simp at hv; subst hv; exact ⟨_, rfl, h⟩
    | succ i => exact ih.2 i v (by simpa using hv)
theorem publish_core (K : Nat) {c : Ctx} {st : St} {n k : Nat} {b : Box} {xs : List IV} (hin : c.ins = []) (hb : st.bx.lookup K = some b) (hx : toIs b.cs = some xs) (hl : b.cs.length = n * k) (hk0 : 0 < k) (hpos : 0 < n) {E : Env} {a : Act} {w : World} (hi : Inv c E st a w) :
    ∃ E2 : Env, Inv c E2 ⟨st.fr, (K, ⟨b.ty, .l []⟩) :: st.bx, st.tk⟩ a w ∧ (∀ (v : AV) (u : Value), RepA E w v u → RepA E2 w v u) ∧ (∀ u, RepA E w (.bsh K 0 n k) u → RepA E2 w (.iv (.sl (chunks k n xs))) u) ∧ E2.ρ = E.ρ ∧ E2.η = E.η ∧ E2.φ (E.ρ K) = n * k := by
  have hnk : 0 < n * k := Nat.mul_pos hpos hk0
  have hbn : b.cs ≠ [] := fun e => by rw [e] at hl; simp at hl; omega
  obtain ⟨h0, arr, ha, hla, h1, hr, hη⟩ := hi.heap.box K b hb hbn
  obtain ⟨hxl, hxg⟩ := toIs_get hx
  have hlt : E.ρ K < w.heap.size := (Array.getElem?_eq_some_iff.1 ha).1
  have hown : c.w0.heap.size ≤ E.ρ K := by
    rcases hi.heap.own K b hb hbn with h | ⟨id, hid, _⟩
    · exact h
    · rw [hin] at hid; cases hid
  have hφ : ∀ g, E.φ g ≤ (if g = E.ρ K then n * k else E.φ g) := fun g => by
    split
    · rename_i e; rw [e, h0]; exact Nat.zero_le _
    · exact Nat.le_refl _
  have hp : ∀ u, RepA E w (.bsh K 0 n k) u → RepI (fun g => if g = E.ρ K then n * k else E.φ g) w (.sl (chunks k n xs)) u := fun u hu => by
    obtain ⟨cap, o, rfl, hn, hm, _, hoo⟩ := hu.bsh_inv
    rw [hoo (by omega)]
    have hidx : ∀ (i : Nat) (e : List IV) (j : Nat) (x : IV), (chunks k n xs)[i]? = some e → e[j]? = some x → i * k + j < n * k ∧ xs[i * k + j]? = some x := fun i e j x h2 h3 => by
      rw [chunks_get k n xs i e h2, List.getElem?_take] at h3
      split at h3
      · rw [List.getElem?_drop] at h3
        have := (List.getElem?_eq_some_iff.1 h3).1
        exact ⟨by omega, h3⟩
      · cases h3
    have hres := RepI.sl (φ := fun g => if g = E.ρ K then n * k else E.φ g) (w := w) (es := chunks k n xs) (b := E.ρ K) (o := 0) (cap := cap) (k := k) (fun i j => arr.getD (i * k + j) undef) (by rw [chunks_length]; omega) hm
      (fun i e he => by
        have hlt' := (List.getElem?_eq_some_iff.1 he).1
        rw [chunks_length] at hlt'
        rw [chunks_get k n xs i e he, List.length_take, List.length_drop, hxl, hl]
        have : (i + 1) * k ≤ n * k := Nat.mul_le_mul_right k hlt'
        rw [Nat.add_mul, Nat.one_mul] at this
        omega)
      (fun i e j x h2 h3 => by simp only [if_true]; have := (hidx i e j x h2 h3).1; omega)
      (fun i e j x h2 h3 => by
        have := (hidx i e j x h2 h3).1
        rw [cell_of_row w _ _ _ _ _ ha, Nat.zero_add]
        have hlt' : i * k + j < arr.length := by omega
        simp [hlt'])
      (fun i e j x h2 h3 => by
        obtain ⟨h4, h5⟩ := hidx i e j x h2 h3
        have hlt' : i * k + j < arr.length := by omega
        have hcs : i * k + j < b.cs.length := by omega
        have hu : arr[i * k + j]? = some (arr.getD (i * k + j) undef) := by simp [List.getElem?_eq_getElem hlt']
        exact ((hr _ _ _ (List.getElem?_eq_getElem hcs) hu).toI (hxg _ _ x (List.getElem?_eq_getElem hcs) h5)).mono (fun _ _ _ => rfl) hφ)
    rw [chunks_length] at hres
    simpa using hres
  have hmap : ∀ (i : Nat) (b1 : Box), List.lookup i ((K, (⟨b.ty, .l []⟩ : Box)) :: st.bx) = some b1 → b1.cs ≠ [] → i ≠ K ∧ st.bx.lookup i = some b1 := fun i b1 h hn => by
    by_cases e : i = K
    · subst e; rw [lookup_cons_eq] at h; cases h; exact (hn rfl).elim
    · rw [lookup_cons_ne e] at h; exact ⟨e, h⟩
  have pub : ∀ {v : AV} {u : Value}, RepA E w v u → RepA ⟨fun g => if g = E.ρ K then n * k else E.φ g, E.ρ, E.η⟩ w v u := fun hv => hv.mono (E' := ⟨fun g => if g = E.ρ K then n * k else E.φ g, E.ρ, E.η⟩) (fun _ _ _ => rfl) hφ (fun _ _ => ⟨rfl, rfl⟩)
  refine ⟨⟨fun g => if g = E.ρ K then n * k else E.φ g, E.ρ, E.η⟩, ⟨hi.defers, hi.size, fun s v hv => pub (hi.slot s v hv), ⟨fun i b1 hi1 hn => ?_, fun i t ht => ?_, fun i j b1 b2 h2 h3 hn hn' he => ?_, hi.heap.tt, fun i j b1 t h2 hn hj => ?_, fun i b1 h2 hn => ?_, hi.heap.ownt, fun g hg => ?_, fun g hg => ?_, fun i hi1 => ?_, hi.heap.kept⟩⟩, fun v u hv => pub hv, fun u hu => .iv (hp u hu), rfl, rfl, by simp⟩
  · obtain ⟨hne, h2⟩ := hmap i b1 hi1 hn
    obtain ⟨g0, arr', ha', hl', h1', hr', hη'⟩ := hi.heap.box i b1 h2 hn
    refine ⟨?_, arr', ha', hl', h1', fun p x u hx hu => pub (hr' p x u hx hu), hη'⟩
    have : E.ρ i ≠ E.ρ K := fun e => hne (hi.heap.bb i K b1 b h2 hb hn hbn e)
    simp only [if_neg this]; exact g0
  · rcases hi.heap.tok i t ht with hn | ⟨g, n', cap, cur, hv, hg, r1, r2, r3, r4⟩
    · exact .inl hn
    · have : g ≠ E.ρ K := fun e => hi.heap.bt K i b t hb hbn ht (by rw [hv, e]; rfl)
      exact .inr ⟨g, n', cap, cur, hv, hg, r1, r2, r3, by simp only [if_neg this]; exact r4⟩
  · exact hi.heap.bb i j b1 b2 (hmap i b1 h2 hn).2 (hmap j b2 h3 hn').2 hn hn' he
  · exact hi.heap.bt i j b1 t (hmap i b1 h2 hn).2 hn hj
  · exact hi.heap.own i b1 (hmap i b1 h2 hn).2 hn
  · simp only; rw [if_neg (by omega)]; exact hi.heap.new g hg
  · simp only; rw [if_neg (by omega)]; exact hi.heap.old g hg
  · rw [hin] at hi1; cases hi1
theorem L.publishB (K j : Nat) {c : Ctx} {st : St} {X : Act → World → Prop} {n k : Nat} {b bj : Box} {xs : List IV} {cs : List AV} (hin : c.ins = []) (hb : st.bx.lookup K = some b) (hx : toIs b.cs = some xs) (hl : b.cs.length = n * k) (hk0 : 0 < k) (hpos : 0 < n)
    (hj : st.bx.lookup j = some bj) (hjn : bj.cs ≠ []) (hjk : (j == K) = false) (hp : Pubs K n k (.sl (chunks k n xs)) bj.cs cs) (h : L c ⟨st.fr, (j, ⟨bj.ty, .l cs⟩) :: (K, ⟨b.ty, .l []⟩) :: st.bx, st.tk⟩ X) : L c st X := by
  rintro a w ⟨E, hi⟩
  obtain ⟨E2, hi2, hm, hpub, hρ, _⟩ := publish_core K hin hb hx hl hk0 hpos hi
  have hne : j ≠ K := by simpa using hjk
  have hj2 : List.lookup j ((K, (⟨b.ty, .l []⟩ : Box)) :: st.bx) = some bj := by rw [lookup_cons_ne hne]; exact hj
  refine h a w ⟨E2, hi2.defers, hi2.size, hi2.slot, HInv.reBox hi2.heap hj2 hjn (fun hn => ?_)⟩
  obtain ⟨_, arr0, ha0, hl0, _, hr0, _⟩ := hi.heap.box j bj hj hjn
  obtain ⟨g0, arr, ha, hla, h1, hr, hη⟩ := hi2.heap.box j bj hj2 hjn
  have harr : arr = arr0 := by
    rw [hρ] at ha; rw [ha] at ha0
    simp only [Option.some.injEq, Obj.cells.injEq] at ha0
    exact congrArg Array.toList ha0.1
  subst harr
  obtain ⟨e1, e2⟩ := hp.get
  refine ⟨g0, arr, ha, by simpa [e1] using hla, h1, fun i x u hx hu => ?_, hη⟩
  simp only [Box.cs_l] at hx
  obtain ⟨v0, hv0, hp0⟩ := e2 i x hx
  cases hp0 with
  | same => exact hr i x u hv0 hu
  | here =>
    exact hpub u (hr0 i _ u hv0 hu)
end Go.Abs
/- A logic of abstract states, part 22: a contract under other names of its objects. Conditions: the renaming has an inverse; over any program. -/
namespace Go.Abs
open Go.RowKit (Below)
set_option linter.unusedVariables false
mutual
def AV.ren (π : Nat → Nat) : AV → AV
  | .row i es => .row (π i) es
  | .ptr i o => .ptr (π i) o
  | .bsl i o n c => .bsl (π i) o n c
  | .bsh i o n k => .bsh (π i) o n k
  | .agg cs => .agg (AV.rens π cs)
  | .tup cs => .tup (AV.rens π cs)
  | .fn f cs => .fn f (AV.rens π cs)
  | .opt b v => .opt b (AV.ren π v)
  | .any => .any
  | .iv x => .iv x
  | .nils => .nils
  | .emp => .emp
  | .el cs => .el cs
def AV.rens (π : Nat → Nat) : List AV → List AV
  | [] => []
  | c :: cs => AV.ren π c :: AV.rens π cs
end
theorem AV.rens_map {π : Nat → Nat} : ∀ cs : List AV, AV.rens π cs = cs.map (AV.ren π)
  | [] => by simp [AV.rens]
  | c :: cs => by simp [AV.rens, AV.rens_map cs]
def Env.of (π : Nat → Nat) (E : Env) : Env := ⟨E.φ, fun i => E.ρ (π i), fun i => E.η (π i)⟩
mutual
theorem RepA.unren {π : Nat → Nat} {E : Env} {w : World} : ∀ (v : AV) {u : Value}, RepA E w (v.ren π) u → RepA (E.of π) w v u
  | .any, u, _ => .any
  | .iv x, u, h => by simp only [AV.ren] at h; cases h with | iv h => exact .iv h
  | .nils, u, h => by simp only [AV.ren] at h; cases h; exact .nils
  | .emp, u, h => by simp only [AV.ren] at h; cases h with | emp hu => exact .emp hu
  | .el cs, u, h => by simp only [AV.ren] at h; cases h with | el f hc hr => exact .el f hc hr
  | .row i es, u, h => by simp only [AV.ren] at h; cases h with | row hu h => exact .row hu h
  | .ptr i o, u, h => by simp only [AV.ren] at h; cases h with | ptr hu => exact .ptr hu
  | .bsl i o n c, u, h => by simp only [AV.ren] at h; cases h with | bsl hn hm ho hu => exact .bsl hn hm ho hu
  | .bsh i o n k, u, h => by simp only [AV.ren] at h; cases h with | bsh hn hm he ho hu => exact .bsh hn hm he ho hu
  | .agg cs, u, h => by
    simp only [AV.ren] at h
    cases h with
    | agg hl h1 h => obtain ⟨e1, e2⟩ := RepA.unrens cs hl h; exact .agg e1 h1 e2
  | .tup cs, u, h => by
    simp only [AV.ren] at h
    cases h with
    | tup hl h => obtain ⟨e1, e2⟩ := RepA.unrens cs hl h; exact .tup e1 e2
  | .fn f cs, u, h => by
    simp only [AV.ren] at h
    cases h with
    | fn hl h => obtain ⟨e1, e2⟩ := RepA.unrens cs hl h; exact .fn e1 e2
  | .opt b v, u, h => by
    simp only [AV.ren] at h
    cases h with
    | optT h => exact .optT (RepA.unren v h)
    | optF => exact .optF
theorem RepA.unrens {π : Nat → Nat} {E : Env} {w : World} : ∀ (cs : List AV) {us : List Value}, us.length = (AV.rens π cs).length → (∀ (i : Nat) (c : AV) (u : Value), (AV.rens π cs)[i]? = some c → us[i]? = some u → RepA E w c u) →
    us.length = cs.length ∧ ∀ (i : Nat) (c : AV) (u : Value), cs[i]? = some c → us[i]? = some u → RepA (E.of π) w c u
  | [], us, hl, h => ⟨by simpa [AV.rens] using hl, fun i c u hc => by simp at hc⟩
  | c :: cs, [], hl, h => by simp [AV.rens] at hl
  | c :: cs, u :: us, hl, h => by
    obtain ⟨e1, e2⟩ := RepA.unrens cs (us := us) (by simpa [AV.rens] using hl) (fun i c u hc hu => h (i + 1) c u (by simpa [AV.rens] using hc) (by simpa using hu))
    refine ⟨by simp [e1], fun i c' u' hc hu => ?_⟩
    cases i with
    | zero => simp at hc hu; subst hc; subst hu; exact RepA.unren c (h 0 _ u (by simp [AV.rens]) rfl)
    | succ i => exact e2 i c' u' (by simpa using hc) (by simpa using hu)
end
mutual
theorem RepA.doren {π : Nat → Nat} {E : Env} {w : World} : ∀ (v : AV) {u : Value}, RepA (E.of π) w v u → RepA E w (v.ren π) u
  | .any, u, _ => .any
  | .iv x, u, h => by simp only [AV.ren]; cases h with | iv h => exact .iv h
  | .nils, u, h => by simp only [AV.ren]; cases h; exact .nils
  | .emp, u, h => by simp only [AV.ren]; cases h with | emp hu => exact .emp hu
  | .el cs, u, h => by simp only [AV.ren]; cases h with | el f hc hr => exact .el f hc hr
  | .row i es, u, h => by simp only [AV.ren]; cases h with | row hu h => exact .row hu h
  | .ptr i o, u, h => by simp only [AV.ren]; cases h with | ptr hu => exact .ptr hu
  | .bsl i o n c, u, h => by simp only [AV.ren]; cases h with | bsl hn hm ho hu => exact .bsl hn hm ho hu
  | .bsh i o n k, u, h => by simp only [AV.ren]; cases h with | bsh hn hm he ho hu => exact .bsh hn hm he ho hu
  | .agg cs, u, h => by
    simp only [AV.ren]
    cases h with
    | agg hl h1 h => obtain ⟨e1, e2⟩ := RepA.dorens cs hl h; exact .agg e1 h1 e2
  | .tup cs, u, h => by
    simp only [AV.ren]
    cases h with
    | tup hl h => obtain ⟨e1, e2⟩ := RepA.dorens cs hl h; exact .tup e1 e2
  | .fn f cs, u, h => by
    simp only [AV.ren]
    cases h with
    | fn hl h => obtain ⟨e1, e2⟩ := RepA.dorens cs hl h; exact .fn e1 e2
  | .opt b v, u, h => by
    simp only [AV.ren]
    cases h with
    | optT h => exact .optT (RepA.doren v h)
    | optF => exact .optF
theorem RepA.dorens {π : Nat → Nat} {E : Env} {w : World} : ∀ (cs : List AV) {us : List Value}, us.length = cs.length → (∀ (i : Nat) (c : AV) (u : Value), cs[i]? = some c → us[i]? = some u → RepA (E.of π) w c u) →
    us.length = (AV.rens π cs).length ∧ ∀ (i : Nat) (c : AV) (u : Value), (AV.rens π cs)[i]? = some c → us[i]? = some u → RepA E w c u
  | [], us, hl, h => ⟨by simpa [AV.rens] using hl, fun i c u hc => by simp [AV.rens] at hc⟩
  | c :: cs, [], hl, h => by simp at hl
  | c :: cs, u :: us, hl, h => by
    obtain ⟨e1, e2⟩ := RepA.dorens cs (us := us) (by simpa using hl) (fun i c u hc hu => h (i + 1) c u (by simpa using hc) (by simpa using hu))
    refine ⟨by simp [AV.rens, e1], fun i c' u' hc hu => ?_⟩
    cases i with
    | zero => simp [AV.rens] at hc hu; subst hc; subst hu; exact RepA.doren c (h 0 _ u rfl rfl)
    | succ i => exact e2 i c' u' (by simpa [AV.rens] using hc) (by simpa using hu)
end
def Box.ren (π : Nat → Nat) (b : Box) : Box :=
  match b.c with
  | .l cs => ⟨b.ty, .l (AV.rens π cs)⟩
  | .r xs m => ⟨b.ty, .r xs m⟩
theorem Box.ren_ty {π : Nat → Nat} (b : Box) : (b.ren π).ty = b.ty := by obtain ⟨ty, c⟩ := b; cases c <;> rfl
theorem rens_iv {π : Nat → Nat} : ∀ xs : List IV, AV.rens π (xs.map .iv) = xs.map .iv
  | [] => by simp [AV.rens]
  | x :: xs => by simp [AV.rens, AV.ren, rens_iv xs]
theorem rens_any {π : Nat → Nat} : ∀ m : Nat, AV.rens π (List.replicate m .any) = List.replicate m .any
  | 0 => by simp [AV.rens]
  | m + 1 => by simp [List.replicate_succ, AV.rens, AV.ren, rens_any m]
theorem rens_app {π : Nat → Nat} (l m : List AV) : AV.rens π (l ++ m) = AV.rens π l ++ AV.rens π m := by simp [AV.rens_map]
theorem Box.ren_cs {π : Nat → Nat} (b : Box) : (b.ren π).cs = AV.rens π b.cs := by
  obtain ⟨ty, c⟩ := b
  cases c with
  | l cs => rfl
  | r xs m => simp only [Box.ren, Box.cs_r, rens_app, rens_iv, rens_any]
theorem Box.ren_ne {π : Nat → Nat} {b : Box} : (b.ren π).cs ≠ [] ↔ b.cs ≠ [] := by
  rw [Box.ren_cs, AV.rens_map]; simp
theorem BoxOk.unren {π : Nat → Nat} {E : Env} {w : World} {id : Nat} {b : Box} (h : BoxOk E w (π id) (b.ren π)) : BoxOk (E.of π) w id b := by
  obtain ⟨h0, arr, ha, hl, h1, hr, hη⟩ := h
  rw [Box.ren_ty] at ha
  rw [Box.ren_cs] at hl hr
  refine ⟨h0, arr, ha, by simpa [AV.rens_map] using hl, h1, fun i c u hc hu => ?_, hη⟩
  exact RepA.unren c (hr i _ u (by rw [AV.rens_map, List.getElem?_map, hc]; rfl) hu)
theorem BoxOk.doren {π : Nat → Nat} {E : Env} {w : World} {id : Nat} {b : Box} (h : BoxOk (E.of π) w id b) : BoxOk E w (π id) (b.ren π) := by
  obtain ⟨h0, arr, ha, hl, h1, hr, hη⟩ := h
  refine ⟨h0, arr, by rw [Box.ren_ty]; exact ha, by rw [Box.ren_cs]; simpa [AV.rens_map] using hl, h1, fun i c u hc hu => ?_, hη⟩
  rw [Box.ren_cs, AV.rens_map, List.getElem?_map, Option.map_eq_some_iff] at hc
  obtain ⟨c0, hc0, rfl⟩ := hc
  exact RepA.doren c0 (hr i c0 u hc0 hu)
def renB (π : Nat → Nat) (bx : List (Nat × Box)) : List (Nat × Box) := bx.map (fun p => (π p.1, p.2.ren π))
def renT (π : Nat → Nat) (tk : List (Nat × Tok)) : List (Nat × Tok) := tk.map (fun p => (π p.1, p.2))
theorem lookup_ren {β γ : Type} {π σ : Nat → Nat} (hσ : ∀ n, σ (π n) = n) (f : β → γ) : ∀ (l : List (Nat × β)) (i : Nat), (l.map (fun p => (π p.1, f p.2))).lookup (π i) = (l.lookup i).map f
  | [], i => rfl
  | (t, v) :: l, i => by
    by_cases e : i = t
    · subst e; simp [List.lookup]
    · have e1 : (i == t) = false := by simpa using e
      have e2 : (π i == π t) = false := by
        have : π i ≠ π t := fun h => e (by rw [← hσ i, h, hσ])
        simpa using this
      simpa [List.lookup, e1, e2] using lookup_ren hσ f l i
theorem lookup_ren' {β γ : Type} {π σ : Nat → Nat} (hσ : ∀ n, σ (π n) = n) (hπ : ∀ n, π (σ n) = n) (f : β → γ) (l : List (Nat × β)) (i : Nat) : (l.map (fun p => (π p.1, f p.2))).lookup i = (l.lookup (σ i)).map f := by
  rw [← hπ i, lookup_ren hσ f l (σ i), hσ]
theorem CallG.ren {gs : Globs} {P : Program} {f : FuncId} {args : List AV} {bx bx' : List (Nat × Box)} {tk' : List (Nat × Tok)} {res : AV} (π σ : Nat → Nat) (hσ : ∀ n, σ (π n) = n) (hπ : ∀ n, π (σ n) = n) (h : CallG gs P f args bx bx' tk' res) :
    CallG gs P f (AV.rens π args) (renB π bx) (renB π bx') (renT π tk') (res.ren π) := by
  intro E w us hrel hh hG
  have hπσ : ∀ i, π i = i ∨ True := fun _ => .inr trivial
  have hlk : ∀ (i : Nat) (b : Box), bx.lookup i = some b → (renB π bx).lookup (π i) = some (b.ren π) := fun i b hb => by
    unfold renB; rw [lookup_ren hσ (Box.ren π), hb]; rfl
  have hlu : ∀ (i : Nat) (b : Box), (renB π bx').lookup i = some b → ∃ b0, bx'.lookup (σ i) = some b0 ∧ b0.ren π = b := fun i b hb => by
    unfold renB at hb; rw [lookup_ren' hσ hπ (Box.ren π), Option.map_eq_some_iff] at hb; exact hb
  have hlt : ∀ (i : Nat) (t : Tok), (renT π tk').lookup i = some t → tk'.lookup (σ i) = some t := fun i t ht => by
    unfold renT at ht
    have := lookup_ren' hσ hπ (fun t : Tok => t) tk' i
    rw [this] at ht; simpa using ht
  have hargs : RelL (E.of π) w args us := by
    obtain ⟨e1, e2⟩ := RepA.unrens args hrel.1 hrel.2
    exact ⟨e1, e2⟩
  have hM : ∀ g, Ctx.M ⟨0, w, E.of π, keys bx⟩ g ↔ Ctx.M ⟨0, w, E, keys (renB π bx)⟩ g := fun g => by
    constructor
    · rintro ⟨id, hid, e1, e2⟩
      refine ⟨π id, ?_, e1, e2⟩
      simp only [keys, renB, List.map_map, List.mem_map] at hid ⊢
      obtain ⟨p, hp, rfl⟩ := hid
      exact ⟨p, hp, rfl⟩
    · rintro ⟨id, hid, e1, e2⟩
      simp only [keys, renB, List.map_map, List.mem_map] at hid
      obtain ⟨p, hp, rfl⟩ := hid
      exact ⟨p.1, List.mem_map.2 ⟨p, hp, rfl⟩, e1, e2⟩
  have hin : HInv ⟨0, w, E.of π, keys bx⟩ (E.of π) bx [] w := by
    refine ⟨fun i b hb hn => ?_, fun i t ht => by simp at ht, fun i j b b' hi hj hn hn' he => ?_, fun i j t t' g hi => by simp at hi, fun i j b t hi hn hj => by simp at hj, fun i b hb hn => ?_, fun j t g hj => by simp at hj, hh.new, fun _ _ => rfl, fun i hi => ⟨rfl, rfl, ?_⟩, KeptBut.refl _ _⟩
    · exact (hh.box (π i) _ (hlk i b hb) (Box.ren_ne.2 hn)).unren
    · have := hh.bb (π i) (π j) _ _ (hlk i b hi) (hlk j b' hj) (Box.ren_ne.2 hn) (Box.ren_ne.2 hn') he
      rw [← hσ i, this, hσ]
    · rcases hh.own (π i) _ (hlk i b hb) (Box.ren_ne.2 hn) with h | h
      · exact .inl h
      · exact .inr ((hM _).2 h)
    · obtain ⟨b, hb⟩ := mem_keys hi; show (List.lookup i bx).isSome = true; rw [hb]; rfl
  refine (h (E.of π) w us hargs hin hG).mono ?_
  rintro e w' ⟨u, E1, he, hu, ho⟩
  have hE : (Env.of π ⟨E1.φ, fun i => E1.ρ (σ i), fun i => E1.η (σ i)⟩) = E1 := by simp [Env.of, hσ]
  have hEof : ∀ i, (⟨E1.φ, fun i => E1.ρ (σ i), fun i => E1.η (σ i)⟩ : Env).ρ (π i) = E1.ρ i := fun i => by simp [hσ]
  refine ⟨u, ⟨E1.φ, fun i => E1.ρ (σ i), fun i => E1.η (σ i)⟩, he, RepA.doren res (by rw [hE]; exact hu), ?_⟩
  refine ⟨fun i b hb hn => ?_, fun i t ht => ?_, fun i j b b' hi hj hn hn' he => ?_, fun i j t t' g hi hj h1 h2 => ?_, fun i j b t hi hn hj => ?_, fun i b hb hn => ?_, fun j t g hj hg => ?_, ho.new, fun b hb => ho.old b hb, fun i hi => ?_, ?_⟩
  · obtain ⟨b0, h0, rfl⟩ := hlu i b hb
    have := BoxOk.doren (π := π) (E := ⟨E1.φ, fun i => E1.ρ (σ i), fun i => E1.η (σ i)⟩) (by rw [hE]; exact ho.box (σ i) b0 h0 (Box.ren_ne.1 hn))
    rw [hπ] at this; exact this
  · exact ho.tok (σ i) t (hlt i t ht)
  · obtain ⟨b0, h0, rfl⟩ := hlu i b hi
    obtain ⟨b1, h1, rfl⟩ := hlu j b' hj
    have := ho.bb (σ i) (σ j) b0 b1 h0 h1 (Box.ren_ne.1 hn) (Box.ren_ne.1 hn') he
    rw [← hπ i, this, hπ]
  · have := ho.tt (σ i) (σ j) t t' g (hlt i t hi) (hlt j t' hj) h1 h2
    rw [← hπ i, this, hπ]
  · obtain ⟨b0, h0, rfl⟩ := hlu i b hi
    exact ho.bt (σ i) (σ j) b0 t h0 (Box.ren_ne.1 hn) (hlt j t hj)
  · obtain ⟨b0, h0, rfl⟩ := hlu i b hb
    rcases ho.own (σ i) b0 h0 (Box.ren_ne.1 hn) with h | h
    · exact .inl h
    · exact .inr ((hM _).1 h)
  · exact ho.ownt (σ j) t g (hlt j t hj) hg
  · simp only [keys, renB, List.map_map, List.mem_map] at hi
    obtain ⟨p, hp, rfl⟩ := hi
    obtain ⟨e1, e2, e3⟩ := ho.ins p.1 (List.mem_map.2 ⟨p, hp, rfl⟩)
    refine ⟨by simpa [hσ, Env.of] using e1, by simpa [hσ, Env.of] using e2, ?_⟩
    obtain ⟨b, hb⟩ := Option.isSome_iff_exists.1 e3
    show (List.lookup (π p.1) (renB π bx')).isSome = true
    unfold renB; rw [lookup_ren hσ (Box.ren π), hb]; rfl
  · exact ⟨ho.kept.os, ho.kept.tape, ho.kept.output, ho.kept.size, fun k hk hm => ho.kept.block k hk (fun hM' => hm ((hM k).1 hM'))⟩
theorem CallA.ren {P : Program} {f : FuncId} {args : List AV} {bx bx' : List (Nat × Box)} {tk' : List (Nat × Tok)} {res : AV} (π σ : Nat → Nat) (hσ : ∀ n, σ (π n) = n) (hπ : ∀ n, π (σ n) = n) (h : CallA P f args bx bx' tk' res) :
    CallA P f (AV.rens π args) (renB π bx) (renB π bx') (renT π tk') (res.ren π) := (CallG.ren π σ hσ hπ h.toG).toA
def sw (a b n : Nat) : Nat := if n = a then b else if n = b then a else n
theorem sw_sw (a b n : Nat) : sw a b (sw a b n) = n := by
  unfold sw; split <;> split <;> (try split) <;> omega
def sws : List (Nat × Nat) → Nat → Nat
  | [], n => n
  | (a, b) :: r, n => sw (sws r a) b (sws r n)
def swsI : List (Nat × Nat) → Nat → Nat
  | [], n => n
  | (a, b) :: r, n => swsI r (sw (sws r a) b n)
theorem swsI_sws : ∀ (l : List (Nat × Nat)) (n : Nat), swsI l (sws l n) = n
  | [], n => rfl
  | (a, b) :: r, n => by simp only [sws, swsI, sw_sw, swsI_sws r n]
theorem sws_swsI : ∀ (l : List (Nat × Nat)) (n : Nat), sws l (swsI l n) = n
  | [], n => rfl
  | (a, b) :: r, n => by simp only [sws, swsI, sws_swsI r, sw_sw]
theorem sws_hd (a b : Nat) (r : List (Nat × Nat)) : sws ((a, b) :: r) a = b := by simp [sws, sw]
theorem sws_tl {a b n m : Nat} {r : List (Nat × Nat)} (hn : n ≠ a) (h : sws r n = m) (hb : m ≠ b) : sws ((a, b) :: r) n = m := by
  have : sws r n ≠ sws r a := fun e => hn (by rw [← swsI_sws r n, e, swsI_sws])
  rw [h] at this
  simp only [sws, sw, h]
  rw [if_neg this, if_neg hb]
theorem CallA.sws {P : Program} {f : FuncId} {args args2 : List AV} {bx bx' bx2 bx2' : List (Nat × Box)} {tk' tk2' : List (Nat × Tok)} {res res2 : AV} (l : List (Nat × Nat)) (h : CallA P f args bx bx' tk' res)
    (h1 : AV.rens (Abs.sws l) args = args2) (h2 : renB (Abs.sws l) bx = bx2) (h3 : renB (Abs.sws l) bx' = bx2') (h4 : renT (Abs.sws l) tk' = tk2') (h5 : res.ren (Abs.sws l) = res2) : CallA P f args2 bx2 bx2' tk2' res2 := by
  subst h1; subst h2; subst h3; subst h4; subst h5
  exact h.ren _ _ (swsI_sws l) (sws_swsI l)
theorem CallG.sws {gs : Globs} {P : Program} {f : FuncId} {args args2 : List AV} {bx bx' bx2 bx2' : List (Nat × Box)} {tk' tk2' : List (Nat × Tok)} {res res2 : AV} (l : List (Nat × Nat)) (h : CallG gs P f args bx bx' tk' res)
    (h1 : AV.rens (Abs.sws l) args = args2) (h2 : renB (Abs.sws l) bx = bx2) (h3 : renB (Abs.sws l) bx' = bx2') (h4 : renT (Abs.sws l) tk' = tk2') (h5 : res.ren (Abs.sws l) = res2) : CallG gs P f args2 bx2 bx2' tk2' res2 := by
  subst h1; subst h2; subst h3; subst h4; subst h5
  exact h.ren _ _ (swsI_sws l) (sws_swsI l)
mutual
theorem AV.ren_id {π : Nat → Nat} : ∀ v : AV, AV.mentIn [] v = true → v.ren π = v
  | .any, _ => rfl
  | .iv _, _ => rfl
  | .nils, _ => rfl
  | .emp, _ => rfl
  | .el _, _ => rfl
  | .row i _, h => by simp [AV.mentIn] at h
  | .ptr i _, h => by simp [AV.mentIn] at h
  | .bsl i _ _ _, h => by simp [AV.mentIn] at h
  | .bsh i _ _ _, h => by simp [AV.mentIn] at h
  | .agg cs, h => by rw [AV.ren, AV.rens_id cs (by simpa [AV.mentIn] using h)]
  | .tup cs, h => by rw [AV.ren, AV.rens_id cs (by simpa [AV.mentIn] using h)]
  | .fn _ cs, h => by rw [AV.ren, AV.rens_id cs (by simpa [AV.mentIn] using h)]
  | .opt _ v, h => by rw [AV.ren, AV.ren_id v (by simpa [AV.mentIn] using h)]
theorem AV.rens_id {π : Nat → Nat} : ∀ vs : List AV, AV.mentsIn [] vs = true → AV.rens π vs = vs
  | [], _ => rfl
  | v :: vs, h => by
    simp only [AV.mentsIn, Bool.and_eq_true] at h
    rw [AV.rens, AV.ren_id v h.1, AV.rens_id vs h.2]
end
end Go.Abs
