/- A logic of abstract states, part 10: the rules for calls, entering, returning, branches, loops. Conditions: each rule's own premises; over any program. -/
import Derived.Test.YtanlhpdjgelehaaDoorA9
namespace Go.Abs
open Go.RowKit (Below)
set_option linter.unusedVariables false

def callOk (P : Program) (f : FuncId) : Bool :=
  match P.funcs[f]? with
  | some fn => fn.body.isSome && !(fn.name == "runtime.NumGoroutine")
  | none => false

theorem run_callOk {P : Program} {f : FuncId} (h : callOk P f = true) (args : Array Value) (w : World) : (callFunc f args).run P w = .ok (.enter f args) w := by
  unfold callOk at h
  split at h
  · rename_i fn hf
    simp only [Bool.and_eq_true, Bool.not_eq_true', beq_eq_false_iff_ne] at h
    obtain ⟨h1, h2⟩ := h
    have h3 : ¬ fn.body = none := fun e => by rw [e] at h1; cases h1
    simp [callFunc, hf, h2, h3]
  · cases h

theorem Subs.of_pub {l l' : List AV} (h : AV.pub.pubs l = l') : Subs l l' := h ▸ Subs.pubs l
theorem RelL.sub {E : Env} {w : World} {l l' : List AV} {us : List Value} (h : RelL E w l us) (hs : Subs l l') : RelL E w l' us :=
  ⟨by rw [h.1, hs.1], fun i c u hc hu => by
    have hi : i < l.length := by
      have := (List.getElem?_eq_some_iff.1 hc).1
      rw [hs.1] at this; exact this
    exact hs.2 i _ _ (List.getElem?_eq_getElem hi) hc E w u (h.2 i _ u (List.getElem?_eq_getElem hi) hu)⟩

section
variable {P : Program} {c : Ctx} {st : St} {ops : Array Oper} {Q : Exit → Act → World → Prop} {rest : List Oper} {o : Oper}

theorem Inv.evs {E : Env} {a : Act} {w : World} (hi : Inv c E st a w) (args : Array Operand) : RelL E w (args.toList.map st.ev) (args.toList.map a.eval) :=
  ⟨by simp, fun i x u hx hu => by
    simp only [List.getElem?_map] at hx hu
    cases hq : args.toList[i]? with
    | none => rw [hq] at hx; simp at hx
    | some y => rw [hq] at hx hu; simp at hx hu; subst hx; subst hu; exact hi.ev y⟩

/-- the boxes handed in, as they stand in st -/
theorem HInv.hand {E : Env} {w : World} (h : HInv c E st.bx st.tk w) {bxi : List (Nat × Box)} (hb : WkB st.bx bxi) : HInv ⟨0, w, E, keys bxi⟩ E bxi [] w where
  box id b hl := by obtain ⟨b0, h0, ht, hs⟩ := hb.get id b hl; exact (h.box id b0 h0).sub ht hs
  tok id t hl := by simp at hl
  bb i j b b' hi hj he := by
    obtain ⟨b0, h0, _⟩ := hb.get i b hi
    obtain ⟨b1, h1, _⟩ := hb.get j b' hj
    exact h.bb i j b0 b1 h0 h1 he
  tt i j t t' g hi := by simp at hi
  bt i j b t hi hj := by simp at hj
  own i b hi := .inr ⟨i, keys_mem hi, rfl⟩
  ownt j t g hj := by simp at hj
  new := h.new
  old b _ := rfl
  ins id hid := ⟨rfl, rfl, by obtain ⟨b, hb'⟩ := mem_keys hid; rw [hb']; rfl⟩
  kept := .refl _ _

/-- a call of the function f, by its contract. N: the objects that it makes -/
theorem L.callN (N : List Nat) {f : FuncId} {args : Array Operand} {ats : Array TypeId} {as : List AV} {bxi bxo : List (Nat × Box)} {tko : List (Nat × Tok)} {res : AV} {d : Nat} (hg : o.guard = none) (hd : o.dst = some d) (hlt : Nat.ble (d + 1) c.nt = true)
    (ho : o.op = .call { callee := .value (.func f), args := args, argTypes := ats }) (hok : callOk P f = true) (hc : CallA P f as bxi bxo tko res) (ha : Subs (args.toList.map st.ev) as) (hbi : WkB st.bx bxi)
    (hN : N.all (fun id => st.fresh id) = true) (hbo : (keys bxo).all (fun id => N.contains id || (keys bxi).contains id) = true) (hto : (keys tko).all (fun id => N.contains id) = true)
    (hmb : bxo.all (fun p => AV.mentsIn (N ++ keys bxi) p.2.cs) = true) (hmr : AV.mentIn (N ++ keys bxi) res = true)
    (h : L c ⟨(d, res) :: st.fr, bxo ++ st.bx, tko ++ st.tk⟩ (wpList P ops Q rest)) : L c st (wpList P ops Q (o :: rest)) := by
  rintro a w ⟨E, hi⟩
  refine wpList_plain hg (fun K hK => ?_)
  have hrun : (execOp a.eval o).run P w = .ok (.enter f (args.map a.eval)) w := by
    simp [execOp, ho, resolve, Deferred.ofValue, Act.eval, invoke, run_callOk hok]
  unfold Oper.wp
  rw [hrun, Oper.upon_enter]
  have hcall := hc E w (args.toList.map a.eval) ((hi.evs args).sub ha) (hi.heap.hand hbi)
  have hargs : (args.toList.map a.eval).toArray = args.map a.eval := by apply Array.ext'; simp
  rw [hargs] at hcall
  refine hcall.mono fun e w' ⟨u, E', he, hu, hh⟩ => ?_
  subst he
  obtain ⟨hj, monoN, monoC⟩ := hi.heap.join hh (N := N) (fun id hid => List.all_eq_true.1 hN id hid) (fun id hid => by
      obtain ⟨b, hb⟩ := mem_keys hid
      obtain ⟨b0, h0, _⟩ := hbi.get id b hb
      exact ⟨b0, h0⟩)
    (fun id hid => by have := List.all_eq_true.1 hbo id hid; simpa using this) (fun id hid => by have := List.all_eq_true.1 hto id hid; simpa using this)
    (fun id b hb => List.all_eq_true.1 hmb _ (lookup_mem hb))
  refine hK _ _ ?_
  rw [hd]
  refine h _ _ ⟨_, Inv.put (st := ⟨st.fr, bxo ++ st.bx, tko ++ st.tk⟩) ⟨hi.defers, hi.size, fun s v hv => monoC v _ (fun id hid => St.fresh_fr (List.all_eq_true.1 hN id hid) hv) (hi.slot s v hv), hj⟩ (Nat.le_of_ble_eq_true hlt) (monoN res u hmr hu)⟩

/-- a call that takes and gives published contents alone -/
theorem L.call0 {f : FuncId} {args : Array Operand} {ats : Array TypeId} {as : List AV} {res : AV} {d : Nat} (hg : o.guard = none) (hd : o.dst = some d) (hlt : Nat.ble (d + 1) c.nt = true)
    (ho : o.op = .call { callee := .value (.func f), args := args, argTypes := ats }) (hok : callOk P f = true) (hc : CallA P f as [] [] [] res) (ha : Subs (args.toList.map st.ev) as)
    (hmr : AV.mentIn [] res = true) (h : L c ⟨(d, res) :: st.fr, st.bx, st.tk⟩ (wpList P ops Q rest)) : L c st (wpList P ops Q (o :: rest)) :=
  L.callN [] hg hd hlt ho hok hc ha .nil rfl rfl rfl rfl hmr h

/-! ### code -/
theorem L.seq {x y : Code} (h : ∀ K : Act → World → Prop, (∀ st', L c st' (y.wp P Q) → L c st' K) → L c st (x.wp P (Exit.then K Q))) : L c st ((Code.seq x y).wp P Q) :=
  fun a w hr => wp_seq (h (y.wp P Q) (fun _ k => k) a w hr)
theorem L.region {id : Nat} {l : List Oper} (h : L c st (wpList P l.toArray Q l)) : L c st ((Code.region id l.toArray false).wp P Q) := fun a w hr => wp_region_lit (h a w hr)
theorem L.skip (h : L c st (Q .normal)) : L c st (Code.skip.wp P Q) := fun a w hr => wp_skip (h a w hr)
theorem L.exit {id : Nat} (h : L c st (Q (.exit id))) : L c st ((Code.exit id).wp P Q) := fun a w hr => wp_exit (h a w hr)
theorem L.ret (h : L c st (Q .ret)) : L c st (Code.ret.wp P Q) := fun a w hr => wp_ret (h a w hr)
theorem L.block {id : Nat} {x : Code} (h : L c st (x.wp P (Exit.inBlock id Q))) : L c st ((Code.block id x).wp P Q) := fun a w hr => wp_block (h a w hr)
theorem L.cond {x : Operand} {t : Bool} {y z : Code} (hx : st.ev x = aB t) (ht : t = true → L c st (y.wp P Q)) (hf : t = false → L c st (z.wp P Q)) : L c st ((Code.cond x y z).wp P Q) := fun a w hr => by
  obtain ⟨E, hi⟩ := hr
  exact wp_cond_split (hi.im hx) (fun e => ht e a w ⟨E, hi⟩) (fun e => hf e a w ⟨E, hi⟩)
theorem L.condT {x : Operand} {y z : Code} (hx : st.ev x = aB true) (h : L c st (y.wp P Q)) : L c st ((Code.cond x y z).wp P Q) := L.cond hx (fun _ => h) (fun e => by cases e)
theorem L.condF {x : Operand} {y z : Code} (hx : st.ev x = aB false) (h : L c st (z.wp P Q)) : L c st ((Code.cond x y z).wp P Q) := L.cond hx (fun e => by cases e) (fun _ => h)

/-! where an exit leads -/
theorem L.thenN {K : Act → World → Prop} (h : L c st K) : L c st (Exit.then K Q .normal) := h
theorem L.thenE {K : Act → World → Prop} {id : Nat} (h : L c st (Q (.exit id))) : L c st (Exit.then K Q (.exit id)) := h
theorem L.thenR {K : Act → World → Prop} (h : L c st (Q .ret)) : L c st (Exit.then K Q .ret) := h
theorem L.inN {id : Nat} (h : L c st (Q .normal)) : L c st (Exit.inBlock id Q .normal) := h
theorem L.inR {id : Nat} (h : L c st (Q .ret)) : L c st (Exit.inBlock id Q .ret) := h
theorem L.inE {id : Nat} (h : L c st (Q .normal)) : L c st (Exit.inBlock id Q (.exit id)) := fun a w hr => by simp only [Exit.inBlock, if_true]; exact h a w hr
theorem L.inO {id id' : Nat} (hne : (id' == id) = false) (h : L c st (Q (.exit id'))) : L c st (Exit.inBlock id Q (.exit id')) := fun a w hr => by
  have : id' ≠ id := by simpa using hne
  simp only [Exit.inBlock, if_neg this]; exact h a w hr

/-- a loop: what holds at the head of each round, as a state for each i; n i: how many rounds are to come at most -/
theorem L.loop {ι : Type} (inv : ι → St) (n : ι → Nat) {i0 : ι} (h0 : Wk c st (inv i0)) {x : Code}
    (h : ∀ i, ∀ K : Act → World → Prop, (∀ st' i', n i' < n i → Wk c st' (inv i') → L c st' K) → L c (inv i) (x.wp P (Exit.then K Q))) : L c st ((Code.loop x).wp P Q) := by
  have key : ∀ (m : Nat) (i : ι), n i = m → ∀ a w, R c (inv i) a w → ∀ (b : Frame) (k : List Item) (cs : List Frame),
      ∃ e a' w', Q e a' w' ∧ Arrives P (lone (b.at a (.code x :: .inLoop x :: k)) cs w) b k cs e a' w' := by
    intro m
    induction m using Nat.strongRecOn with
    | _ m ih =>
      intro i hn a w hr b k cs
      obtain ⟨e, a₁, w₁, hq, harr⟩ := h i (fun a' w' => ∃ i', n i' < n i ∧ R c (inv i') a' w') (fun st' i' hlt hw a' w' hr' => ⟨i', hlt, hr'.wk hw⟩) a w hr b (.inLoop x :: k) cs
      cases e with
      | normal =>
        obtain ⟨i', hlt, hr'⟩ := hq
        obtain ⟨e₂, a₂, w₂, hq₂, harr₂⟩ := ih (n i') (hn ▸ hlt) i' rfl a₁ w₁ hr' b k cs
        exact ⟨e₂, a₂, w₂, hq₂, .of_steps (Steps.trans harr (.one step_inLoop)) harr₂⟩
      | exit id => exact ⟨_, a₁, w₁, hq, .pass (x := .inLoop x) rfl (fun _ _ => .inl (by simp)) harr⟩
      | goto l => exact ⟨_, a₁, w₁, hq, .pass (x := .inLoop x) rfl (fun _ _ => .inl (by simp)) harr⟩
      | ret => exact ⟨_, a₁, w₁, hq, .pass (x := .inLoop x) rfl (fun _ _ => .inl (by simp)) harr⟩
      | panic ch => exact ⟨_, a₁, w₁, hq, .pass (x := .inLoop x) rfl (fun _ _ => .inl (by simp)) harr⟩
      | outgrown => exact ⟨_, a₁, w₁, hq, .pass (x := .inLoop x) rfl (fun _ _ => .inl (by simp)) harr⟩
  intro a w hr b k cs
  obtain ⟨e, a', w', hq, harr⟩ := key _ i0 rfl a w (hr.wk h0) b k cs
  exact ⟨e, a', w', hq, .of_steps (.one step_loop) harr⟩

/-! ### entering and returning -/
def enter : Nat → List AV → List (Nat × AV)
  | _, [] => []
  | n, v :: vs => (n, v) :: enter (n + 1) vs
theorem enter_get : ∀ (vs : List AV) (n s : Nat) (v : AV), (enter n vs).lookup s = some v → n ≤ s ∧ vs[s - n]? = some v
  | [], n, s, v, h => by simp [enter] at h
  | x :: vs, n, s, v, h => by
    by_cases e : s = n
    · subst e; simp only [enter, lookup_cons_eq] at h; cases h; simp
    · simp only [enter] at h
      rw [lookup_cons_ne e] at h
      obtain ⟨h1, h2⟩ := enter_get vs (n + 1) s v h
      refine ⟨by omega, ?_⟩
      rw [show s - n = (s - (n + 1)) + 1 by omega]
      simpa using h2

theorem CallA.intro {f : FuncId} {fn : Func} {code : Code} {args : List AV} {bx bx' : List (Nat × Box)} {tk' : List (Nat × Tok)} {res : AV} (nt : Nat) (hf : P.funcs[f]? = some fn) (hb : fn.body = some code) (hnt : fn.ntmps = nt) (hn : Nat.ble args.length nt = true)
    (h : ∀ (w0 : World) (E0 : Env), L ⟨nt, w0, E0, keys bx⟩ ⟨enter 0 args, bx, []⟩ (code.wp P (bodyPost P fn (Post ⟨nt, w0, E0, keys bx⟩ bx' tk' res)))) : CallA P f args bx bx' tk' res := by
  subst hnt
  have hn := Nat.le_of_ble_eq_true hn
  intro E w us hrel hh
  have hl := hrel.1
  refine calls_of_wp (R := Post ⟨fn.ntmps, w, E, keys bx⟩ bx' tk' res) hf hb (h w E _ _ ⟨E, rfl, ?_, fun s v hv => ?_, ?_⟩) |>.mono ?_
  · simp; omega
  · obtain ⟨_, hv'⟩ := enter_get args 0 s v hv
    rw [Nat.sub_zero] at hv'
    have hlt : s < us.length := by rw [hl]; exact (List.getElem?_eq_some_iff.1 hv').1
    have : (us.toArray ++ Array.replicate (fn.ntmps - us.toArray.size) undef).getD s undef = us[s] := by
      simp [Array.getElem?_append, hlt]
    rw [this]
    exact hrel.2 s v _ hv' (List.getElem?_eq_getElem hlt)
  · exact ⟨hh.box, hh.tok, hh.bb, hh.tt, hh.bt, hh.own, hh.ownt, hh.new, hh.old, hh.ins, hh.kept⟩
  · rintro e w' ⟨u, E', he, hu, hh'⟩
    exact ⟨u, E', he, hu, ⟨hh'.box, hh'.tok, hh'.bb, hh'.tt, hh'.bt, hh'.own, hh'.ownt, hh'.new, hh'.old, hh'.ins, hh'.kept⟩⟩

/-- a result -/
def St.resv (P : Program) (st : St) : ResultVar → Option AV
  | .tmp t => some (st.ev (.tmp t))
  | .cell p ty => match st.ev (.tmp p) with
    | .ptr id 0 => match st.bx.lookup id, P.info? ty, P.underlying ty with
      | some b, some i, some (.struct _) => if i.size ≤ b.cs.length then some (.agg (b.cs.take i.size)) else none
      | _, _, _ => none
    | _ => none

theorem Inv.resv {E : Env} {a : Act} {w : World} (hi : Inv c E st a w) {r : ResultVar} {v : AV} (hv : st.resv P r = some v) :
    ∃ u, ((match r with | .tmp t => pure (a.tmps.getD t undef) | .cell p t => do loadVar t (← asAddr (a.tmps.getD p undef)) : Sem Value).run P w) = .ok u w ∧ RepA E w v u := by
  cases r with
  | tmp t =>
    simp only [St.resv, Option.some.injEq] at hv
    subst hv
    exact ⟨_, rfl, hi.ev (.tmp t)⟩
  | cell p ty =>
    simp only [St.resv] at hv
    split at hv
    · rename_i id hp
      have hq : a.tmps.getD p undef = .pointer (some ⟨E.ρ id, 0, none⟩) := hi.ptr hp
      split at hv
      · rename_i b i fs hb hin hu
        split at hv
        · rename_i hle
          simp only [Option.some.injEq] at hv
          subst hv
          obtain ⟨arr, ha, hr, h1, hc⟩ := hi.boxCell hb
          have hr' := hr.take i.size
          have hl : (arr.take i.size).length = i.size := by rw [List.length_take, hr.1]; omega
          have hrun : (loadCells ⟨E.ρ id, 0, none⟩ (arr.take i.size).length).run P w = .ok (arr.take i.size).toArray w :=
            run_loadCells_list w _ _ (fun j v hv => by
              rw [Addr.add_none, hc, Nat.zero_add]
              rw [List.getElem?_take] at hv
              split at hv
              · exact hv
              · cases hv)
          rw [hl] at hrun
          refine ⟨_, ?_, hr'.agg (fun u hu => h1 u (List.mem_of_mem_take hu))⟩
          simp only [hq]
          simp [asAddr, loadVar, isAgg, run_underlying hu, sizeOf, typeInfo, hin, hrun]
        · cases hv
      · cases hv
    · cases hv

def St.ress (P : Program) (st : St) : List ResultVar → Option (List AV)
  | [] => some []
  | r :: rs => match st.resv P r, st.ress P rs with
    | some v, some vs => some (v :: vs)
    | _, _ => none
theorem Inv.ress {E : Env} {a : Act} {w : World} (hi : Inv c E st a w) : ∀ {rs : List ResultVar} {vs : List AV}, st.ress P rs = some vs →
    ∃ us : List Value, (rs.mapM (fun r => (match r with | .tmp t => pure (a.tmps.getD t undef) | .cell p t => do loadVar t (← asAddr (a.tmps.getD p undef)) : Sem Value))).run P w = .ok us w ∧ RelL E w vs us
  | [], vs, h => by simp [St.ress] at h; subst h; exact ⟨[], rfl, RelL.nil _ _⟩
  | r :: rs, vs, h => by
    simp only [St.ress] at h
    split at h
    · rename_i v vs' hv hvs
      cases h
      obtain ⟨u, hu, hr⟩ := hi.resv (P := P) hv
      obtain ⟨us, hus, hrs⟩ := hi.ress hvs
      refine ⟨u :: us, ?_, ⟨by simp [hrs.1], fun i c' u' hc hu' => ?_⟩⟩
      · rw [List.mapM_cons, Sem.run_bind, hu, Result.andThen_ok, Sem.run_bind, hus]; rfl
      · cases i with
        | zero => simp at hc hu'; subst hc; subst hu'; exact hr
        | succ i => exact hrs.2 i c' u' (by simpa using hc) (by simpa using hu')
    · cases h

def resOf : List AV → AV
  | [v] => v
  | vs => .tup vs

theorem L.ends {fn : Func} {bx' : List (Nat × Box)} {tk' : List (Nat × Tok)} {res : AV} {rs : List ResultVar} {vs : List AV} (hfn : fn.results = rs.toArray) (hv : st.ress P rs = some vs) (hs : Sub (resOf vs) res) (hw : Wk c st ⟨[], bx', tk'⟩) :
    L c st (bodyPost P fn (Post c bx' tk' res) .ret) := by
  rintro a w ⟨E, hi⟩
  obtain ⟨us, hus, hr⟩ := hi.ress hv
  refine ⟨hi.defers, if h : us.length = 1 then us[0] else .tuple us.toArray, ?_, _, E, rfl, hs E w _ ?_, hi.heap.wk hw⟩
  · have hmap : (rs.toArray.mapM (fun r => (match r with | .tmp t => pure (a.tmps.getD t undef) | .cell p t => do loadVar t (← asAddr (a.tmps.getD p undef)) : Sem Value))).run P w = .ok us.toArray w := by
      rw [Array.mapM_eq_mapM_toList, Sem.run_map]
      simp only [hus]; rfl
    unfold results
    rw [hfn, Sem.run_bind]
    erw [hmap]
    simp
  · match vs, us, hr with
    | [v], [u], hr => exact hr.2 0 v u rfl rfl
    | [], [], hr => exact .tup rfl (fun i c u h => by simp at h)
    | v :: v' :: vs, u :: u' :: us, hr => exact .tup hr.1 hr.2
    | [], u :: us, hr => have := hr.1; simp at this
    | [v], [], hr => have := hr.1; simp at this
    | [v], u :: u' :: us, hr => have := hr.1; simp at this
    | v :: v' :: vs, [], hr => have := hr.1; simp at this
    | v :: v' :: vs, [u], hr => have := hr.1; simp at this
theorem L.endsN {fn : Func} {bx' : List (Nat × Box)} {tk' : List (Nat × Tok)} {res : AV} {rs : List ResultVar} {vs : List AV} (hfn : fn.results = rs.toArray) (hv : st.ress P rs = some vs) (hs : Sub (resOf vs) res) (hw : Wk c st ⟨[], bx', tk'⟩) :
    L c st (bodyPost P fn (Post c bx' tk' res) .normal) := fun a w hr => L.ends hfn hv hs hw a w hr
end
end Go.Abs
