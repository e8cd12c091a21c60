/- A logic of abstract states, part 17: arguments opened, and what stays of them behind the call. Conditions: the premises. -/
import Derived.Test.YtanlhpdjgelehaaDoorO1
import Derived.JoinedCond
namespace Go.Abs
open Go.RowKit (Below)
open Go.ChangeShapes Go.WideShapes
set_option linter.unusedVariables false

section
variable {H : Type} {enc : TypeId × Value → H} {P : Program} {w : World}

theorem RelL.reps {E : Env} {w : World} {xs : List IV} {us : List Value} (h : Reps E.φ w xs us) : RelL E w (xs.map .iv) us :=
  ⟨by simp [h.1], fun i c u hc hu => by
    simp only [List.getElem?_map, Option.map_eq_some_iff] at hc
    obtain ⟨x, hx, rfl⟩ := hc
    exact .iv (h.2 i x u hx hu)⟩

/-- an argument of a struct's type -/
theorem open_agg {f : DataW H → Nat} (hf : Bulk f) {T : Book} (hT : T.ok P = true) {r : Reach} {b0 : Nat} {t : TypeId} {fs : Array Field} {cts : List CT} (hu : P.underlying t = some (.struct fs)) (hfl : flat P 9 t = some cts) (hin : cts.all T.has = true)
    {v : Value} {d : DataW H} {ps : List MemPlace} (hval : Value.okWide P w r b0 t v) (hd : DataW.Trod enc P w 0 (fun _ => true) true t v d ps) (hw : wOk P t d) :
    ∃ xs : List IV, Fits T cts xs ∧ RepA (lawEnv (sizes w)) w (.agg (xs.map .iv)) v ∧ szs xs ≤ f d := by
  obtain ⟨us, rfl, hs⟩ := okWide_struct hu hval
  obtain ⟨fuel, hd⟩ := hd
  obtain ⟨xs, h1, h2, h3⟩ := open_cells hf hT fuel 9 t _ _ cts hd hfl hin hw
  have h2' : Reps (sizes w) w xs us.toList := by simpa [Value.cells] using h2
  refine ⟨xs, h1, ?_, h3⟩
  have := RelL.agg (E := lawEnv (sizes w)) (RelL.reps h2') (fun u hu' => by
    obtain ⟨i, hi, rfl⟩ := List.getElem_of_mem hu'
    have hx : xs[i]? = some (xs[i]'(by rw [h2'.1]; exact hi)) := List.getElem?_eq_getElem _
    exact (h2'.2 i _ _ hx (List.getElem?_eq_getElem hi)).oneCell)
  simpa using this

theorem open_val {f : DataW H → Nat} (hf : Bulk f) {T : Book} (hT : T.ok P = true) {t : TypeId} {c : CT} (hfl : flat P 9 t = some [c]) (hin : T.has c = true)
    {v : Value} {d : DataW H} {ps : List MemPlace} (hcells : v.cells = #[v]) (hd : DataW.Trod enc P w 0 (fun _ => true) true t v d ps) (hw : wOk P t d) :
    ∃ x : IV, Fit T c x ∧ RepA (lawEnv (sizes w)) w (.iv x) v ∧ x.sz ≤ f d := by
  obtain ⟨fuel, hd⟩ := hd
  obtain ⟨xs, h1, h2, h3⟩ := open_cells hf hT fuel 9 t _ _ [c] hd hfl (by simp [hin]) hw
  obtain ⟨x, rfl⟩ : ∃ x, xs = [x] := List.length_eq_one_iff.1 h1.1
  rw [hcells] at h2
  exact ⟨x, h1.2 0 c x rfl rfl, .iv (h2.2 0 x v rfl rfl), by simpa [szs] using h3⟩
theorem open_slice {f : DataW H → Nat} (hf : Bulk f) {T : Book} (hT : T.ok P = true) {r : Reach} {b0 : Nat} {t e : TypeId} (hu : P.underlying t = some (.slice e)) (hfl : flat P 9 t = some [.sl e]) (hin : T.has (.sl e) = true)
    {v : Value} {d : DataW H} {ps : List MemPlace} (hval : Value.okWide P w r b0 t v) (hd : DataW.Trod enc P w 0 (fun _ => true) true t v d ps) (hw : wOk P t d) :
    ∃ x : IV, Fit T (.sl e) x ∧ RepA (lawEnv (sizes w)) w (.iv x) v ∧ x.sz ≤ f d := by
  obtain ⟨a, len, cap, rfl⟩ := okWide_slice hu hval
  exact open_val hf hT hfl hin rfl hd hw
theorem open_str {f : DataW H → Nat} (hf : Bulk f) {T : Book} (hT : T.ok P = true) {r : Reach} {b0 : Nat} {t : TypeId} (hu : P.underlying t = some .string) (hfl : flat P 9 t = some [.str])
    {v : Value} {d : DataW H} {ps : List MemPlace} (hval : Value.okWide P w r b0 t v) (hd : DataW.Trod enc P w 0 (fun _ => true) true t v d ps) (hw : wOk P t d) :
    ∃ x : IV, Fit T .str x ∧ RepA (lawEnv (sizes w)) w (.iv x) v ∧ x.sz ≤ f d := by
  obtain ⟨s, rfl⟩ := okWide_string hu hval
  exact open_val hf hT hfl rfl rfl hd hw
theorem open_num {f : DataW H → Nat} (hf : Bulk f) {T : Book} (hT : T.ok P = true) {r : Reach} {b0 : Nat} {t : TypeId} {k : IntKind} (hu : P.underlying t = some (.int k)) (hfl : flat P 9 t = some [.int k])
    {v : Value} {d : DataW H} {ps : List MemPlace} (hval : Value.okWide P w r b0 t v) (hd : DataW.Trod enc P w 0 (fun _ => true) true t v d ps) (hw : wOk P t d) :
    ∃ x : IV, Fit T (.int k) x ∧ RepA (lawEnv (sizes w)) w (.iv x) v ∧ x.sz ≤ f d := by
  obtain ⟨s, rfl⟩ := okWide_int hu hval
  exact open_val hf hT hfl rfl rfl hd hw

theorem trodAll_after (hl : laidOutB P = true) {W W' : World} (hb : Below W.heap.size W W') : ∀ {ts : List TypeId} {vs : List Value} {ds : List (DataW H)} {ps : List MemPlace},
    ts.all (fun t => P.readableRec t && decide (t < P.types.size)) = true → DataW.TrodAll enc P W 0 (fun _ => true) true ts vs ds ps → DataW.TrodAll enc P W' 0 (fun b => decide (b < W.heap.size)) true ts vs ds ps
  | [], [], [], _, _, h => h
  | [], [], _ :: _, _, _, h => h.elim
  | [], _ :: _, _, _, _, h => h.elim
  | t :: ts, [], _, _, _, h => h.elim
  | t :: ts, v :: vs, [], _, _, h => h.elim
  | t :: ts, v :: vs, d :: ds, ps, ht, h => by
    simp only [List.all_cons, Bool.and_eq_true, decide_eq_true_eq] at ht
    obtain ⟨p, q, h1, h2, rfl⟩ := h
    have lt : ∀ x ∈ p, x.block < W.heap.size := by obtain ⟨m, hm⟩ := h1; exact DataW.trod_lt m _ _ _ hm
    exact ⟨p, q, Below.trod hl ht.1.1 ht.1.2 h1 hb lt, trodAll_after hl hb ht.2 h2, rfl⟩
end

/-- the form's own reach, at a specification with a condition -/
theorem returnsInHanded_of_cond_sized {H : Type} {enc : TypeId × Value → H} {a : Assume} {C : Checked} {os : Os} {f : FuncId} {fn : Func} {s : OpenSpec} {k : (H : Type) → List (DataW H) → Bool} (hk : s.cond = some k) {F : Stop.Interp} {conds : List PathCond} {apart fresh handsOn again : Bool}
    (own : ownKnob C.prog.godebug = none) (started : os.Started) (noInit : C.prog.inits.idxOf? f = none) (hfn : C.prog.funcs[f]? = some fn)
    (witness : ∃ (w : World) (tape : Tape) (i : Input), w.os = os ∧ (w.forCall tape i).Shaped C.prog ∧ i.vars = [] ∧ Input.okWide C.prog (w.forCall tape i) .any w.heap.size f i ∧
      s.pre6 enc C.prog fn conds apart (w.forCall tape i).memory i.args ∧ a.holds C.prog (lone (Frame.enter C.prog f i.args .normal) [] (w.forCall tape i)))
    (contract : ∀ (W : World) (base : Nat) (args : Array Value) (ds gs : List (DataW H)) (before : List MemPlace),
      (∀ (j : Nat) t v, fn.params[j]? = some t → args[j]? = some v → Value.okWide C.prog W .any base t v) →
      DataW.Whole enc C.prog fn.params.toList s.vars apart W args.toList ds gs before →
      conds.all (PathCond.test C.prog ⟨fn.params.toList, ds, s.bare.plain.varTypes C.prog, gs⟩) = true → k H (ds ++ gs) = true →
      (DataW.weightsEach C.prog (fn.params.toList ++ s.bare.plain.varTypes C.prog) (ds ++ gs)).all (· ≤ reachBytes) = true →
      a.holds C.prog (lone (Frame.enter C.prog f args .normal) [] W) →
      Calls C.prog f args W fun e W' => ∃ v, e = .returned v ∧ (s.at F).post enc C.prog fn apart fresh handsOn again W args v W') :
    ReturnsInHanded a C os f .any (s.pre6 enc C.prog fn conds apart) ((s.at F).post enc C.prog fn apart fresh handsOn again) := by
  refine returnsInHanded_of_calls own started noInit witness ?_
  intro w tape i _ _ _ hok hpre hholds
  obtain ⟨_, _, _, fn', hfn', _, _, _, _, hval⟩ := hok
  have e : fn' = fn := Option.some.inj (hfn'.symm.trans hfn)
  subst e
  obtain ⟨ds, gs, before, hw, hc, hkk⟩ := (OpenSpec.pre_some hk conds apart _ _).1 hpre.1
  have hw' := DataW.Whole.of_heap (w' := w.forCall tape i) (by rfl) hw
  refine (contract (w.forCall tape i) w.heap.size i.args ds gs before hval hw' hc hkk (hpre.2.weights hw) hholds).mono fun e W' ⟨v, he, hp⟩ => ?_
  subst he
  exact ChangeSpec.post_blind hp

/-! what fits, read off -/
theorem Fit.str_inv {T : Book} {x : IV} (h : Fit T .str x) : ∃ s : List UInt8, x = S s ∧ s.length ≤ reachBytes := by
  cases h with
  | @str s hs =>
    have e : s.data.toList.length = s.size := Array.length_toList
    exact ⟨s.data.toList, by simp, by rw [e]; exact hs⟩
theorem Fit.int_inv {T : Book} {x : IV} (h : Fit T (.int .i64) x) : ∃ n : Int, x = I n ∧ -9223372036854775808 ≤ n ∧ n ≤ 9223372036854775807 := by
  cases h with
  | int hw => exact ⟨_, rfl, Go.bounds_i64 hw⟩
theorem Fit.bool_inv {T : Book} {x : IV} (h : Fit T .bool x) : ∃ b : Bool, x = B b := by
  cases h with
  | bool => exact ⟨_, rfl⟩
theorem Fit.sl_inv {T : Book} {e : TypeId} {n : Nat} {cts : List CT} {x : IV} (hl : T.lookup e = some (n, cts)) (h : Fit T (.sl e) x) : ∃ es : List (List IV), x = .sl es ∧ es.length * n ≤ reachBytes ∧ ∀ e' ∈ es, Fits T cts e' := by
  cases h with
  | @sl e es n' cts' hm hl' h1 h =>
    have := Option.some.inj (hl'.symm.trans hl)
    cases this
    refine ⟨es, rfl, hm, fun e' he => ?_⟩
    obtain ⟨j, hj, rfl⟩ := List.getElem_of_mem he
    exact ⟨h1 j _ (List.getElem?_eq_getElem hj), fun i c y hc hy => h j _ i c y (List.getElem?_eq_getElem hj) hc hy⟩
/-- each element is some model value's cells: so are all -/
theorem map_of {α : Type} {f : α → List IV} {Q : List IV → α → Prop} : ∀ {es : List (List IV)}, (∀ e ∈ es, ∃ a, e = f a ∧ Q e a) → ∃ l : List α, es = l.map f ∧ ∀ a ∈ l, Q (f a) a
  | [], _ => ⟨[], rfl, fun a h => by cases h⟩
  | e :: es, h => by
    obtain ⟨a, h1, h2⟩ := h e (by simp)
    obtain ⟨l, h3, h4⟩ := map_of (es := es) (fun e he => h e (by simp [he]))
    subst h1
    exact ⟨a :: l, by simp [h3], fun b hb => by
      rcases List.mem_cons.1 hb with rfl | hb
      · exact h2
      · exact h4 b hb⟩
theorem Fits.get {T : Book} {cts : List CT} {xs : List IV} (h : Fits T cts xs) {i : Nat} {c : CT} (hc : cts[i]? = some c) : ∃ y, xs[i]? = some y ∧ Fit T c y := by
  have hi : i < xs.length := by rw [h.1]; exact (List.getElem?_eq_some_iff.1 hc).1
  exact ⟨xs[i], List.getElem?_eq_getElem hi, h.2 i c _ hc (List.getElem?_eq_getElem hi)⟩
theorem Fits.cons_inv {T : Book} {c : CT} {cts : List CT} {xs : List IV} (h : Fits T (c :: cts) xs) : ∃ y ys, xs = y :: ys ∧ Fit T c y ∧ Fits T cts ys := by
  cases xs with
  | nil => exact absurd h.1 (by simp)
  | cons y ys => exact ⟨y, ys, rfl, h.2 0 c y rfl rfl, by simpa using h.1, fun i c' y' h1 h2 => h.2 (i + 1) c' y' (by simpa using h1) (by simpa using h2)⟩
theorem Fits.nil_inv {T : Book} {xs : List IV} (h : Fits T [] xs) : xs = [] := List.eq_nil_of_length_eq_zero h.1
end Go.Abs
