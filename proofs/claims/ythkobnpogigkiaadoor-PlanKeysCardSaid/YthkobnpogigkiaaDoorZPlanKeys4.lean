/- Several texts in one, each with its own sentence ahead of it. Conditions: each one says its own. -/
import Derived.Test.YthkobnpogigkiaaDoorZPlanKeys3
import Derived.ChangeArms
import Derived.ChangeOld
import Derived.OpenShut
import Derived.Carry
import Derived.SizedLaws
import Derived.JoinedCond
/- A logic of abstract states, part 12: a region whose order is open. Where every two operations of which one writes what the other reads or writes are ordered, one walk in the order of the text serves every order. Conditions: the rule's own premises; over any program. -/
namespace Go.Abs
set_option linter.unusedVariables false
set_option linter.unusedSimpArgs false
structure Eff where
  val : Option (Nat × AV)
  nb : List (Nat × Box)
  nt : List (Nat × Tok)
  dt : List Nat
  tb : List Nat
  tt : List Nat
  fs : List Nat
def delT : List Nat → List (Nat × Tok) → List (Nat × Tok)
  | [], tk => tk
  | id :: l, tk => delT l (delTok id tk)
def Eff.on (e : Eff) (st : St) : St := ⟨e.val.toList ++ st.fr, e.nb ++ st.bx, e.nt ++ delT e.dt st.tk⟩
def Eff.writes (e : Eff) : List Nat := e.val.toList.map (fun p => 3 * p.1) ++ (e.nb.map (fun p => 3 * p.1 + 1) ++ (e.nt.map (fun p => 3 * p.1 + 2) ++ e.dt.map (fun n => 3 * n + 2)))
def slotsOf (o : Oper) (ops : Array Oper) : List Nat :=
  (o.op.operands.toList.filterMap fun | .tmp t => some (3 * t) | _ => none) ++ (match o.guard with | some (j, _) => ((ops[j]?).bind (·.dst)).toList.map (3 * ·) | none => [])
def Eff.reads (e : Eff) : List Nat := e.tb.map (3 * · + 1) ++ e.tt.map (3 * · + 2)
def St.look (st : St) (κ : Nat) : Option (AV ⊕ Box ⊕ Tok) :=
  if κ % 3 = 0 then (st.fr.lookup (κ / 3)).map .inl else if κ % 3 = 1 then (st.bx.lookup (κ / 3)).map (.inr ∘ .inl) else (st.tk.lookup (κ / 3)).map (.inr ∘ .inr)
theorem St.look0 (st : St) (s : Nat) : st.look (3 * s) = (st.fr.lookup s).map .inl := by
  simp [St.look, Nat.mul_div_cancel_left]
theorem St.look1 (st : St) (s : Nat) : st.look (3 * s + 1) = (st.bx.lookup s).map (.inr ∘ .inl) := by
  have h1 : (3 * s + 1) % 3 = 1 := by omega
  have h2 : (3 * s + 1) / 3 = s := by omega
  simp [St.look, h1, h2]
theorem St.look2 (st : St) (s : Nat) : st.look (3 * s + 2) = (st.tk.lookup s).map (.inr ∘ .inr) := by
  have h1 : (3 * s + 2) % 3 = 2 := by omega
  have h2 : (3 * s + 2) / 3 = s := by omega
  simp [St.look, h1, h2]
theorem lookup_none_of {β : Type} : ∀ {l : List (Nat × β)} {s : Nat}, s ∉ l.map (·.1) → l.lookup s = none
  | [], s, h => rfl
  | (t, u) :: l, s, h => by
    simp only [List.map_cons, List.mem_cons, not_or] at h
    rw [lookup_cons_ne h.1]; exact lookup_none_of h.2
theorem lookup_some_of {β : Type} : ∀ {l : List (Nat × β)} {s : Nat}, s ∈ l.map (·.1) → ∃ v, l.lookup s = some v
  | [], s, h => by simp at h
  | (t, u) :: l, s, h => by
    by_cases e : s = t
    · exact ⟨u, by rw [e]; exact lookup_cons_eq⟩
    · rw [lookup_cons_ne e]; exact lookup_some_of (by simp only [List.map_cons, List.mem_cons] at h; exact h.resolve_left e)
theorem delTok_look (id : Nat) : ∀ (tk : List (Nat × Tok)) (s : Nat), (delTok id tk).lookup s = if s = id then none else tk.lookup s
  | [], s => by simp [delTok]
  | (t, u) :: tk, s => by
    have ih := delTok_look id tk s
    unfold delTok at ih ⊢
    by_cases e : t = id
    · subst e
      simp only [List.filter_cons, bne_self_eq_false, Bool.false_eq_true, if_false]
      rw [ih]
      by_cases h : s = t
      · simp [h]
      · rw [lookup_cons_ne h]
    · have hb : (t != id) = true := by simpa [bne] using e
      simp only [List.filter_cons, hb, if_true]
      by_cases h : s = t
      · subst h; rw [lookup_cons_eq, lookup_cons_eq, if_neg e]
      · rw [lookup_cons_ne h, lookup_cons_ne h, ih]
theorem delT_look : ∀ (l : List Nat) (tk : List (Nat × Tok)) (s : Nat), (delT l tk).lookup s = if l.contains s then none else tk.lookup s
  | [], tk, s => by simp [delT]
  | id :: l, tk, s => by
    rw [delT, delT_look l, delTok_look]
    by_cases h : s = id
    · subst h; simp
    · simp [h]
theorem delT_mem : ∀ (l : List Nat) (tk : List (Nat × Tok)) {p : Nat × Tok}, p ∈ delT l tk → p ∈ tk
  | [], tk, p, h => h
  | id :: l, tk, p, h => by
    have := delT_mem l _ h
    unfold delTok at this
    exact (List.mem_filter.1 this).1
theorem Eff.on_look_ne {e : Eff} {st : St} {κ : Nat} (h : κ ∉ e.writes) : (e.on st).look κ = st.look κ := by
  simp only [Eff.writes, List.mem_append, List.mem_map, not_or, not_exists, not_and] at h
  obtain ⟨h0, h1, h2, h3⟩ := h
  rcases (by omega : κ = 3 * (κ / 3) ∨ κ = 3 * (κ / 3) + 1 ∨ κ = 3 * (κ / 3) + 2) with hk | hk | hk
  · rw [hk, St.look0, St.look0]
    simp only [Eff.on, List.lookup_append]
    rw [lookup_none_of (l := e.val.toList) (fun hm => by
      simp only [List.mem_map] at hm
      obtain ⟨p, hp, he⟩ := hm
      exact h0 p hp (by omega))]
    simp
  · rw [hk, St.look1, St.look1]
    simp only [Eff.on, List.lookup_append]
    rw [lookup_none_of (l := e.nb) (fun hm => by
      simp only [List.mem_map] at hm
      obtain ⟨p, hp, he⟩ := hm
      exact h1 p hp (by omega))]
    simp
  · rw [hk, St.look2, St.look2]
    simp only [Eff.on, List.lookup_append]
    rw [lookup_none_of (l := e.nt) (fun hm => by
      simp only [List.mem_map] at hm
      obtain ⟨p, hp, he⟩ := hm
      exact h2 p hp (by omega)), delT_look, if_neg (fun hm => h3 (κ / 3) (by simpa using hm) (by omega))]
    simp
theorem Eff.on_look_eq {e : Eff} {st st' : St} {κ : Nat} (h : κ ∈ e.writes ∨ st'.look κ = st.look κ) : (e.on st').look κ = (e.on st).look κ := by
  by_cases hw : κ ∈ e.writes
  · clear h
    simp only [Eff.writes, List.mem_append, List.mem_map] at hw
    rcases (by omega : κ = 3 * (κ / 3) ∨ κ = 3 * (κ / 3) + 1 ∨ κ = 3 * (κ / 3) + 2) with hk | hk | hk
    · rw [hk, St.look0, St.look0]
      simp only [Eff.on, List.lookup_append]
      have : κ / 3 ∈ e.val.toList.map (·.1) := by
        rcases hw with ⟨p, hp, he⟩ | ⟨p, hp, he⟩ | ⟨p, hp, he⟩ | ⟨p, hp, he⟩
        · exact List.mem_map.2 ⟨p, hp, by omega⟩
        all_goals omega
      obtain ⟨v, hv⟩ := lookup_some_of this
      rw [hv]; simp
    · rw [hk, St.look1, St.look1]
      simp only [Eff.on, List.lookup_append]
      have : κ / 3 ∈ e.nb.map (·.1) := by
        rcases hw with ⟨p, hp, he⟩ | ⟨p, hp, he⟩ | ⟨p, hp, he⟩ | ⟨p, hp, he⟩
        · omega
        · exact List.mem_map.2 ⟨p, hp, by omega⟩
        all_goals omega
      obtain ⟨v, hv⟩ := lookup_some_of this
      rw [hv]; simp
    · rw [hk, St.look2, St.look2]
      simp only [Eff.on, List.lookup_append, delT_look]
      by_cases hn : κ / 3 ∈ e.nt.map (·.1)
      · obtain ⟨v, hv⟩ := lookup_some_of hn
        rw [hv]; simp
      · have : e.dt.contains (κ / 3) = true := by
          rcases hw with ⟨p, hp, he⟩ | ⟨p, hp, he⟩ | ⟨p, hp, he⟩ | ⟨p, hp, he⟩
          · omega
          · omega
          · exact (hn (List.mem_map.2 ⟨p, hp, by omega⟩)).elim
          · have : p = κ / 3 := by omega
            subst this; simpa using hp
        rw [this]; simp
  · rw [Eff.on_look_ne hw, Eff.on_look_ne hw]; exact h.resolve_left hw
theorem R.look {c : Ctx} {st st' : St} {a : Act} {w : World} (h : R c st a w) (he : ∀ κ, st'.look κ = st.look κ) : R c st' a w := by
  have h0 : ∀ s, st'.fr.lookup s = st.fr.lookup s := fun s => by
    have := he (3 * s); rw [St.look0, St.look0] at this
    exact Option.map_injective (fun _ _ h => by injection h) this
  have h1 : ∀ s, st'.bx.lookup s = st.bx.lookup s := fun s => by
    have := he (3 * s + 1); rw [St.look1, St.look1] at this
    exact Option.map_injective (fun _ _ h => by simpa using h) this
  have h2 : ∀ s, st'.tk.lookup s = st.tk.lookup s := fun s => by
    have := he (3 * s + 2); rw [St.look2, St.look2] at this
    exact Option.map_injective (fun _ _ h => by simpa using h) this
  have hh := h
  obtain ⟨E, hi⟩ := hh
  refine h.wk ⟨fun id hid => by rw [h1]; exact (hi.heap.ins id hid).2.2, fun s v hv => ⟨v, by rw [← h0]; exact hv, Sub.refl _⟩, fun id b hb => ⟨b, by rw [← h1]; exact hb, rfl, Subs.refl _⟩, fun id t ht => by rw [← h2]; exact ht⟩
theorem R.drew {c : Ctx} {st : St} {a : Act} {w : World} (n : Nat) (h : R c st a w) : R c st a { w with drawn := n } := by
  obtain ⟨E, hi⟩ := h
  have hc : ∀ p, ({ w with drawn := n } : World).cell? p = w.cell? p := fun _ => rfl
  have hk : Keeps E.φ w { w with drawn := n } := fun _ _ _ => rfl
  have mono : ∀ (v : AV) (u : Value), RepA E w v u → RepA E { w with drawn := n } v u := fun v u h => h.keep hk
  exact ⟨E, hi.defers, hi.size, fun s v hv => mono v _ (hi.slot s v hv),
    ⟨fun id b hb hn => by
        obtain ⟨h0, arr, ha, hl, h1, hr, hq⟩ := hi.heap.box id b hb hn
        exact ⟨h0, arr, ha, hl, h1, fun i c u h2 h3 => mono _ _ (hr i c u h2 h3), hq⟩,
      fun id t ht => hi.heap.tok id t ht, hi.heap.bb, hi.heap.tt, hi.heap.bt, hi.heap.own, hi.heap.ownt, hi.heap.new, hi.heap.old, hi.heap.ins,
      ⟨hi.heap.kept.os, hi.heap.kept.tape, hi.heap.kept.output, hi.heap.kept.size, hi.heap.kept.block⟩⟩⟩
def onF : (Nat → Bool) → List Eff → St → St
  | _, [], st => st
  | f, e :: r, st => onF (fun j => f (j + 1)) r (if f 0 then e.on st else st)
theorem onF_same {κ : Nat} : ∀ (es : List Eff) (f g : Nat → Bool) (st st' : St), (∀ (i : Nat) (e : Eff), es[i]? = some e → f i = g i ∨ κ ∉ e.writes) → st.look κ = st'.look κ → (onF f es st).look κ = (onF g es st').look κ
  | [], _, _, _, _, _, h => h
  | e :: r, f, g, st, st', h, hs => by
    simp only [onF]
    refine onF_same r _ _ _ _ (fun i e' he => h (i + 1) e' (by simpa using he)) ?_
    rcases h 0 e rfl with hb | hw
    · rw [hb]
      cases g 0
      · exact hs
      · exact Eff.on_look_eq (.inr hs)
    · have h1 : (if f 0 = true then e.on st else st).look κ = st.look κ := by cases f 0; rfl; exact Eff.on_look_ne hw
      have h2 : (if g 0 = true then e.on st' else st').look κ = st'.look κ := by cases g 0; rfl; exact Eff.on_look_ne hw
      rw [h1, h2, hs]
theorem onF_last {κ : Nat} : ∀ (es : List Eff) (f : Nat → Bool) (st X : St) (i : Nat) (e : Eff), es[i]? = some e → f i = true → κ ∈ e.writes → (∀ (j : Nat) (e' : Eff), i < j → es[j]? = some e' → f j = true → κ ∉ e'.writes) → (onF f es st).look κ = (e.on X).look κ
  | [], _, _, _, _, _, h, _, _, _ => by simp at h
  | e0 :: r, f, st, X, 0, e, h, hf, hw, hl => by
    simp only [List.getElem?_cons_zero, Option.some.injEq] at h
    subst h
    simp only [onF, hf, if_true]
    have := onF_same (κ := κ) r (fun j => f (j + 1)) (fun _ => false) (e0.on st) (e0.on X) (fun j e' he => by
      cases hb : f (j + 1)
      · exact .inl rfl
      · exact .inr (hl (j + 1) e' (by omega) (by simpa using he) hb)) (Eff.on_look_eq (.inl hw))
    rw [this]
    exact onF_none r _
  | e0 :: r, f, st, X, i + 1, e, h, hf, hw, hl => by
    simp only [onF]
    exact onF_last r _ _ X i e (by simpa using h) hf hw (fun j e' hj he hb => hl (j + 1) e' (by omega) (by simpa using he) hb)
 where onF_none {κ : Nat} : ∀ (es : List Eff) (st : St), (onF (fun _ => false) es st).look κ = st.look κ
  | [], _ => rfl
  | e :: r, st => by simp only [onF]; exact onF_none r st
theorem onF_false : ∀ (es : List Eff) (st : St), onF (fun _ => false) es st = st
  | [], _ => rfl
  | e :: r, st => by simp only [onF]; exact onF_false r st
def Eff.ment (n : Nat) (e : Eff) : Bool := e.val.toList.any (fun p => AV.ment n p.2) || (e.nb.any (fun p => p.1 == n || p.2.ment n) || e.nt.any (fun p => p.1 == n))
theorem fresh_on {n : Nat} {e : Eff} {st : St} (h : st.fresh n = true) (he : e.ment n = false) : (e.on st).fresh n = true := by
  simp only [St.fresh, Bool.and_eq_true, List.all_eq_true] at h ⊢
  simp only [Eff.ment, Bool.or_eq_false_iff, List.any_eq_false] at he
  obtain ⟨⟨h1, h2⟩, h3⟩ := h
  obtain ⟨e1, e2, e3⟩ := he
  refine ⟨⟨fun p hp => ?_, fun p hp => ?_⟩, fun p hp => ?_⟩
  · simp only [Eff.on, List.mem_append] at hp
    rcases hp with hp | hp
    · simpa using e1 p hp
    · exact h1 p hp
  · simp only [Eff.on, List.mem_append] at hp
    rcases hp with hp | hp
    · have := e2 p hp
      simp only [Bool.or_eq_true, not_or, Bool.not_eq_true] at this
      simp [bne, this.1, this.2]
    · exact h2 p hp
  · simp only [Eff.on, List.mem_append] at hp
    rcases hp with hp | hp
    · have := e3 p hp
      simp only [Bool.not_eq_true] at this
      simp [bne, this]
    · exact h3 p (delT_mem _ _ hp)
theorem fresh_onF {n : Nat} : ∀ (es : List Eff) (f : Nat → Bool) (st : St), st.fresh n = true → (∀ (i : Nat) (e : Eff), es[i]? = some e → f i = true → e.ment n = false) → (onF f es st).fresh n = true
  | [], _, _, h, _ => h
  | e :: r, f, st, h, he => by
    simp only [onF]
    refine fresh_onF r _ _ ?_ (fun i e' h1 h2 => he (i + 1) e' (by simpa using h1) h2)
    cases hf : f 0
    · simpa using h
    · simpa using fresh_on h (he 0 e rfl hf)
def dirs (ops : Array Oper) : List (List Nat) := ops.toList.map fun o => (o.after.toList.filter (Region.binds .any)).map (·.on)
def masks : List (List Nat) → List Nat → List Nat
  | [], acc => acc
  | d :: r, acc => masks r (acc ++ [d.foldl (fun m j => m ||| (acc.getD j 0 ||| 1 <<< j)) 0])
theorem bits_foldl {S : Nat → Prop} (g : Nat → Nat) (hg : ∀ j, S j → ∀ x, (g j).testBit x = true → S x) : ∀ (d : List Nat) (m : Nat), (∀ j ∈ d, S j) → (∀ x, m.testBit x = true → S x) → ∀ x, (d.foldl (fun m j => m ||| (g j ||| 1 <<< j)) m).testBit x = true → S x
  | [], m, _, hm, x, h => hm x h
  | j :: d, m, hd, hm, x, h => by
    refine bits_foldl g hg d _ (fun k hk => hd k (List.mem_cons_of_mem _ hk)) (fun y hy => ?_) x h
    simp only [Nat.testBit_or, Bool.or_eq_true] at hy
    rcases hy with hy | hy | hy
    · exact hm y hy
    · exact hg j (hd j List.mem_cons_self) y hy
    · have : y = j := by
        rw [Nat.one_shiftLeft, Nat.testBit_two_pow] at hy
        simpa [eq_comm] using hy
      subst this; exact hd y List.mem_cons_self
theorem masks_closed {S : Nat → Prop} {ds : List (List Nat)} : ∀ (r : List (List Nat)) (pre : List (List Nat)) (acc : List Nat), ds = pre ++ r → acc.length = pre.length →
    (∀ (i : Nat) (d : List Nat), ds[i]? = some d → S i → ∀ j ∈ d, S j) →
    (∀ i, (∀ (d : List Nat), ds[i]? = some d → ∀ j ∈ d, S j) → ∀ x, (acc.getD i 0).testBit x = true → S x) →
    ∀ i, (∀ (d : List Nat), ds[i]? = some d → ∀ j ∈ d, S j) → ∀ x, ((masks r acc).getD i 0).testBit x = true → S x
  | [], pre, acc, _, _, _, h => h
  | d :: r, pre, acc, hds, hl, hS, h => by
    refine masks_closed r (pre ++ [d]) _ (by simp [hds]) (by simp [hl]) hS (fun i hi x hx => ?_)
    rcases Nat.lt_trichotomy i acc.length with hlt | heq | hgt
    · refine h i hi x ?_
      simpa [List.getD_eq_getElem?_getD, List.getElem?_append, hlt] using hx
    · have hdi : ds[i]? = some d := by rw [hds, heq, hl]; simp
      have hd := hi d hdi
      have hx' : ((d.foldl (fun m j => m ||| (acc.getD j 0 ||| 1 <<< j)) 0)).testBit x = true := by
        rw [heq] at hx
        simpa [List.getD_eq_getElem?_getD, List.getElem?_append] using hx
      exact bits_foldl (fun j => acc.getD j 0) (fun j hj y hy => h j (fun d' hd' => hS j d' hd' hj) y hy) d 0 hd (fun y hy => by simp at hy) x hx'
    · exfalso
      have : ¬ i < acc.length := by omega
      have h2 : i - acc.length ≠ 0 := by omega
      obtain ⟨k, hk⟩ : ∃ k, i - acc.length = k + 1 := ⟨i - acc.length - 1, by omega⟩
      simp [List.getD_eq_getElem?_getD, List.getElem?_append, this, hk] at hx
def clash (l m : List Nat) : Bool := l.any fun x => m.contains x
theorem clash_not {l m : List Nat} (h : clash l m = false) {x : Nat} (hl : x ∈ l) (hm : x ∈ m) : False := by
  simp only [clash, List.any_eq_false] at h
  exact h x hl (by simpa using hm)
structure Row where
  ws : List Nat
  ls : List Nat
  ms : Nat
  e : Eff
def rowsOf (ops : Array Oper) (es : List Eff) : List Row :=
  (((ops.toList.zip es).zip (masks (dirs ops) [])).map fun p => ⟨p.1.2.writes, slotsOf p.1.1 ops ++ (p.1.2.reads ++ p.1.2.writes), p.2, p.1.2⟩)
def pairOk (j : Nat) (x y : Row) : Bool :=
  (y.ms.testBit j || (!(clash x.ws y.ls) && !(clash y.ws x.ls) && x.e.fs.all (fun n => !(y.e.ment n)))) && y.e.fs.all (fun n => !(x.e.ment n))
def ordGo : List Row → List (Nat × Row) → Bool
  | [], _ => true
  | y :: r, acc => acc.all (fun p => pairOk p.1 p.2 y) && ordGo r ((acc.length, y) :: acc)
def backOk : Nat → List (List Nat) → Bool
  | _, [] => true
  | i, d :: r => d.all (fun j => Nat.blt j i) && backOk (i + 1) r
def ordOk (ops : Array Oper) (es : List Eff) (st0 : St) : Bool :=
  backOk 0 (dirs ops) && (ordGo (rowsOf ops es) [] && es.all (fun e => e.fs.all (fun n => st0.fresh n)))
theorem ordGo_get : ∀ (r pre : List Row) (acc : List (Nat × Row)), acc.length = pre.length → (∀ (j : Nat) (x : Row), pre[j]? = some x → (j, x) ∈ acc) → ordGo r acc = true →
    ∀ (i j : Nat) (x y : Row), j < i → pre.length ≤ i → (pre ++ r)[j]? = some x → (pre ++ r)[i]? = some y → pairOk j x y = true
  | [], pre, acc, _, _, _, i, j, x, y, _, hi, _, hy => by
    rw [List.append_nil] at hy
    have := (List.getElem?_eq_some_iff.1 hy).1
    omega
  | z :: r, pre, acc, hl, hacc, h, i, j, x, y, hji, hi, hx, hy => by
    simp only [ordGo, Bool.and_eq_true, List.all_eq_true] at h
    by_cases he : i = pre.length
    · subst he
      have hyz : y = z := by simpa using hy.symm
      subst hyz
      have hx' : pre[j]? = some x := by rw [List.getElem?_append_left hji] at hx; exact hx
      exact h.1 (j, x) (hacc j x hx')
    · refine ordGo_get r (pre ++ [z]) _ (by simp [hl]) (fun k u hu => ?_) h.2 i j x y hji (by simp; omega) (by simpa using hx) (by simpa using hy)
      by_cases hk : k < pre.length
      · rw [List.getElem?_append_left hk] at hu
        exact List.mem_cons_of_mem _ (hacc k u hu)
      · have : k = pre.length := by
          have := (List.getElem?_eq_some_iff.1 hu).1
          simp at this; omega
        subst this
        simp at hu; subst hu; rw [hl]; exact List.mem_cons_self
theorem masks_length : ∀ (r : List (List Nat)) (acc : List Nat), (masks r acc).length = acc.length + r.length
  | [], acc => rfl
  | d :: r, acc => by rw [masks, masks_length r]; simp; omega
theorem backOk_get : ∀ (ds : List (List Nat)) (k : Nat), backOk k ds = true → ∀ (i : Nat) (d : List Nat), ds[i]? = some d → ∀ j ∈ d, j < k + i
  | [], k, _, i, d, h, _, _ => by simp at h
  | d0 :: r, k, h, i, d, hd, j, hj => by
    simp only [backOk, Bool.and_eq_true, List.all_eq_true] at h
    cases i with
    | zero => simp at hd; subst hd; exact Nat.le_of_ble_eq_true (h.1 j hj)
    | succ i => have := backOk_get r (k + 1) h.2 i d (by simpa using hd) j hj; omega
structure Agr (ops : Array Oper) (o : Oper) (e : Eff) (st st' : St) : Prop where
  ev : ∀ x ∈ o.op.operands, st'.ev x = st.ev x
  gd : ∀ (j s : Nat) (b : Bool), o.guard = some (j, b) → (ops[j]?).bind (·.dst) = some s → st'.ev (.tmp s) = st.ev (.tmp s)
  bx : ∀ id ∈ e.tb, st'.bx.lookup id = st.bx.lookup id
  tk : ∀ id ∈ e.tt, st'.tk.lookup id = st.tk.lookup id
  fs : ∀ n ∈ e.fs, st'.fresh n = true
theorem ev_look {st st' : St} {t : Nat} (h : st'.look (3 * t) = st.look (3 * t)) : st'.ev (.tmp t) = st.ev (.tmp t) := by
  rw [St.look0, St.look0] at h
  have h' : st'.fr.lookup t = st.fr.lookup t := Option.map_injective (fun _ _ h => by injection h) h
  simp only [St.ev, h']
theorem Agr.of_look {ops : Array Oper} {o : Oper} {e : Eff} {st st' : St} (h : ∀ κ ∈ slotsOf o ops ++ e.reads, st'.look κ = st.look κ) (hf : ∀ n ∈ e.fs, st'.fresh n = true) : Agr ops o e st st' where
  ev x hx := by
    cases x with
    | tmp t =>
      refine ev_look (h _ (List.mem_append_left _ (List.mem_append_left _ ?_)))
      exact List.mem_filterMap.2 ⟨.tmp t, by simpa using hx, rfl⟩
    | const v => rfl
    | func f => rfl
    | global g => rfl
  gd j s b hg hj := by
    refine ev_look (h _ (List.mem_append_left _ (List.mem_append_right _ ?_)))
    simp [hg, hj]
  bx id hid := by
    have := h (3 * id + 1) (List.mem_append_right _ (List.mem_append_left _ (List.mem_map.2 ⟨id, hid, rfl⟩)))
    rw [St.look1, St.look1] at this
    exact Option.map_injective (fun _ _ h => by simpa using h) this
  tk id hid := by
    have := h (3 * id + 2) (List.mem_append_right _ (List.mem_append_right _ (List.mem_map.2 ⟨id, hid, rfl⟩)))
    rw [St.look2, St.look2] at this
    exact Option.map_injective (fun _ _ h => by simpa using h) this
  fs := hf
def LV (P : Program) (c : Ctx) (ops : Array Oper) (st : St) (o : Oper) (e : Eff) : Prop :=
  ∀ st', Agr ops o e st st' → ∀ Q : Exit → Act → World → Prop, L c (e.on st') (Q .normal) → L c st' (wpList P ops Q [o])
def swapN (K : Act → World → Prop) (Q : Exit → Act → World → Prop) : Exit → Act → World → Prop
  | .normal => K
  | x => Q x
theorem wpOp_of_list {P : Program} {ops : Array Oper} {Q : Exit → Act → World → Prop} {K : Act → World → Prop} {i : Nat} {o : Oper} {a : Act} {w : World} (ho : ops[i]? = some o) (h : wpList P ops (swapN K Q) [o] a w) : wpOp P ops Q i K a w := by
  unfold wpList at h
  unfold wpOp
  simp only [ho]
  have hl : LetsOut (swapN K Q) = LetsOut Q := rfl
  split
  · rename_i hw
    rw [if_pos hw] at h
    rw [hl] at h
    refine h.imp (fun h => ?_) id
    unfold Oper.wp at h ⊢
    have hK : wpList P ops (swapN K Q) [] = K := rfl
    rw [hK] at h
    generalize (execOp a.eval o).run P w = r at h ⊢
    cases r with
    | ok n w' => cases n <;> exact h
    | halt x w' => cases x <;> exact h
  · rename_i hw
    rw [if_neg hw] at h
    exact h
inductive Chain (P : Program) (c : Ctx) (ops : Array Oper) : St → List Oper → List Eff → Prop
  | nil {st : St} : Chain P c ops st [] []
  | cons {st : St} {o : Oper} {e : Eff} {l : List Oper} {es : List Eff} (h : LV P c ops st o e) (t : Chain P c ops (e.on st) l es) : Chain P c ops st (o :: l) (e :: es)
theorem Chain.length {P : Program} {c : Ctx} {ops : Array Oper} {st : St} {l : List Oper} {es : List Eff} (h : Chain P c ops st l es) : es.length = l.length := by
  induction h with
  | nil => rfl
  | cons _ _ ih => simp [ih]
theorem Chain.get {P : Program} {c : Ctx} {ops : Array Oper} {st : St} {l : List Oper} {es : List Eff} (h : Chain P c ops st l es) :
    ∀ (i : Nat) (o : Oper) (e : Eff), l[i]? = some o → es[i]? = some e → LV P c ops (onF (fun j => decide (j < i)) es st) o e := by
  induction h with
  | nil => intro i o e h; simp at h
  | @cons st o0 e0 l es h0 _ ih =>
    intro i o e ho he
    cases i with
    | zero =>
      simp at ho he; subst ho; subst he
      have : (fun j : Nat => decide (j < 0)) = fun _ => false := by funext j; simp
      rw [this, onF_false]; exact h0
    | succ i =>
      have := ih i o e (by simpa using ho) (by simpa using he)
      simpa [onF] using this
def left (f : Nat → Bool) (n : Nat) : Nat := (List.range n).countP fun i => !f i
theorem left_zero {f : Nat → Bool} {n : Nat} (h : left f n = 0) : ∀ i, i < n → f i = true := fun i hi => by
  have := List.countP_eq_zero.1 h i (List.mem_range.2 hi)
  simpa using this
theorem left_set {f g : Nat → Bool} {n i : Nat} (hi : i < n) (hf : f i = false) (hg : ∀ j, g j = if j = i then true else f j) : left f n = left g n + 1 := by
  unfold left
  induction n with
  | zero => omega
  | succ n ih =>
    simp only [List.range_succ, List.countP_append]
    by_cases e : i = n
    · subst e
      have : (List.range i).countP (fun j => !f j) = (List.range i).countP (fun j => !g j) := by
        refine List.countP_congr (fun j hj => ?_)
        have : j ≠ i := by have := List.mem_range.1 hj; omega
        simp [hg, this]
      rw [this]
      simp [hf, hg]
    · have := ih (by omega)
      have hn : n ≠ i := fun h => e h.symm
      rw [this]
      simp [hg, hn]
      omega
theorem dirs_get {ops : Array Oper} {i : Nat} {o : Oper} (h : ops[i]? = some o) : (dirs ops)[i]? = some ((o.after.toList.filter (Region.binds .any)).map (·.on)) := by
  simp [dirs, h]
theorem getD_true {listed : Array Bool} {i : Nat} (h : i < listed.size) : listed.getD i true = listed.getD i false := by
  simp [h]
theorem rows_get {ops : Array Oper} {es : List Eff} (hl : es.length = ops.size) {i : Nat} {o : Oper} {e : Eff} (ho : ops[i]? = some o) (he : es[i]? = some e) :
    (rowsOf ops es)[i]? = some ⟨e.writes, slotsOf o ops ++ (e.reads ++ e.writes), (masks (dirs ops) []).getD i 0, e⟩ := by
  have hi : i < ops.size := (Array.getElem?_eq_some_iff.1 ho).1
  have hm : i < (masks (dirs ops) []).length := by rw [masks_length]; simp [dirs]; exact hi
  have ho' : ops.toList[i]? = some o := by simpa using ho
  simp only [rowsOf, List.getElem?_map]
  have : ((ops.toList.zip es).zip (masks (dirs ops) []))[i]? = some ((o, e), (masks (dirs ops) [])[i]) :=
    List.getElem?_zip_eq_some.2 ⟨List.getElem?_zip_eq_some.2 ⟨ho', he⟩, List.getElem?_eq_getElem hm⟩
  rw [this]
  simp [List.getD_eq_getElem?_getD, List.getElem?_eq_getElem hm]
theorem any_main {P : Program} {c : Ctx} {ops : Array Oper} {Q : Exit → Act → World → Prop} {st0 : St} {es : List Eff} (hch : Chain P c ops st0 ops.toList es) (hok : ordOk ops es st0 = true)
    (hQ : L c (onF (fun _ => true) es st0) (Q .normal)) :
    ∀ (fuel : Nat) (listed : Array Bool), listed.size = ops.size → left (fun i => listed.getD i false) ops.size ≤ fuel →
      (∀ i, listed.getD i false = true → ∀ d, (dirs ops)[i]? = some d → ∀ j ∈ d, listed.getD j false = true) →
      ∀ a w, R c (onF (fun i => listed.getD i false) es st0) a w → wpAny P .any ops Q fuel listed a w := by
  have hlen : es.length = ops.size := by rw [hch.length]; simp
  simp only [ordOk, Bool.and_eq_true, List.all_eq_true] at hok
  obtain ⟨hback, hord, hfb⟩ := hok
  have hback := backOk_get (dirs ops) 0 hback
  have hpair : ∀ (i j : Nat) (o o' : Oper) (e e' : Eff), j < i → ops[j]? = some o → es[j]? = some e → ops[i]? = some o' → es[i]? = some e' →
      (((masks (dirs ops) []).getD i 0).testBit j = true ∨ (clash e.writes (slotsOf o' ops ++ (e'.reads ++ e'.writes)) = false ∧ clash e'.writes (slotsOf o ops ++ (e.reads ++ e.writes)) = false ∧ ∀ n ∈ e.fs, e'.ment n = false)) ∧ ∀ n ∈ e'.fs, e.ment n = false := by
    intro i j o o' e e' hji ho he ho' he'
    have := ordGo_get (rowsOf ops es) [] [] rfl (fun j x h => by simp at h) hord i j _ _ hji (Nat.zero_le _) (by simpa using rows_get hlen ho he) (by simpa using rows_get hlen ho' he')
    simp only [pairOk, Bool.and_eq_true, Bool.or_eq_true, Bool.not_eq_true', List.all_eq_true] at this
    obtain ⟨h1, h2⟩ := this
    exact ⟨h1.imp id (fun h => ⟨h.1.1, h.1.2, h.2⟩), h2⟩
  have hopsget : ∀ i, i < ops.size → ∃ o e, ops[i]? = some o ∧ es[i]? = some e := fun i hi => ⟨_, _, Array.getElem?_eq_getElem hi, List.getElem?_eq_getElem (by rw [hlen]; exact hi)⟩
  intro fuel
  induction fuel with
  | zero =>
    intro listed hsz hleft hcl a w hr
    have hall := left_zero (Nat.le_zero.1 hleft)
    have hr0 : Region.ready .any ops listed = [] := by
      refine List.eq_nil_iff_forall_not_mem.2 (fun i hi => ?_)
      rw [mem_ready] at hi
      obtain ⟨h0, o, ho, _⟩ := hi
      have hlt : i < ops.size := (Array.getElem?_eq_some_iff.1 ho).1
      rw [getD_true (by omega)] at h0
      have := hall i hlt
      rw [h0] at this; cases this
    refine ⟨hr0, hQ a w (hr.look (fun κ => onF_same es _ _ _ _ (fun i e he => .inl ?_) rfl))⟩
    have hlt : i < ops.size := by rw [← hlen]; exact (List.getElem?_eq_some_iff.1 he).1
    exact (hall i hlt).symm
  | succ fuel ih =>
    intro listed hsz hleft hcl a w hr
    refine ⟨fun hr0 => ?_, fun i hi => ?_⟩
    · have hall : ∀ i, i < ops.size → listed.getD i false = true := by
        intro i
        induction i using Nat.strongRecOn with
        | _ i ihi =>
          intro hlt
          cases hb : listed.getD i false
          · exfalso
            obtain ⟨o, e, ho, he⟩ := hopsget i hlt
            have : i ∈ Region.ready .any ops listed := by
              rw [mem_ready]
              refine ⟨by rw [getD_true (by omega)]; exact hb, o, ho, fun x hx hbx => ?_⟩
              have hxd : x.on ∈ (o.after.toList.filter (Region.binds .any)).map (·.on) := List.mem_map.2 ⟨x, List.mem_filter.2 ⟨by simpa using hx, hbx⟩, rfl⟩
              have hlt' := hback i _ (dirs_get ho) _ hxd
              exact ihi x.on (by omega) (by omega)
            rw [hr0] at this; simp at this
          · rfl
      refine hQ a w (hr.look (fun κ => onF_same es _ _ _ _ (fun i e he => .inl ?_) rfl))
      have hlt : i < ops.size := by rw [← hlen]; exact (List.getElem?_eq_some_iff.1 he).1
      exact (hall i hlt).symm
    · rw [mem_ready] at hi
      obtain ⟨h0, o, ho, hdir⟩ := hi
      have hlt : i < ops.size := (Array.getElem?_eq_some_iff.1 ho).1
      rw [getD_true (by omega)] at h0
      obtain ⟨o', e, ho', he⟩ := hopsget i hlt
      obtain rfl : o' = o := by rw [ho] at ho'; cases ho'; rfl
      have hdi : ∀ d, (dirs ops)[i]? = some d → ∀ j ∈ d, listed.getD j false = true := by
        intro d hd j hj
        rw [dirs_get ho] at hd
        cases hd
        obtain ⟨x, hx, rfl⟩ := List.mem_map.1 hj
        obtain ⟨hx1, hx2⟩ := List.mem_filter.1 hx
        exact hdir x (by simpa using hx1) hx2
      have hmask : ∀ k, (∀ d, (dirs ops)[k]? = some d → ∀ j ∈ d, listed.getD j false = true) → ∀ x, ((masks (dirs ops) []).getD k 0).testBit x = true → listed.getD x false = true :=
        masks_closed (S := fun j => listed.getD j false = true) (dirs ops) [] [] rfl rfl (fun k d hd hk j hj => hcl k hk d hd j hj) (fun k _ x hx => by simp at hx)
      -- later ones that are done are apart from i
      have hlate : ∀ (j : Nat) (ej : Eff), i < j → es[j]? = some ej → listed.getD j false = true → clash ej.writes (slotsOf o' ops ++ (e.reads ++ e.writes)) = false ∧ ∀ n ∈ e.fs, ej.ment n = false := by
        intro j ej hij hej hj
        have hjl : j < ops.size := by rw [← hlen]; exact (List.getElem?_eq_some_iff.1 hej).1
        obtain ⟨oj, _, hoj, _⟩ := hopsget j hjl
        rcases (hpair j i o' oj e ej hij ho he hoj hej).1 with h | h
        · have := hmask j (fun d hd => hcl j hj d hd) i h
          rw [h0] at this; cases this
        · exact ⟨h.2.1, h.2.2⟩
      have hearly : ∀ (j : Nat) (ej : Eff), j < i → es[j]? = some ej → listed.getD j false = false → clash ej.writes (slotsOf o' ops ++ (e.reads ++ e.writes)) = false := by
        intro j ej hji hej hj
        have hjl : j < ops.size := by omega
        obtain ⟨oj, _, hoj, _⟩ := hopsget j hjl
        rcases (hpair i j oj o' ej e hji hoj hej ho he).1 with h | h
        · have := hmask i hdi j h
          rw [hj] at this; cases this
        · exact h.1
      have hag : Agr ops o' e (onF (fun j => decide (j < i)) es st0) (onF (fun i => listed.getD i false) es st0) := by
        refine Agr.of_look (fun κ hκ => ?_) (fun n hn => ?_)
        · have hmem : κ ∈ slotsOf o' ops ++ (e.reads ++ e.writes) := by
            rcases List.mem_append.1 hκ with h | h
            · exact List.mem_append_left _ h
            · exact List.mem_append_right _ (List.mem_append_left _ h)
          refine onF_same es _ _ _ _ (fun j ej hej => ?_) rfl
          rcases Nat.lt_trichotomy j i with hji | rfl | hij
          · cases hb : listed.getD j false
            · exact .inr (fun hw => clash_not (hearly j ej hji hej hb) hw hmem)
            · exact .inl (by simp [hji])
          · exact .inl (by simp [h0])
          · cases hb : listed.getD j false
            · exact .inl (by simp; omega)
            · exact .inr (fun hw => clash_not (hlate j ej hij hej hb).1 hw hmem)
        · refine fresh_onF es _ st0 (hfb e (List.mem_of_getElem? he) n hn) (fun j ej hej hj => ?_)
          rcases Nat.lt_trichotomy j i with hji | rfl | hij
          · have hjl : j < ops.size := by omega
            obtain ⟨oj, _, hoj, _⟩ := hopsget j hjl
            exact (hpair i j oj o' ej e hji hoj hej ho he).2 n hn
          · rw [h0] at hj; cases hj
          · exact (hlate j ej hij hej hj).2 n hn
      refine wpOp_of_list ho (hch.get i o' e (by simpa using ho) he _ hag (swapN _ Q) (fun a' w' hr' => ?_) a w hr)
      have hset : ∀ j, (listed.setIfInBounds i true).getD j false = if j = i then true else listed.getD j false := by
        intro j
        by_cases hji : j = i
        · subst hji; simp [hsz, hlt]
        · have : i ≠ j := fun h => hji h.symm
          simp only [hji, if_false]; exact getD_set_ne false this
      refine ih _ (by simpa using hsz) ?_ ?_ a' w' (hr'.look (fun κ => ?_))
      · have := left_set (f := fun i => listed.getD i false) (g := fun j => (listed.setIfInBounds i true).getD j false) (n := ops.size) hlt h0 hset
        omega
      · intro k hk d hd j hj
        simp only [hset] at hk ⊢
        by_cases hji : j = i
        · simp [hji]
        · simp only [hji, if_false]
          by_cases hki : k = i
          · subst hki; exact hdi d hd j hj
          · simp only [hki, if_false] at hk; exact hcl k hk d hd j hj
      · by_cases hw : κ ∈ e.writes
        · refine onF_last es _ st0 _ i e he (by simp only [hset]; simp) hw (fun j ej hij hej hj hwj => ?_)
          simp only [hset] at hj
          have hne : j ≠ i := by omega
          simp only [hne, if_false] at hj
          exact clash_not (hlate j ej hij hej hj).1 hwj (List.mem_append_right _ (List.mem_append_right _ hw))
        · rw [Eff.on_look_ne hw]
          refine onF_same es _ _ _ _ (fun j ej hej => ?_) rfl
          by_cases hji : j = i
          · subst hji; rw [he] at hej; cases hej; exact .inr hw
          · exact .inl (by simp only [hset, hji, if_false])
def DR (P : Program) (c : Ctx) (ops : Array Oper) (Q : Exit → Act → World → Prop) (st0 : St) (done : List Eff) (st : St) (l : List Oper) : Prop :=
  ∃ es : List Eff, Chain P c ops st l es ∧ ordOk ops (done.reverse ++ es) st0 = true ∧ L c (onF (fun _ => true) es st) (Q .normal)
section
variable {P : Program} {c : Ctx} {ops : Array Oper} {Q : Exit → Act → World → Prop} {st0 st : St} {done : List Eff} {rest : List Oper} {o : Oper}
theorem DR.nil (hok : ordOk ops done.reverse st0 = true) (h : L c st (Q .normal)) : DR P c ops Q st0 done st [] := ⟨[], .nil, by simpa using hok, h⟩
theorem DR.cons {e : Eff} (hv : LV P c ops st o e) (h : DR P c ops Q st0 (e :: done) (e.on st) rest) : DR P c ops Q st0 done st (o :: rest) := by
  obtain ⟨es, hc, hok, hl⟩ := h
  exact ⟨e :: es, .cons hv hc, by simpa using hok, hl⟩
theorem DR.region (hm : P.follows .mixedOrders = true) {id : Nat} {l : List Oper} (h : DR P c l.toArray Q st [] st l) : L c st ((Code.region id l.toArray true).wp P Q) := by
  obtain ⟨es, hc, hok, hl⟩ := h
  intro a w hr
  have hc' : Chain P c l.toArray st l.toArray.toList es := by simpa using hc
  have hfalse : (fun i => (Array.replicate l.toArray.size false).getD i false) = fun _ => false := by
    funext i
    simp only [Array.getD_eq_getD_getElem?, Array.getElem?_replicate]
    split <;> rfl
  refine wp_region_any hm (any_main hc' (by simpa using hok) hl _ _ (by simp) ?_ ?_ a _ ?_)
  · rw [hfalse]; exact Nat.le_trans List.countP_le_length (by simp)
  · intro i hi
    have := congrFun hfalse i
    rw [this] at hi; cases hi
  · rw [hfalse, onF_false]; exact hr.drew _
theorem DR.of_plain {dst : Option Tmp} {op : Op} {ty : TypeId} {pos : String} {aft : Array Edge} {g : Option (Nat × Bool)} (hl : ∀ e, LV P c ops st ⟨dst, op, ty, pos, aft, none⟩ e → LV P c ops st ⟨dst, op, ty, pos, aft, g⟩ e)
    (h : DR P c ops Q st0 done st (⟨dst, op, ty, pos, aft, none⟩ :: rest)) : DR P c ops Q st0 done st (⟨dst, op, ty, pos, aft, g⟩ :: rest) := by
  obtain ⟨es, hc, hok, hL⟩ := h
  cases hc with
  | cons hv t => exact ⟨_, .cons (hl _ hv) t, hok, hL⟩
end
attribute [irreducible] DR
end Go.Abs
/- A logic of abstract states, part 13: the rules of part 11 for a region whose order is open (by program off part 11). Conditions: each rule's own premises; over any program. -/
namespace Go.Abs
set_option linter.unusedVariables false
set_option linter.unusedSimpArgs false
theorem LW.out {P : Program} {c : Ctx} {st : St} {ops : Array Oper} {Q : Exit → Act → World → Prop} {l : List Oper} (h : LW P c st ops Q l) : L c st (wpList P ops Q l) := by unfold LW at h; exact h
section
variable {P : Program} {c : Ctx} {fr : List (Nat × AV)} {bx : List (Nat × Box)} {tk : List (Nat × Tok)} {ops : Array Oper} {Q : Exit → Act → World → Prop} {rest : List Oper}
  {d : Nat} {ty : TypeId} {pos : String} {aft : Array Edge} {st0 : St} {done : List Eff}
theorem LW.is {P : Program} {c : Ctx} {st : St} {ops : Array Oper} {Q : Exit → Act → World → Prop} {l : List Oper} (h : LW P c st ops Q l) : LW P c st ops Q l := h
theorem DR.is {P : Program} {c : Ctx} {st0 st : St} {done : List Eff} {ops : Array Oper} {Q : Exit → Act → World → Prop} {l : List Oper} (h : DR P c ops Q st0 done st l) : DR P c ops Q st0 done st l := h
theorem agP {o : Oper} {e : Eff} {st st' : St} (hag : Agr ops o e st st') {parts : Array (Nat × Operand)} (h : ∀ x ∈ parts, x.2 ∈ o.op.operands) :
    (parts.toList.map fun x => (x.1, st'.ev x.2)) = parts.toList.map fun x => (x.1, st.ev x.2) :=
  List.map_congr_left fun x hx => by rw [hag.ev x.2 (h x (by simpa using hx))]
theorem agL {o : Oper} {e : Eff} {st st' : St} (hag : Agr ops o e st st') {args : Array Operand} (h : ∀ x ∈ args, x ∈ o.op.operands) :
    (args.toList.map st'.ev) = args.toList.map st.ev :=
  List.map_congr_left fun x hx => hag.ev x (h x (by simpa using hx))
theorem d_mvIv {x : Operand} {y : IV} (hlt : Nat.ble (d + 1) c.nt = true) (hx : St.ev ⟨fr, bx, tk⟩ x = .iv y)
    (h : DR P c ops Q st0 (⟨some (d, .iv y), [], [], [], [], [], []⟩ :: done) ⟨(d, .iv y) :: fr, bx, tk⟩ rest) : DR P c ops Q st0 done ⟨fr, bx, tk⟩ (⟨some d, .move x, ty, pos, aft, none⟩ :: rest) :=
  DR.cons (e := ⟨some (d, .iv y), [], [], [], [], [], []⟩) (fun st' hag Q' hL => LW.out (s_mvIv (fr := st'.fr) (bx := st'.bx) (tk := st'.tk) hlt ((hag.ev x (by simp [Op.operands, Call.operands])).trans hx) (s_nil hL))) h
theorem d_mvRow {x : Operand} {id : Nat} {es : List (List IV)} (hlt : Nat.ble (d + 1) c.nt = true) (hx : St.ev ⟨fr, bx, tk⟩ x = .row id es)
    (h : DR P c ops Q st0 (⟨some (d, .row id es), [], [], [], [], [], []⟩ :: done) ⟨(d, .row id es) :: fr, bx, tk⟩ rest) : DR P c ops Q st0 done ⟨fr, bx, tk⟩ (⟨some d, .move x, ty, pos, aft, none⟩ :: rest) :=
  DR.cons (e := ⟨some (d, .row id es), [], [], [], [], [], []⟩) (fun st' hag Q' hL => LW.out (s_mvRow (fr := st'.fr) (bx := st'.bx) (tk := st'.tk) hlt ((hag.ev x (by simp [Op.operands, Call.operands])).trans hx) (s_nil hL))) h
theorem d_mvPtr {x : Operand} {id off : Nat} (hlt : Nat.ble (d + 1) c.nt = true) (hx : St.ev ⟨fr, bx, tk⟩ x = .ptr id off)
    (h : DR P c ops Q st0 (⟨some (d, .ptr id off), [], [], [], [], [], []⟩ :: done) ⟨(d, .ptr id off) :: fr, bx, tk⟩ rest) : DR P c ops Q st0 done ⟨fr, bx, tk⟩ (⟨some d, .move x, ty, pos, aft, none⟩ :: rest) :=
  DR.cons (e := ⟨some (d, .ptr id off), [], [], [], [], [], []⟩) (fun st' hag Q' hL => LW.out (s_mvPtr (fr := st'.fr) (bx := st'.bx) (tk := st'.tk) hlt ((hag.ev x (by simp [Op.operands, Call.operands])).trans hx) (s_nil hL))) h
theorem d_mvTup {x : Operand} {vs : List AV} (hlt : Nat.ble (d + 1) c.nt = true) (hx : St.ev ⟨fr, bx, tk⟩ x = .tup vs)
    (h : DR P c ops Q st0 (⟨some (d, .tup vs), [], [], [], [], [], []⟩ :: done) ⟨(d, .tup vs) :: fr, bx, tk⟩ rest) : DR P c ops Q st0 done ⟨fr, bx, tk⟩ (⟨some d, .move x, ty, pos, aft, none⟩ :: rest) :=
  DR.cons (e := ⟨some (d, .tup vs), [], [], [], [], [], []⟩) (fun st' hag Q' hL => LW.out (s_mvTup (fr := st'.fr) (bx := st'.bx) (tk := st'.tk) hlt ((hag.ev x (by simp [Op.operands, Call.operands])).trans hx) (s_nil hL))) h
theorem d_asIv {x : Operand} {y : IV} (hlt : Nat.ble (d + 1) c.nt = true) (hx : St.ev ⟨fr, bx, tk⟩ x = .iv y)
    (h : DR P c ops Q st0 (⟨some (d, .iv y), [], [], [], [], [], []⟩ :: done) ⟨(d, .iv y) :: fr, bx, tk⟩ rest) : DR P c ops Q st0 done ⟨fr, bx, tk⟩ (⟨some d, .assign x, ty, pos, aft, none⟩ :: rest) :=
  DR.cons (e := ⟨some (d, .iv y), [], [], [], [], [], []⟩) (fun st' hag Q' hL => LW.out (s_asIv (fr := st'.fr) (bx := st'.bx) (tk := st'.tk) hlt ((hag.ev x (by simp [Op.operands, Call.operands])).trans hx) (s_nil hL))) h
theorem d_asRow {x : Operand} {id : Nat} {es : List (List IV)} (hlt : Nat.ble (d + 1) c.nt = true) (hx : St.ev ⟨fr, bx, tk⟩ x = .row id es)
    (h : DR P c ops Q st0 (⟨some (d, .row id es), [], [], [], [], [], []⟩ :: done) ⟨(d, .row id es) :: fr, bx, tk⟩ rest) : DR P c ops Q st0 done ⟨fr, bx, tk⟩ (⟨some d, .assign x, ty, pos, aft, none⟩ :: rest) :=
  DR.cons (e := ⟨some (d, .row id es), [], [], [], [], [], []⟩) (fun st' hag Q' hL => LW.out (s_asRow (fr := st'.fr) (bx := st'.bx) (tk := st'.tk) hlt ((hag.ev x (by simp [Op.operands, Call.operands])).trans hx) (s_nil hL))) h
theorem d_addI {x y : Operand} {t t' : TypeId} {m n : Int} (hlt : Nat.ble (d + 1) c.nt = true) (hx : St.ev ⟨fr, bx, tk⟩ x = aI m) (hy : St.ev ⟨fr, bx, tk⟩ y = aI n) (hlo : -9223372036854775808 ≤ m + n) (hhi : m + n ≤ 9223372036854775807)
    (h : DR P c ops Q st0 (⟨some (d, aI (m + n)), [], [], [], [], [], []⟩ :: done) ⟨(d, aI (m + n)) :: fr, bx, tk⟩ rest) : DR P c ops Q st0 done ⟨fr, bx, tk⟩ (⟨some d, .binOp .add t x y t', ty, pos, aft, none⟩ :: rest) :=
  DR.cons (e := ⟨some (d, aI (m + n)), [], [], [], [], [], []⟩) (fun st' hag Q' hL => LW.out (s_addI (fr := st'.fr) (bx := st'.bx) (tk := st'.tk) hlt ((hag.ev x (by simp [Op.operands, Call.operands])).trans hx) ((hag.ev y (by simp [Op.operands, Call.operands])).trans hy) hlo hhi (s_nil hL))) h
theorem d_subI {x y : Operand} {t t' : TypeId} {m n : Int} (hlt : Nat.ble (d + 1) c.nt = true) (hx : St.ev ⟨fr, bx, tk⟩ x = aI m) (hy : St.ev ⟨fr, bx, tk⟩ y = aI n) (hlo : -9223372036854775808 ≤ m - n) (hhi : m - n ≤ 9223372036854775807)
    (h : DR P c ops Q st0 (⟨some (d, aI (m - n)), [], [], [], [], [], []⟩ :: done) ⟨(d, aI (m - n)) :: fr, bx, tk⟩ rest) : DR P c ops Q st0 done ⟨fr, bx, tk⟩ (⟨some d, .binOp .sub t x y t', ty, pos, aft, none⟩ :: rest) :=
  DR.cons (e := ⟨some (d, aI (m - n)), [], [], [], [], [], []⟩) (fun st' hag Q' hL => LW.out (s_subI (fr := st'.fr) (bx := st'.bx) (tk := st'.tk) hlt ((hag.ev x (by simp [Op.operands, Call.operands])).trans hx) ((hag.ev y (by simp [Op.operands, Call.operands])).trans hy) hlo hhi (s_nil hL))) h
theorem d_neqI {x y : Operand} {t t' : TypeId} {k : IntKind} {m n : Int} (hlt : Nat.ble (d + 1) c.nt = true) (hx : St.ev ⟨fr, bx, tk⟩ x = .iv (.im (.int k m))) (hy : St.ev ⟨fr, bx, tk⟩ y = .iv (.im (.int k n)))
    (h : DR P c ops Q st0 (⟨some (d, aB (m != n)), [], [], [], [], [], []⟩ :: done) ⟨(d, aB (m != n)) :: fr, bx, tk⟩ rest) : DR P c ops Q st0 done ⟨fr, bx, tk⟩ (⟨some d, .binOp .neq t x y t', ty, pos, aft, none⟩ :: rest) :=
  DR.cons (e := ⟨some (d, aB (m != n)), [], [], [], [], [], []⟩) (fun st' hag Q' hL => LW.out (s_neqI (fr := st'.fr) (bx := st'.bx) (tk := st'.tk) hlt ((hag.ev x (by simp [Op.operands, Call.operands])).trans hx) ((hag.ev y (by simp [Op.operands, Call.operands])).trans hy) (s_nil hL))) h
theorem d_lssI {x y : Operand} {t t' : TypeId} {k : IntKind} {m n : Int} (hlt : Nat.ble (d + 1) c.nt = true) (hx : St.ev ⟨fr, bx, tk⟩ x = .iv (.im (.int k m))) (hy : St.ev ⟨fr, bx, tk⟩ y = .iv (.im (.int k n)))
    (h : DR P c ops Q st0 (⟨some (d, aB (decide (m < n))), [], [], [], [], [], []⟩ :: done) ⟨(d, aB (decide (m < n))) :: fr, bx, tk⟩ rest) : DR P c ops Q st0 done ⟨fr, bx, tk⟩ (⟨some d, .binOp .lss t x y t', ty, pos, aft, none⟩ :: rest) :=
  DR.cons (e := ⟨some (d, aB (decide (m < n))), [], [], [], [], [], []⟩) (fun st' hag Q' hL => LW.out (s_lssI (fr := st'.fr) (bx := st'.bx) (tk := st'.tk) hlt ((hag.ev x (by simp [Op.operands, Call.operands])).trans hx) ((hag.ev y (by simp [Op.operands, Call.operands])).trans hy) (s_nil hL))) h
theorem d_leqI {x y : Operand} {t t' : TypeId} {k : IntKind} {m n : Int} (hlt : Nat.ble (d + 1) c.nt = true) (hx : St.ev ⟨fr, bx, tk⟩ x = .iv (.im (.int k m))) (hy : St.ev ⟨fr, bx, tk⟩ y = .iv (.im (.int k n)))
    (h : DR P c ops Q st0 (⟨some (d, aB (decide (m ≤ n))), [], [], [], [], [], []⟩ :: done) ⟨(d, aB (decide (m ≤ n))) :: fr, bx, tk⟩ rest) : DR P c ops Q st0 done ⟨fr, bx, tk⟩ (⟨some d, .binOp .leq t x y t', ty, pos, aft, none⟩ :: rest) :=
  DR.cons (e := ⟨some (d, aB (decide (m ≤ n))), [], [], [], [], [], []⟩) (fun st' hag Q' hL => LW.out (s_leqI (fr := st'.fr) (bx := st'.bx) (tk := st'.tk) hlt ((hag.ev x (by simp [Op.operands, Call.operands])).trans hx) ((hag.ev y (by simp [Op.operands, Call.operands])).trans hy) (s_nil hL))) h
theorem d_gtrI {x y : Operand} {t t' : TypeId} {k : IntKind} {m n : Int} (hlt : Nat.ble (d + 1) c.nt = true) (hx : St.ev ⟨fr, bx, tk⟩ x = .iv (.im (.int k m))) (hy : St.ev ⟨fr, bx, tk⟩ y = .iv (.im (.int k n)))
    (h : DR P c ops Q st0 (⟨some (d, aB (decide (n < m))), [], [], [], [], [], []⟩ :: done) ⟨(d, aB (decide (n < m))) :: fr, bx, tk⟩ rest) : DR P c ops Q st0 done ⟨fr, bx, tk⟩ (⟨some d, .binOp .gtr t x y t', ty, pos, aft, none⟩ :: rest) :=
  DR.cons (e := ⟨some (d, aB (decide (n < m))), [], [], [], [], [], []⟩) (fun st' hag Q' hL => LW.out (s_gtrI (fr := st'.fr) (bx := st'.bx) (tk := st'.tk) hlt ((hag.ev x (by simp [Op.operands, Call.operands])).trans hx) ((hag.ev y (by simp [Op.operands, Call.operands])).trans hy) (s_nil hL))) h
theorem d_neqS {x y : Operand} {t t' : TypeId} {m n : List UInt8} (hlt : Nat.ble (d + 1) c.nt = true) (hx : St.ev ⟨fr, bx, tk⟩ x = aS m) (hy : St.ev ⟨fr, bx, tk⟩ y = aS n)
    (h : DR P c ops Q st0 (⟨some (d, aB (!(m == n))), [], [], [], [], [], []⟩ :: done) ⟨(d, aB (!(m == n))) :: fr, bx, tk⟩ rest) : DR P c ops Q st0 done ⟨fr, bx, tk⟩ (⟨some d, .binOp .neq t x y t', ty, pos, aft, none⟩ :: rest) :=
  DR.cons (e := ⟨some (d, aB (!(m == n))), [], [], [], [], [], []⟩) (fun st' hag Q' hL => LW.out (s_neqS (fr := st'.fr) (bx := st'.bx) (tk := st'.tk) hlt ((hag.ev x (by simp [Op.operands, Call.operands])).trans hx) ((hag.ev y (by simp [Op.operands, Call.operands])).trans hy) (s_nil hL))) h
theorem d_geqS {x y : Operand} {t t' : TypeId} {m n : List UInt8} (hlt : Nat.ble (d + 1) c.nt = true) (hx : St.ev ⟨fr, bx, tk⟩ x = aS m) (hy : St.ev ⟨fr, bx, tk⟩ y = aS n)
    (h : DR P c ops Q st0 (⟨some (d, aB (!(Op.bytesLess m n))), [], [], [], [], [], []⟩ :: done) ⟨(d, aB (!(Op.bytesLess m n))) :: fr, bx, tk⟩ rest) : DR P c ops Q st0 done ⟨fr, bx, tk⟩ (⟨some d, .binOp .geq t x y t', ty, pos, aft, none⟩ :: rest) :=
  DR.cons (e := ⟨some (d, aB (!(Op.bytesLess m n))), [], [], [], [], [], []⟩) (fun st' hag Q' hL => LW.out (s_geqS (fr := st'.fr) (bx := st'.bx) (tk := st'.tk) hlt ((hag.ev x (by simp [Op.operands, Call.operands])).trans hx) ((hag.ev y (by simp [Op.operands, Call.operands])).trans hy) (s_nil hL))) h
theorem d_addS {x y : Operand} {t t' : TypeId} {m n : List UInt8} (hlt : Nat.ble (d + 1) c.nt = true) (hx : St.ev ⟨fr, bx, tk⟩ x = aS m) (hy : St.ev ⟨fr, bx, tk⟩ y = aS n) (hl : m.length + n.length ≤ 9223372036854775807)
    (h : DR P c ops Q st0 (⟨some (d, aS (m ++ n)), [], [], [], [], [], []⟩ :: done) ⟨(d, aS (m ++ n)) :: fr, bx, tk⟩ rest) : DR P c ops Q st0 done ⟨fr, bx, tk⟩ (⟨some d, .binOp .add t x y t', ty, pos, aft, none⟩ :: rest) :=
  DR.cons (e := ⟨some (d, aS (m ++ n)), [], [], [], [], [], []⟩) (fun st' hag Q' hL => LW.out (s_addS (fr := st'.fr) (bx := st'.bx) (tk := st'.tk) hlt ((hag.ev x (by simp [Op.operands, Call.operands])).trans hx) ((hag.ev y (by simp [Op.operands, Call.operands])).trans hy) hl (s_nil hL))) h
theorem d_lenS {x : Operand} {t : TypeId} {m : List UInt8} (hlt : Nat.ble (d + 1) c.nt = true) (hx : St.ev ⟨fr, bx, tk⟩ x = aS m) [ht : StrTy P t]
    (h : DR P c ops Q st0 (⟨some (d, aI m.length), [], [], [], [], [], []⟩ :: done) ⟨(d, aI m.length) :: fr, bx, tk⟩ rest) : DR P c ops Q st0 done ⟨fr, bx, tk⟩ (⟨some d, .call { callee := .builtin .len, args := #[x], argTypes := #[t] }, ty, pos, aft, none⟩ :: rest) :=
  DR.cons (e := ⟨some (d, aI m.length), [], [], [], [], [], []⟩) (fun st' hag Q' hL => LW.out (s_lenS (fr := st'.fr) (bx := st'.bx) (tk := st'.tk) hlt ((hag.ev x (by simp [Op.operands, Call.operands])).trans hx) (s_nil hL))) h
theorem d_lenSl {x : Operand} {t e : TypeId} {k : Nat} {es : List (List IV)} (hlt : Nat.ble (d + 1) c.nt = true) (hx : (St.ev ⟨fr, bx, tk⟩ x).sl? = some es) [hs : SliceTy P t e k]
    (h : DR P c ops Q st0 (⟨some (d, aI es.length), [], [], [], [], [], []⟩ :: done) ⟨(d, aI es.length) :: fr, bx, tk⟩ rest) : DR P c ops Q st0 done ⟨fr, bx, tk⟩ (⟨some d, .call { callee := .builtin .len, args := #[x], argTypes := #[t] }, ty, pos, aft, none⟩ :: rest) :=
  DR.cons (e := ⟨some (d, aI es.length), [], [], [], [], [], []⟩) (fun st' hag Q' hL => LW.out (s_lenSl (fr := st'.fr) (bx := st'.bx) (tk := st'.tk) hlt ((congrArg AV.sl? (hag.ev x (by simp [Op.operands, Call.operands]))).trans hx) (s_nil hL))) h
theorem d_indexS {x i : Operand} {t : TypeId} {m : List UInt8} {k : IntKind} {n : Int} {b : UInt8} (hlt : Nat.ble (d + 1) c.nt = true) (hx : St.ev ⟨fr, bx, tk⟩ x = aS m) (hn : St.ev ⟨fr, bx, tk⟩ i = .iv (.im (.int k n))) [ht : StrTy P t] (h0 : 0 ≤ n) (hb : m[n.toNat]? = some b)
    (h : DR P c ops Q st0 (⟨some (d, .iv (.im (.int .u8 b.toNat))), [], [], [], [], [], []⟩ :: done) ⟨(d, .iv (.im (.int .u8 b.toNat))) :: fr, bx, tk⟩ rest) : DR P c ops Q st0 done ⟨fr, bx, tk⟩ (⟨some d, .index t x i, ty, pos, aft, none⟩ :: rest) :=
  DR.cons (e := ⟨some (d, .iv (.im (.int .u8 b.toNat))), [], [], [], [], [], []⟩) (fun st' hag Q' hL => LW.out (s_indexS (fr := st'.fr) (bx := st'.bx) (tk := st'.tk) hlt ((hag.ev x (by simp [Op.operands, Call.operands])).trans hx) ((hag.ev i (by simp [Op.operands, Call.operands])).trans hn) h0 hb (s_nil hL))) h
theorem d_fieldP {s : TypeId} {x : Operand} {f fo id off off' : Nat} (hlt : Nat.ble (d + 1) c.nt = true) (hx : St.ev ⟨fr, bx, tk⟩ x = .ptr id off) [hf : FieldTy P s f fo] (ho : off + fo = off')
    (h : DR P c ops Q st0 (⟨some (d, .ptr id off'), [], [], [], [], [], []⟩ :: done) ⟨(d, .ptr id off') :: fr, bx, tk⟩ rest) : DR P c ops Q st0 done ⟨fr, bx, tk⟩ (⟨some d, .fieldAddr s x f, ty, pos, aft, none⟩ :: rest) :=
  DR.cons (e := ⟨some (d, .ptr id off'), [], [], [], [], [], []⟩) (fun st' hag Q' hL => LW.out (s_fieldP (fr := st'.fr) (bx := st'.bx) (tk := st'.tk) hlt ((hag.ev x (by simp [Op.operands, Call.operands])).trans hx) ho (s_nil hL))) h
theorem d_fieldE {s : TypeId} {x : Operand} {f fo : Nat} {cs cs' : List IV} (hlt : Nat.ble (d + 1) c.nt = true) (hx : St.ev ⟨fr, bx, tk⟩ x = .el cs) [hf : FieldTy P s f fo] (hc : cs.drop fo = cs')
    (h : DR P c ops Q st0 (⟨some (d, .el cs'), [], [], [], [], [], []⟩ :: done) ⟨(d, .el cs') :: fr, bx, tk⟩ rest) : DR P c ops Q st0 done ⟨fr, bx, tk⟩ (⟨some d, .fieldAddr s x f, ty, pos, aft, none⟩ :: rest) :=
  DR.cons (e := ⟨some (d, .el cs'), [], [], [], [], [], []⟩) (fun st' hag Q' hL => LW.out (s_fieldE (fr := st'.fr) (bx := st'.bx) (tk := st'.tk) hlt ((hag.ev x (by simp [Op.operands, Call.operands])).trans hx) hc (s_nil hL))) h
theorem d_indexA {t e : TypeId} {x i : Operand} {k : Nat} {kd : IntKind} {n : Int} {es : List (List IV)} {cs : List IV} (hlt : Nat.ble (d + 1) c.nt = true) (hx : (St.ev ⟨fr, bx, tk⟩ x).sl? = some es) (hn : St.ev ⟨fr, bx, tk⟩ i = .iv (.im (.int kd n))) [hs : SliceTy P t e k] (h0 : 0 ≤ n) (hc : es[n.toNat]? = some cs) (hl : cs.length = k)
    (h : DR P c ops Q st0 (⟨some (d, .el cs), [], [], [], [], [], []⟩ :: done) ⟨(d, .el cs) :: fr, bx, tk⟩ rest) : DR P c ops Q st0 done ⟨fr, bx, tk⟩ (⟨some d, .indexAddr t x i, ty, pos, aft, none⟩ :: rest) :=
  DR.cons (e := ⟨some (d, .el cs), [], [], [], [], [], []⟩) (fun st' hag Q' hL => LW.out (s_indexA (fr := st'.fr) (bx := st'.bx) (tk := st'.tk) hlt ((congrArg AV.sl? (hag.ev x (by simp [Op.operands, Call.operands]))).trans hx) ((hag.ev i (by simp [Op.operands, Call.operands])).trans hn) h0 hc hl (s_nil hL))) h
theorem d_load1P {t : TypeId} {x : Operand} {id off : Nat} {b : Box} {v : AV} (hlt : Nat.ble (d + 1) c.nt = true) (hx : St.ev ⟨fr, bx, tk⟩ x = .ptr id off) [ht : VarTy P t false 1] (hb : bx.lookup id = some b) (hv : b.cs[off]? = some v)
    (h : DR P c ops Q st0 (⟨some (d, v), [], [], [], [id], [], []⟩ :: done) ⟨(d, v) :: fr, bx, tk⟩ rest) : DR P c ops Q st0 done ⟨fr, bx, tk⟩ (⟨some d, .load t x, ty, pos, aft, none⟩ :: rest) :=
  DR.cons (e := ⟨some (d, v), [], [], [], [id], [], []⟩) (fun st' hag Q' hL => LW.out (s_load1P (fr := st'.fr) (bx := st'.bx) (tk := st'.tk) hlt ((hag.ev x (by simp [Op.operands, Call.operands])).trans hx) ((hag.bx id (by simp)).trans hb) hv (s_nil hL))) h
theorem d_loadAP {t : TypeId} {x : Operand} {id off k : Nat} {b : Box} {cs : List AV} (hlt : Nat.ble (d + 1) c.nt = true) (hx : St.ev ⟨fr, bx, tk⟩ x = .ptr id off) [ht : VarTy P t true k] (hb : bx.lookup id = some b) (hc : (b.cs.drop off).take k = cs) (hk : cs.length = k)
    (h : DR P c ops Q st0 (⟨some (d, .agg cs), [], [], [], [id], [], []⟩ :: done) ⟨(d, .agg cs) :: fr, bx, tk⟩ rest) : DR P c ops Q st0 done ⟨fr, bx, tk⟩ (⟨some d, .load t x, ty, pos, aft, none⟩ :: rest) :=
  DR.cons (e := ⟨some (d, .agg cs), [], [], [], [id], [], []⟩) (fun st' hag Q' hL => LW.out (s_loadAP (fr := st'.fr) (bx := st'.bx) (tk := st'.tk) hlt ((hag.ev x (by simp [Op.operands, Call.operands])).trans hx) ((hag.bx id (by simp)).trans hb) hc hk (s_nil hL))) h
theorem d_load1E {t : TypeId} {x : Operand} {y : IV} {cs : List IV} (hlt : Nat.ble (d + 1) c.nt = true) (hx : St.ev ⟨fr, bx, tk⟩ x = .el cs) [ht : VarTy P t false 1] (hy : cs[0]? = some y)
    (h : DR P c ops Q st0 (⟨some (d, .iv y), [], [], [], [], [], []⟩ :: done) ⟨(d, .iv y) :: fr, bx, tk⟩ rest) : DR P c ops Q st0 done ⟨fr, bx, tk⟩ (⟨some d, .load t x, ty, pos, aft, none⟩ :: rest) :=
  DR.cons (e := ⟨some (d, .iv y), [], [], [], [], [], []⟩) (fun st' hag Q' hL => LW.out (s_load1E (fr := st'.fr) (bx := st'.bx) (tk := st'.tk) hlt ((hag.ev x (by simp [Op.operands, Call.operands])).trans hx) hy (s_nil hL))) h
theorem d_loadAE {t : TypeId} {x : Operand} {k : Nat} {cs : List IV} {vs : List AV} (hlt : Nat.ble (d + 1) c.nt = true) (hx : St.ev ⟨fr, bx, tk⟩ x = .el cs) [ht : VarTy P t true k] (hc : (cs.take k).map AV.iv = vs) (hk : vs.length = k)
    (h : DR P c ops Q st0 (⟨some (d, .agg vs), [], [], [], [], [], []⟩ :: done) ⟨(d, .agg vs) :: fr, bx, tk⟩ rest) : DR P c ops Q st0 done ⟨fr, bx, tk⟩ (⟨some d, .load t x, ty, pos, aft, none⟩ :: rest) :=
  DR.cons (e := ⟨some (d, .agg vs), [], [], [], [], [], []⟩) (fun st' hag Q' hL => LW.out (s_loadAE (fr := st'.fr) (bx := st'.bx) (tk := st'.tk) hlt ((hag.ev x (by simp [Op.operands, Call.operands])).trans hx) hc hk (s_nil hL))) h
theorem d_extract {x : Operand} {i : Nat} {vs : List AV} {v : AV} (hlt : Nat.ble (d + 1) c.nt = true) (hx : St.ev ⟨fr, bx, tk⟩ x = .tup vs) (hv : vs[i]? = some v)
    (h : DR P c ops Q st0 (⟨some (d, v), [], [], [], [], [], []⟩ :: done) ⟨(d, v) :: fr, bx, tk⟩ rest) : DR P c ops Q st0 done ⟨fr, bx, tk⟩ (⟨some d, .extract x i, ty, pos, aft, none⟩ :: rest) :=
  DR.cons (e := ⟨some (d, v), [], [], [], [], [], []⟩) (fun st' hag Q' hL => LW.out (s_extract (fr := st'.fr) (bx := st'.bx) (tk := st'.tk) hlt ((hag.ev x (by simp [Op.operands, Call.operands])).trans hx) hv (s_nil hL))) h
theorem d_nilP {x : Operand} {id off : Nat} (hlt : Nat.ble (d + 1) c.nt = true) (hx : St.ev ⟨fr, bx, tk⟩ x = .ptr id off)
    (h : DR P c ops Q st0 (⟨some (d, .ptr id off), [], [], [], [], [], []⟩ :: done) ⟨(d, .ptr id off) :: fr, bx, tk⟩ rest) : DR P c ops Q st0 done ⟨fr, bx, tk⟩ (⟨some d, .nilCheck x, ty, pos, aft, none⟩ :: rest) :=
  DR.cons (e := ⟨some (d, .ptr id off), [], [], [], [], [], []⟩) (fun st' hag Q' hL => LW.out (s_nilP (fr := st'.fr) (bx := st'.bx) (tk := st'.tk) hlt ((hag.ev x (by simp [Op.operands, Call.operands])).trans hx) (s_nil hL))) h
theorem d_build {t : TypeId} {parts : Array (Nat × Operand)} {zs : List Value} {pl : List (Nat × Nat)} {cs : List AV} (hlt : Nat.ble (d + 1) c.nt = true) [hz : ZeroTy P t zs] (h1 : zs.all (·.oneCell') = true) [hp : PlacesTy P t pl] (hf : fillA (pl[·]?) (zs.map constCell) (parts.toList.map fun x => (x.1, St.ev ⟨fr, bx, tk⟩ x.2)) = some cs)
    (h : DR P c ops Q st0 (⟨some (d, .agg cs), [], [], [], [], [], []⟩ :: done) ⟨(d, .agg cs) :: fr, bx, tk⟩ rest) : DR P c ops Q st0 done ⟨fr, bx, tk⟩ (⟨some d, .build t parts, ty, pos, aft, none⟩ :: rest) :=
  DR.cons (e := ⟨some (d, .agg cs), [], [], [], [], [], []⟩) (fun st' hag Q' hL => LW.out (s_build (fr := st'.fr) (bx := st'.bx) (tk := st'.tk) hlt h1 ((by rw [agP hag (fun x hx => by simp only [Op.operands]; exact List.mem_toArray.2 (List.mem_map.2 ⟨x, by simpa using hx, rfl⟩))]; exact hf)) (s_nil hL))) h
theorem d_neqAgg {x y : Operand} {t t' : TypeId} {cs ds : List AV} {ks : List Nat} {b : Bool} (hlt : Nat.ble (d + 1) c.nt = true) (hx : St.ev ⟨fr, bx, tk⟩ x = .agg cs) (hy : St.ev ⟨fr, bx, tk⟩ y = .agg ds) [hok : EqTy P t ks] (hn : cs.map vKind = ks) (hb : eqVs cs ds = some b)
    (h : DR P c ops Q st0 (⟨some (d, aB (!b)), [], [], [], [], [], []⟩ :: done) ⟨(d, aB (!b)) :: fr, bx, tk⟩ rest) : DR P c ops Q st0 done ⟨fr, bx, tk⟩ (⟨some d, .binOp .neq t x y t', ty, pos, aft, none⟩ :: rest) :=
  DR.cons (e := ⟨some (d, aB (!b)), [], [], [], [], [], []⟩) (fun st' hag Q' hL => LW.out (s_neqAgg (fr := st'.fr) (bx := st'.bx) (tk := st'.tk) hlt ((hag.ev x (by simp [Op.operands, Call.operands])).trans hx) ((hag.ev y (by simp [Op.operands, Call.operands])).trans hy) hn hb (s_nil hL))) h
theorem d_orA {x y : Operand} {t t' : TypeId} {m n a p : Int} (i : Nat) (hlt : Nat.ble (d + 1) c.nt = true) (hx : St.ev ⟨fr, bx, tk⟩ x = aI m) (hy : St.ev ⟨fr, bx, tk⟩ y = aI n) (hp : (2 : Int) ^ i = p) (hm : m = a * p) (ha : 0 ≤ a) (h1 : a * p + p ≤ 9223372036854775807) (hn : 0 ≤ n) (h2 : n < p)
    (h : DR P c ops Q st0 (⟨some (d, aI (m + n)), [], [], [], [], [], []⟩ :: done) ⟨(d, aI (m + n)) :: fr, bx, tk⟩ rest) : DR P c ops Q st0 done ⟨fr, bx, tk⟩ (⟨some d, .binOp .or t x y t', ty, pos, aft, none⟩ :: rest) :=
  DR.cons (e := ⟨some (d, aI (m + n)), [], [], [], [], [], []⟩) (fun st' hag Q' hL => LW.out (s_orA (fr := st'.fr) (bx := st'.bx) (tk := st'.tk) i hlt ((hag.ev x (by simp [Op.operands, Call.operands])).trans hx) ((hag.ev y (by simp [Op.operands, Call.operands])).trans hy) hp hm ha h1 hn h2 (s_nil hL))) h
theorem d_shlA {x y : Operand} {t t' : TypeId} {k' : IntKind} {m n p : Int} (hlt : Nat.ble (d + 1) c.nt = true) (hx : St.ev ⟨fr, bx, tk⟩ x = aI m) (hy : St.ev ⟨fr, bx, tk⟩ y = .iv (.im (.int k' n))) (h0 : 0 ≤ n) (hp : (2 : Int) ^ min n.toNat 64 = p) (hlo : -9223372036854775808 ≤ m * p) (hhi : m * p ≤ 9223372036854775807)
    (h : DR P c ops Q st0 (⟨some (d, aI (m * p)), [], [], [], [], [], []⟩ :: done) ⟨(d, aI (m * p)) :: fr, bx, tk⟩ rest) : DR P c ops Q st0 done ⟨fr, bx, tk⟩ (⟨some d, .binOp .shl t x y t', ty, pos, aft, none⟩ :: rest) :=
  DR.cons (e := ⟨some (d, aI (m * p)), [], [], [], [], [], []⟩) (fun st' hag Q' hL => LW.out (s_shlA (fr := st'.fr) (bx := st'.bx) (tk := st'.tk) hlt ((hag.ev x (by simp [Op.operands, Call.operands])).trans hx) ((hag.ev y (by simp [Op.operands, Call.operands])).trans hy) h0 hp hlo hhi (s_nil hL))) h
theorem d_convU8 {x : Operand} {s t : TypeId} {k0 : IntKind} {b : UInt8} (hlt : Nat.ble (d + 1) c.nt = true) (hx : St.ev ⟨fr, bx, tk⟩ x = .iv (.im (.int .u8 (b.toNat : Int)))) [ht : IntTy P t .i64] [hs : IntTy P s k0]
    (h : DR P c ops Q st0 (⟨some (d, aI (b.toNat : Int)), [], [], [], [], [], []⟩ :: done) ⟨(d, aI (b.toNat : Int)) :: fr, bx, tk⟩ rest) : DR P c ops Q st0 done ⟨fr, bx, tk⟩ (⟨some d, .convert s t x, ty, pos, aft, none⟩ :: rest) :=
  DR.cons (e := ⟨some (d, aI (b.toNat : Int)), [], [], [], [], [], []⟩) (fun st' hag Q' hL => LW.out (s_convU8 (fr := st'.fr) (bx := st'.bx) (tk := st'.tk) hlt ((hag.ev x (by simp [Op.operands, Call.operands])).trans hx) (s_nil hL))) h
theorem d_quoI {x y : Operand} {t t' : TypeId} {m n : Int} (hlt : Nat.ble (d + 1) c.nt = true) (hx : St.ev ⟨fr, bx, tk⟩ x = aI m) (hy : St.ev ⟨fr, bx, tk⟩ y = aI n) (hn : 0 < n) (hlo : -9223372036854775808 ≤ m) (hhi : m ≤ 9223372036854775807)
    (h : DR P c ops Q st0 (⟨some (d, aI (m.tdiv n)), [], [], [], [], [], []⟩ :: done) ⟨(d, aI (m.tdiv n)) :: fr, bx, tk⟩ rest) : DR P c ops Q st0 done ⟨fr, bx, tk⟩ (⟨some d, .binOp .quo t x y t', ty, pos, aft, none⟩ :: rest) :=
  DR.cons (e := ⟨some (d, aI (m.tdiv n)), [], [], [], [], [], []⟩) (fun st' hag Q' hL => LW.out (s_quoI (fr := st'.fr) (bx := st'.bx) (tk := st'.tk) hlt ((hag.ev x (by simp [Op.operands, Call.operands])).trans hx) ((hag.ev y (by simp [Op.operands, Call.operands])).trans hy) hn hlo hhi (s_nil hL))) h
theorem d_sliceSl {x y : Operand} {t : TypeId} {m m' : List UInt8} {k : IntKind} {n : Int} (hlt : Nat.ble (d + 1) c.nt = true) (hx : St.ev ⟨fr, bx, tk⟩ x = aS m) (hy : St.ev ⟨fr, bx, tk⟩ y = .iv (.im (.int k n))) [ht : StrTy P t] (h0 : 0 ≤ n) (h1 : n ≤ m.length) (hm : m.drop n.toNat = m')
    (h : DR P c ops Q st0 (⟨some (d, aS m'), [], [], [], [], [], []⟩ :: done) ⟨(d, aS m') :: fr, bx, tk⟩ rest) : DR P c ops Q st0 done ⟨fr, bx, tk⟩ (⟨some d, .slice t x (some y) none none, ty, pos, aft, none⟩ :: rest) :=
  DR.cons (e := ⟨some (d, aS m'), [], [], [], [], [], []⟩) (fun st' hag Q' hL => LW.out (s_sliceSl (fr := st'.fr) (bx := st'.bx) (tk := st'.tk) hlt ((hag.ev x (by simp [Op.operands, Call.operands])).trans hx) ((hag.ev y (by simp [Op.operands, Call.operands])).trans hy) h0 h1 hm (s_nil hL))) h
theorem d_sliceSh {x y : Operand} {t : TypeId} {m m' : List UInt8} {k : IntKind} {n : Int} (hlt : Nat.ble (d + 1) c.nt = true) (hx : St.ev ⟨fr, bx, tk⟩ x = aS m) (hy : St.ev ⟨fr, bx, tk⟩ y = .iv (.im (.int k n))) [ht : StrTy P t] (h0 : 0 ≤ n) (h1 : n ≤ m.length) (hm : m.take n.toNat = m')
    (h : DR P c ops Q st0 (⟨some (d, aS m'), [], [], [], [], [], []⟩ :: done) ⟨(d, aS m') :: fr, bx, tk⟩ rest) : DR P c ops Q st0 done ⟨fr, bx, tk⟩ (⟨some d, .slice t x none (some y) none, ty, pos, aft, none⟩ :: rest) :=
  DR.cons (e := ⟨some (d, aS m'), [], [], [], [], [], []⟩) (fun st' hag Q' hL => LW.out (s_sliceSh (fr := st'.fr) (bx := st'.bx) (tk := st'.tk) hlt ((hag.ev x (by simp [Op.operands, Call.operands])).trans hx) ((hag.ev y (by simp [Op.operands, Call.operands])).trans hy) h0 h1 hm (s_nil hL))) h
theorem d_sliceVl {x y : Operand} {t e : TypeId} {k : Nat} {es es' : List (List IV)} {kd : IntKind} {n : Int} (hlt : Nat.ble (d + 1) c.nt = true) (hx : (St.ev ⟨fr, bx, tk⟩ x).sl? = some es) (hy : St.ev ⟨fr, bx, tk⟩ y = .iv (.im (.int kd n))) [hs : SliceTy P t e k] (hk : ∀ e ∈ es, e.length = k) (h0 : 0 ≤ n) (h1 : n ≤ es.length) (hm : es.drop n.toNat = es')
    (h : DR P c ops Q st0 (⟨some (d, .iv (.sl es')), [], [], [], [], [], []⟩ :: done) ⟨(d, .iv (.sl es')) :: fr, bx, tk⟩ rest) : DR P c ops Q st0 done ⟨fr, bx, tk⟩ (⟨some d, .slice t x (some y) none none, ty, pos, aft, none⟩ :: rest) :=
  DR.cons (e := ⟨some (d, .iv (.sl es')), [], [], [], [], [], []⟩) (fun st' hag Q' hL => LW.out (s_sliceVl (fr := st'.fr) (bx := st'.bx) (tk := st'.tk) hlt ((congrArg AV.sl? (hag.ev x (by simp [Op.operands, Call.operands]))).trans hx) ((hag.ev y (by simp [Op.operands, Call.operands])).trans hy) hk h0 h1 hm (s_nil hL))) h
theorem d_sliceVh {x y : Operand} {t e : TypeId} {k : Nat} {es es' : List (List IV)} {kd : IntKind} {n : Int} (hlt : Nat.ble (d + 1) c.nt = true) (hx : (St.ev ⟨fr, bx, tk⟩ x).sl? = some es) (hy : St.ev ⟨fr, bx, tk⟩ y = .iv (.im (.int kd n))) [hs : SliceTy P t e k] (hk : ∀ e ∈ es, e.length = k) (h0 : 0 ≤ n) (h1 : n ≤ es.length) (hm : es.take n.toNat = es')
    (h : DR P c ops Q st0 (⟨some (d, .iv (.sl es')), [], [], [], [], [], []⟩ :: done) ⟨(d, .iv (.sl es')) :: fr, bx, tk⟩ rest) : DR P c ops Q st0 done ⟨fr, bx, tk⟩ (⟨some d, .slice t x none (some y) none, ty, pos, aft, none⟩ :: rest) :=
  DR.cons (e := ⟨some (d, .iv (.sl es')), [], [], [], [], [], []⟩) (fun st' hag Q' hL => LW.out (s_sliceVh (fr := st'.fr) (bx := st'.bx) (tk := st'.tk) hlt ((congrArg AV.sl? (hag.ev x (by simp [Op.operands, Call.operands]))).trans hx) ((hag.ev y (by simp [Op.operands, Call.operands])).trans hy) hk h0 h1 hm (s_nil hL))) h
theorem d_min2 {x y : Operand} {t t' : TypeId} {m n : Int} (hlt : Nat.ble (d + 1) c.nt = true) (hx : St.ev ⟨fr, bx, tk⟩ x = aI m) (hy : St.ev ⟨fr, bx, tk⟩ y = aI n)
    (h : DR P c ops Q st0 (⟨some (d, aI (if n < m then n else m)), [], [], [], [], [], []⟩ :: done) ⟨(d, aI (if n < m then n else m)) :: fr, bx, tk⟩ rest) : DR P c ops Q st0 done ⟨fr, bx, tk⟩ (⟨some d, .call { callee := .builtin .min, args := #[x, y], argTypes := #[t, t'] }, ty, pos, aft, none⟩ :: rest) :=
  DR.cons (e := ⟨some (d, aI (if n < m then n else m)), [], [], [], [], [], []⟩) (fun st' hag Q' hL => LW.out (s_min2 (fr := st'.fr) (bx := st'.bx) (tk := st'.tk) hlt ((hag.ev x (by simp [Op.operands, Call.operands])).trans hx) ((hag.ev y (by simp [Op.operands, Call.operands])).trans hy) (s_nil hL))) h
theorem d_alloc {t : TypeId} {zs : List Value} {cs : List AV} (hlt : Nat.ble (d + 1) c.nt = true) [hz : ZeroTy P t zs] (h1 : zs.all (·.oneCell') = true) (hc : zs.map constCell = cs) (hf : St.fresh d ⟨fr, bx, tk⟩ = true) (hm : AV.ments d cs = false)
    (h : DR P c ops Q st0 (⟨some (d, .ptr d 0), ((d, ⟨t, cs⟩) :: []), [], [], [], [], [d]⟩ :: done) ⟨(d, .ptr d 0) :: fr, (d, ⟨t, cs⟩) :: bx, tk⟩ rest) : DR P c ops Q st0 done ⟨fr, bx, tk⟩ (⟨some d, .alloc t, ty, pos, aft, none⟩ :: rest) :=
  DR.cons (e := ⟨some (d, .ptr d 0), ((d, ⟨t, cs⟩) :: []), [], [], [], [], [d]⟩) (fun st' hag Q' hL => LW.out (s_alloc (fr := st'.fr) (bx := st'.bx) (tk := st'.tk) hlt h1 hc (hag.fs d (by simp)) hm (s_nil hL))) h
theorem d_bslice {t e : TypeId} {n k : Nat} {parts : Array (Nat × Operand)} {zs : List Value} {cs : List AV} {xs : List IV} {es : List (List IV)} (hlt : Nat.ble (d + 1) c.nt = true) [hs : SliceTy P t e k] [hz : ZeroTy P e zs] (h1 : zs.all (·.oneCell') = true) (hzl : zs.length = k) (hn : Nat.ble (n * k) 16777216 = true) (hnk : Nat.ble 1 k = true) (hf : fillA (fun i => some (i * k, k)) ((List.range (n * k)).map fun i => constCell (zs.getD (i % k) undef)) (parts.toList.map fun x => (x.1, St.ev ⟨fr, bx, tk⟩ x.2)) = some cs) (hx : toIs cs = some xs) (hcl : cs.length = n * k) (he : chunks k n xs = es) (hfr : St.fresh d ⟨fr, bx, tk⟩ = true)
    (h : DR P c ops Q st0 (⟨some (d, .row d es), [], [(d, ⟨e, k⟩)], [], [], [], [d]⟩ :: done) ⟨(d, .row d es) :: fr, bx, (d, ⟨e, k⟩) :: tk⟩ rest) : DR P c ops Q st0 done ⟨fr, bx, tk⟩ (⟨some d, .buildSlice t n parts, ty, pos, aft, none⟩ :: rest) :=
  DR.cons (e := ⟨some (d, .row d es), [], [(d, ⟨e, k⟩)], [], [], [], [d]⟩) (fun st' hag Q' hL => LW.out (s_bslice (fr := st'.fr) (bx := st'.bx) (tk := st'.tk) hlt h1 hzl hn hnk ((by rw [agP hag (fun x hx => by simp only [Op.operands]; exact List.mem_toArray.2 (List.mem_map.2 ⟨x, by simpa using hx, rfl⟩))]; exact hf)) hx hcl he (hag.fs d (by simp)) (s_nil hL))) h
theorem d_store {t : TypeId} {x y : Operand} {id off k : Nat} {b : Box} {v : AV} {agg : Bool} {cs : List AV} (hx : St.ev ⟨fr, bx, tk⟩ x = .ptr id off) (hy : St.ev ⟨fr, bx, tk⟩ y = v) [ht : VarTy P t agg k] (hb : bx.lookup id = some b) (hv : v.lays = true) (hk : v.cells.length = k) (hle : Nat.ble (off + k) b.cs.length = true) (hc : setA b.cs off v.cells = cs)
    (h : DR P c ops Q st0 (⟨none, ((id, ⟨b.ty, cs⟩) :: []), [], [], [id], [], []⟩ :: done) ⟨fr, (id, ⟨b.ty, cs⟩) :: bx, tk⟩ rest) : DR P c ops Q st0 done ⟨fr, bx, tk⟩ (⟨none, .store t x y, ty, pos, aft, none⟩ :: rest) :=
  DR.cons (e := ⟨none, ((id, ⟨b.ty, cs⟩) :: []), [], [], [id], [], []⟩) (fun st' hag Q' hL => LW.out (s_store (fr := st'.fr) (bx := st'.bx) (tk := st'.tk) ((hag.ev x (by simp [Op.operands, Call.operands])).trans hx) ((hag.ev y (by simp [Op.operands, Call.operands])).trans hy) ((hag.bx id (by simp)).trans hb) hv hk hle hc (s_nil hL))) h
theorem d_append {t t' e : TypeId} {x y : Operand} {id k bytes : Nat} {es news es' : List (List IV)} (hlt : Nat.ble (d + 1) c.nt = true) (hx : St.ev ⟨fr, bx, tk⟩ x = .row id es) (htk : tk.lookup id = some ⟨e, k⟩) (hy : (St.ev ⟨fr, bx, tk⟩ y).sl? = some news) [ha : AppTy P t e k bytes] [hs : SliceTy P t' e k] (hes : ∀ e ∈ es, e.length = k) (hnk : ∀ e ∈ news, e.length = k) (hm : es.length + news.length ≤ maxLen) (hby : (es.length + news.length) * bytes ≤ 225000000000000) (hf : St.fresh d ⟨fr, bx, tk⟩ = true) (he : es ++ news = es')
    (h : DR P c ops Q st0 (⟨some (d, .row d es'), [], [(d, ⟨e, k⟩)], [id], [], [id], [d]⟩ :: done) ⟨(d, .row d es') :: fr, bx, (d, ⟨e, k⟩) :: delT [id] tk⟩ rest) : DR P c ops Q st0 done ⟨fr, bx, tk⟩ (⟨some d, .call { callee := .builtin .append, args := #[x, y], argTypes := #[t, t'] }, ty, pos, aft, none⟩ :: rest) :=
  DR.cons (e := ⟨some (d, .row d es'), [], [(d, ⟨e, k⟩)], [id], [], [id], [d]⟩) (fun st' hag Q' hL => LW.out (s_append (fr := st'.fr) (bx := st'.bx) (tk := st'.tk) hlt ((hag.ev x (by simp [Op.operands, Call.operands])).trans hx) ((hag.tk id (by simp)).trans htk) ((congrArg AV.sl? (hag.ev y (by simp [Op.operands, Call.operands]))).trans hy) hes hnk hm hby (hag.fs d (by simp)) he (s_nil hL))) h
theorem d_call0 {f : FuncId} {args : Array Operand} {ats : Array TypeId} {as : List AV} {res : AV} (hlt : Nat.ble (d + 1) c.nt = true) [hok : CallTy P f] (hc : CallA P f as [] [] [] res) (ha : AV.pub.pubs (args.toList.map (St.ev ⟨fr, bx, tk⟩)) = as) (hmr : AV.mentIn [] res = true)
    (h : DR P c ops Q st0 (⟨some (d, res), [], [], [], [], [], []⟩ :: done) ⟨(d, res) :: fr, bx, tk⟩ rest) : DR P c ops Q st0 done ⟨fr, bx, tk⟩ (⟨some d, .call { callee := .value (.func f), args := args, argTypes := ats }, ty, pos, aft, none⟩ :: rest) :=
  DR.cons (e := ⟨some (d, res), [], [], [], [], [], []⟩) (fun st' hag Q' hL => LW.out (s_call0 (fr := st'.fr) (bx := st'.bx) (tk := st'.tk) hlt hc ((by rw [agL hag (fun x hx => by simp [Op.operands, Call.operands, hx])]; exact ha)) hmr (s_nil hL))) h
theorem d_pickTIv {x y z : Operand} {y1 : IV} {b : Bool} (hlt : Nat.ble (d + 1) c.nt = true) (hx : St.ev ⟨fr, bx, tk⟩ x = aB b) (hb : b = true) (hy : St.ev ⟨fr, bx, tk⟩ y = .iv y1)
    (h : DR P c ops Q st0 (⟨some (d, .iv y1), [], [], [], [], [], []⟩ :: done) ⟨(d, .iv y1) :: fr, bx, tk⟩ rest) : DR P c ops Q st0 done ⟨fr, bx, tk⟩ (⟨some d, .pick x y z, ty, pos, aft, none⟩ :: rest) :=
  DR.cons (e := ⟨some (d, .iv y1), [], [], [], [], [], []⟩) (fun st' hag Q' hL => LW.out (s_pickTIv (fr := st'.fr) (bx := st'.bx) (tk := st'.tk) hlt ((hag.ev x (by simp [Op.operands, Call.operands])).trans hx) hb ((hag.ev y (by simp [Op.operands, Call.operands])).trans hy) (s_nil hL))) h
theorem d_pickFIv {x y z : Operand} {y1 : IV} {b : Bool} (hlt : Nat.ble (d + 1) c.nt = true) (hx : St.ev ⟨fr, bx, tk⟩ x = aB b) (hb : b = false) (hy : St.ev ⟨fr, bx, tk⟩ z = .iv y1)
    (h : DR P c ops Q st0 (⟨some (d, .iv y1), [], [], [], [], [], []⟩ :: done) ⟨(d, .iv y1) :: fr, bx, tk⟩ rest) : DR P c ops Q st0 done ⟨fr, bx, tk⟩ (⟨some d, .pick x y z, ty, pos, aft, none⟩ :: rest) :=
  DR.cons (e := ⟨some (d, .iv y1), [], [], [], [], [], []⟩) (fun st' hag Q' hL => LW.out (s_pickFIv (fr := st'.fr) (bx := st'.bx) (tk := st'.tk) hlt ((hag.ev x (by simp [Op.operands, Call.operands])).trans hx) hb ((hag.ev z (by simp [Op.operands, Call.operands])).trans hy) (s_nil hL))) h
theorem d_lenBsh {x : Operand} {t e : TypeId} {k id off n k' : Nat} (hlt : Nat.ble (d + 1) c.nt = true) (hx : St.ev ⟨fr, bx, tk⟩ x = .bsh id off n k') [hs : SliceTy P t e k]
    (h : DR P c ops Q st0 (⟨some (d, aI n), [], [], [], [], [], []⟩ :: done) ⟨(d, aI n) :: fr, bx, tk⟩ rest) : DR P c ops Q st0 done ⟨fr, bx, tk⟩ (⟨some d, .call { callee := .builtin .len, args := #[x], argTypes := #[t] }, ty, pos, aft, none⟩ :: rest) :=
  DR.cons (e := ⟨some (d, aI n), [], [], [], [], [], []⟩) (fun st' hag Q' hL => LW.out (s_lenBsh (fr := st'.fr) (bx := st'.bx) (tk := st'.tk) hlt ((hag.ev x (by simp [Op.operands, Call.operands])).trans hx) (s_nil hL))) h
theorem d_mvBsl {x : Operand} {id off n cap : Nat} (hlt : Nat.ble (d + 1) c.nt = true) (hx : St.ev ⟨fr, bx, tk⟩ x = .bsl id off n cap)
    (h : DR P c ops Q st0 (⟨some (d, .bsl id off n cap), [], [], [], [], [], []⟩ :: done) ⟨(d, .bsl id off n cap) :: fr, bx, tk⟩ rest) : DR P c ops Q st0 done ⟨fr, bx, tk⟩ (⟨some d, .move x, ty, pos, aft, none⟩ :: rest) :=
  DR.cons (e := ⟨some (d, .bsl id off n cap), [], [], [], [], [], []⟩) (fun st' hag Q' hL => LW.out (s_mvBsl (fr := st'.fr) (bx := st'.bx) (tk := st'.tk) hlt ((hag.ev x (by simp [Op.operands, Call.operands])).trans hx) (s_nil hL))) h
theorem d_asBsl {x : Operand} {id off n cap : Nat} (hlt : Nat.ble (d + 1) c.nt = true) (hx : St.ev ⟨fr, bx, tk⟩ x = .bsl id off n cap)
    (h : DR P c ops Q st0 (⟨some (d, .bsl id off n cap), [], [], [], [], [], []⟩ :: done) ⟨(d, .bsl id off n cap) :: fr, bx, tk⟩ rest) : DR P c ops Q st0 done ⟨fr, bx, tk⟩ (⟨some d, .assign x, ty, pos, aft, none⟩ :: rest) :=
  DR.cons (e := ⟨some (d, .bsl id off n cap), [], [], [], [], [], []⟩) (fun st' hag Q' hL => LW.out (s_asBsl (fr := st'.fr) (bx := st'.bx) (tk := st'.tk) hlt ((hag.ev x (by simp [Op.operands, Call.operands])).trans hx) (s_nil hL))) h
theorem d_indexBsh {t e : TypeId} {x i : Operand} {k id off n off' : Nat} {kd : IntKind} {j : Int} (hlt : Nat.ble (d + 1) c.nt = true) (hx : St.ev ⟨fr, bx, tk⟩ x = .bsh id off n k) (hj : St.ev ⟨fr, bx, tk⟩ i = .iv (.im (.int kd j))) [hs : SliceTy P t e k] (h0 : 0 ≤ j) (h1 : j < n) (ho : (off + j.toNat) * k = off')
    (h : DR P c ops Q st0 (⟨some (d, .ptr id off'), [], [], [], [], [], []⟩ :: done) ⟨(d, .ptr id off') :: fr, bx, tk⟩ rest) : DR P c ops Q st0 done ⟨fr, bx, tk⟩ (⟨some d, .indexAddr t x i, ty, pos, aft, none⟩ :: rest) :=
  DR.cons (e := ⟨some (d, .ptr id off'), [], [], [], [], [], []⟩) (fun st' hag Q' hL => LW.out (s_indexBsh (fr := st'.fr) (bx := st'.bx) (tk := st'.tk) hlt ((hag.ev x (by simp [Op.operands, Call.operands])).trans hx) ((hag.ev i (by simp [Op.operands, Call.operands])).trans hj) h0 h1 ho (s_nil hL))) h
theorem d_slBl {x y : Operand} {t e : TypeId} {k id off n cap off' n' cap' : Nat} {kd : IntKind} {j : Int} (hlt : Nat.ble (d + 1) c.nt = true) (hx : St.ev ⟨fr, bx, tk⟩ x = .bsl id off n cap) (hy : St.ev ⟨fr, bx, tk⟩ y = .iv (.im (.int kd j))) [hs : SliceTy P t e k] (h0 : 0 ≤ j) (h1 : j ≤ n) (e1 : off + j.toNat * k = off') (e2 : n - j.toNat = n') (e3 : cap - j.toNat = cap')
    (h : DR P c ops Q st0 (⟨some (d, .bsl id off' n' cap'), [], [], [], [], [], []⟩ :: done) ⟨(d, .bsl id off' n' cap') :: fr, bx, tk⟩ rest) : DR P c ops Q st0 done ⟨fr, bx, tk⟩ (⟨some d, .slice t x (some y) none none, ty, pos, aft, none⟩ :: rest) :=
  DR.cons (e := ⟨some (d, .bsl id off' n' cap'), [], [], [], [], [], []⟩) (fun st' hag Q' hL => LW.out (s_slBl (fr := st'.fr) (bx := st'.bx) (tk := st'.tk) hlt ((hag.ev x (by simp [Op.operands, Call.operands])).trans hx) ((hag.ev y (by simp [Op.operands, Call.operands])).trans hy) h0 h1 e1 e2 e3 (s_nil hL))) h
theorem d_slBh {x y : Operand} {t e : TypeId} {k id off n cap n' : Nat} {kd : IntKind} {j : Int} (hlt : Nat.ble (d + 1) c.nt = true) (hx : St.ev ⟨fr, bx, tk⟩ x = .bsl id off n cap) (hy : St.ev ⟨fr, bx, tk⟩ y = .iv (.im (.int kd j))) [hs : SliceTy P t e k] (h0 : 0 ≤ j) (h1 : j ≤ cap) (e2 : j.toNat = n')
    (h : DR P c ops Q st0 (⟨some (d, .bsl id off n' cap), [], [], [], [], [], []⟩ :: done) ⟨(d, .bsl id off n' cap) :: fr, bx, tk⟩ rest) : DR P c ops Q st0 done ⟨fr, bx, tk⟩ (⟨some d, .slice t x none (some y) none, ty, pos, aft, none⟩ :: rest) :=
  DR.cons (e := ⟨some (d, .bsl id off n' cap), [], [], [], [], [], []⟩) (fun st' hag Q' hL => LW.out (s_slBh (fr := st'.fr) (bx := st'.bx) (tk := st'.tk) hlt ((hag.ev x (by simp [Op.operands, Call.operands])).trans hx) ((hag.ev y (by simp [Op.operands, Call.operands])).trans hy) h0 h1 e2 (s_nil hL))) h
theorem d_load1R {t : TypeId} {x : Operand} {id off k mm i f : Nat} {bt : TypeId} {es : List (List IV)} {e : List IV} {y : IV} (hlt : Nat.ble (d + 1) c.nt = true) (hx : St.ev ⟨fr, bx, tk⟩ x = .ptr id off) [ht : VarTy P t false 1] (hb : bx.lookup id = some ⟨bt, .r es.flatten mm⟩) (hk : ∀ e ∈ es, e.length = k) (ho : off = i * k + f) (he : es[i]? = some e) (hf : e[f]? = some y)
    (h : DR P c ops Q st0 (⟨some (d, .iv y), [], [], [], [id], [], []⟩ :: done) ⟨(d, .iv y) :: fr, bx, tk⟩ rest) : DR P c ops Q st0 done ⟨fr, bx, tk⟩ (⟨some d, .load t x, ty, pos, aft, none⟩ :: rest) :=
  DR.cons (e := ⟨some (d, .iv y), [], [], [], [id], [], []⟩) (fun st' hag Q' hL => LW.out (s_load1R (fr := st'.fr) (bx := st'.bx) (tk := st'.tk) hlt ((hag.ev x (by simp [Op.operands, Call.operands])).trans hx) ((hag.bx id (by simp)).trans hb) hk ho he hf (s_nil hL))) h
theorem d_loadAR {t : TypeId} {x : Operand} {id off k mm i : Nat} {bt : TypeId} {es : List (List IV)} {e : List IV} {vs : List AV} (hlt : Nat.ble (d + 1) c.nt = true) (hx : St.ev ⟨fr, bx, tk⟩ x = .ptr id off) [ht : VarTy P t true k] (hb : bx.lookup id = some ⟨bt, .r es.flatten mm⟩) (hk : ∀ e ∈ es, e.length = k) (ho : off = i * k) (he : es[i]? = some e) (hv : e.map AV.iv = vs)
    (h : DR P c ops Q st0 (⟨some (d, .agg vs), [], [], [], [id], [], []⟩ :: done) ⟨(d, .agg vs) :: fr, bx, tk⟩ rest) : DR P c ops Q st0 done ⟨fr, bx, tk⟩ (⟨some d, .load t x, ty, pos, aft, none⟩ :: rest) :=
  DR.cons (e := ⟨some (d, .agg vs), [], [], [], [id], [], []⟩) (fun st' hag Q' hL => LW.out (s_loadAR (fr := st'.fr) (bx := st'.bx) (tk := st'.tk) hlt ((hag.ev x (by simp [Op.operands, Call.operands])).trans hx) ((hag.bx id (by simp)).trans hb) hk ho he hv (s_nil hL))) h
theorem d_copyRR {t t' e : TypeId} {x y : Operand} {k n cnt id off cap id' off' n' cap' mm mm' mr i i' : Nat} {bt bt' : TypeId} {es es' er : List (List IV)} (hlt : Nat.ble (d + 1) c.nt = true) (hx : St.ev ⟨fr, bx, tk⟩ x = .bsl id off n cap) (hy : St.ev ⟨fr, bx, tk⟩ y = .bsl id' off' n' cap') [hs : SliceTy P t e k] (hb : bx.lookup id = some ⟨bt, .r es.flatten mm⟩) (hb2 : bx.lookup id' = some ⟨bt', .r es'.flatten mm'⟩) (hk : ∀ e ∈ es, e.length = k) (hk2 : ∀ e ∈ es', e.length = k) (hk0 : 0 < k) (hoff : off = i * k) (hoff2 : off' = i' * k) (hcnt : Nat.min n' n = cnt) (hpos : 0 < cnt) (hle : (i' + n') * k ≤ es'.length * k + mm') (hin : i' + cnt ≤ es'.length) (hi : i ≤ es.length) (hm : (i + cnt) * k ≤ es.length * k + mm) (her : es.take i ++ ((es'.drop i').take cnt ++ es.drop (i + cnt)) = er) (hmr : mm - (i + cnt - es.length) * k = mr)
    (h : DR P c ops Q st0 (⟨some (d, aI cnt), ((id, ⟨bt, .r er.flatten mr⟩) :: []), [], [], [id, id'], [], []⟩ :: done) ⟨(d, aI cnt) :: fr, (id, ⟨bt, .r er.flatten mr⟩) :: bx, tk⟩ rest) : DR P c ops Q st0 done ⟨fr, bx, tk⟩ (⟨some d, .call { callee := .builtin .copy, args := #[x, y], argTypes := #[t, t'] }, ty, pos, aft, none⟩ :: rest) :=
  DR.cons (e := ⟨some (d, aI cnt), ((id, ⟨bt, .r er.flatten mr⟩) :: []), [], [], [id, id'], [], []⟩) (fun st' hag Q' hL => LW.out (s_copyRR (fr := st'.fr) (bx := st'.bx) (tk := st'.tk) hlt ((hag.ev x (by simp [Op.operands, Call.operands])).trans hx) ((hag.ev y (by simp [Op.operands, Call.operands])).trans hy) ((hag.bx id (by simp)).trans hb) ((hag.bx id' (by simp)).trans hb2) hk hk2 hk0 hoff hoff2 hcnt hpos hle hin hi hm her hmr (s_nil hL))) h
theorem d_roomRR {t t' e e' : TypeId} {x y : Operand} {k k2 bytes n id cap id' off' n' cap' mm mm' mr i' nr : Nat} {bt bt' : TypeId} {es es' er : List (List IV)} (hlt : Nat.ble (d + 1) c.nt = true) (hx : St.ev ⟨fr, bx, tk⟩ x = .bsl id 0 n cap) (hy : St.ev ⟨fr, bx, tk⟩ y = .bsl id' off' n' cap') [hr : RowTy P t e k bytes] [hs2 : SliceTy P t' e' k2] (hb : bx.lookup id = some ⟨bt, .r es.flatten mm⟩) (hb2 : bx.lookup id' = some ⟨bt', .r es'.flatten mm'⟩) (hbn : es.flatten ≠ [] ∨ 0 < mm) (hk : ∀ e ∈ es, e.length = k) (hk2 : ∀ e ∈ es', e.length = k) (hoff2 : off' = i' * k) (hin : i' + n' ≤ es'.length) (hc0 : 0 < cap) (hroom : n + n' ≤ cap) (hi : n ≤ es.length) (hm : (n + n') * k ≤ es.length * k + mm) (her : es.take n ++ ((es'.drop i').take n' ++ es.drop (n + n')) = er) (hmr : mm - (n + n' - es.length) * k = mr) (hnr : n + n' = nr)
    (h : DR P c ops Q st0 (⟨some (d, .bsl id 0 nr cap), ((id, ⟨bt, .r er.flatten mr⟩) :: []), [], [], [id, id'], [], []⟩ :: done) ⟨(d, .bsl id 0 nr cap) :: fr, (id, ⟨bt, .r er.flatten mr⟩) :: bx, tk⟩ rest) : DR P c ops Q st0 done ⟨fr, bx, tk⟩ (⟨some d, .call { callee := .builtin .append, args := #[x, y], argTypes := #[t, t'] }, ty, pos, aft, none⟩ :: rest) :=
  DR.cons (e := ⟨some (d, .bsl id 0 nr cap), ((id, ⟨bt, .r er.flatten mr⟩) :: []), [], [], [id, id'], [], []⟩) (fun st' hag Q' hL => LW.out (s_roomRR (fr := st'.fr) (bx := st'.bx) (tk := st'.tk) hlt ((hag.ev x (by simp [Op.operands, Call.operands])).trans hx) ((hag.ev y (by simp [Op.operands, Call.operands])).trans hy) ((hag.bx id (by simp)).trans hb) ((hag.bx id' (by simp)).trans hb2) hbn hk hk2 hoff2 hin hc0 hroom hi hm her hmr hnr (s_nil hL))) h
theorem d_buildR {t e : TypeId} {n k : Nat} {parts : Array (Nat × Operand)} {zs : List Value} {cs : List AV} {es : List (List IV)} (hlt : Nat.ble (d + 1) c.nt = true) [hs : SliceTy P t e k] [hz : ZeroTy P e zs] (h1 : zs.all (·.oneCell') = true) (hzl : zs.length = k) (hn : Nat.ble (n * k) 16777216 = true) (hnk : Nat.ble 1 k = true) (hf : fillA (fun i => some (i * k, k)) ((List.range (n * k)).map fun i => constCell (zs.getD (i % k) undef)) (parts.toList.map fun x => (x.1, St.ev ⟨fr, bx, tk⟩ x.2)) = some cs) (hcs : cs = es.flatten.map AV.iv) (hcl : es.flatten.length = n * k) (hfr : St.fresh d ⟨fr, bx, tk⟩ = true)
    (h : DR P c ops Q st0 (⟨some (d, .bsl d 0 n n), ((d, ⟨e, .r es.flatten 0⟩) :: []), [], [], [], [], [d]⟩ :: done) ⟨(d, .bsl d 0 n n) :: fr, (d, ⟨e, .r es.flatten 0⟩) :: bx, tk⟩ rest) : DR P c ops Q st0 done ⟨fr, bx, tk⟩ (⟨some d, .buildSlice t n parts, ty, pos, aft, none⟩ :: rest) :=
  DR.cons (e := ⟨some (d, .bsl d 0 n n), ((d, ⟨e, .r es.flatten 0⟩) :: []), [], [], [], [], [d]⟩) (fun st' hag Q' hL => LW.out (s_buildR (fr := st'.fr) (bx := st'.bx) (tk := st'.tk) hlt h1 hzl hn hnk ((by rw [agP hag (fun x hx => by simp only [Op.operands]; exact List.mem_toArray.2 (List.mem_map.2 ⟨x, by simpa using hx, rfl⟩))]; exact hf)) hcs hcl (hag.fs d (by simp)) (s_nil hL))) h
theorem d_storeR {t : TypeId} {x y : Operand} {id off k mm i : Nat} {bt : TypeId} {es er : List (List IV)} {e : List IV} {v : AV} {agg : Bool} (hx : St.ev ⟨fr, bx, tk⟩ x = .ptr id off) (hy : St.ev ⟨fr, bx, tk⟩ y = v) [ht : VarTy P t agg k] (hb : bx.lookup id = some ⟨bt, .r es.flatten mm⟩) (hv : v.lays = true) (hc : v.cells = e.map AV.iv) (he : e.length = k) (hk : ∀ e ∈ es, e.length = k) (ho : off = i * k) (hi : i < es.length) (her : es.set i e = er)
    (h : DR P c ops Q st0 (⟨none, ((id, ⟨bt, .r er.flatten mm⟩) :: []), [], [], [id], [], []⟩ :: done) ⟨fr, (id, ⟨bt, .r er.flatten mm⟩) :: bx, tk⟩ rest) : DR P c ops Q st0 done ⟨fr, bx, tk⟩ (⟨none, .store t x y, ty, pos, aft, none⟩ :: rest) :=
  DR.cons (e := ⟨none, ((id, ⟨bt, .r er.flatten mm⟩) :: []), [], [], [id], [], []⟩) (fun st' hag Q' hL => LW.out (s_storeR (fr := st'.fr) (bx := st'.bx) (tk := st'.tk) ((hag.ev x (by simp [Op.operands, Call.operands])).trans hx) ((hag.ev y (by simp [Op.operands, Call.operands])).trans hy) ((hag.bx id (by simp)).trans hb) hv hc he hk ho hi her (s_nil hL))) h
theorem d_call01 {f : FuncId} {args : Array Operand} {ats : Array TypeId} {as : List AV} {k n : Nat} {bt : TypeId} {xs : List IV} (hlt : Nat.ble (d + 1) c.nt = true) [hok : CallTy P f] (hc : CallA P f as [] [(1000, ⟨bt, .r xs 0⟩)] [] (.bsh 1000 0 n k)) (ha : AV.pub.pubs (args.toList.map (St.ev ⟨fr, bx, tk⟩)) = as) (hm : AV.mentsIn [] as = true) (hf : St.fresh d ⟨fr, bx, tk⟩ = true)
    (h : DR P c ops Q st0 (⟨some (d, .bsh d 0 n k), ((d, ⟨bt, .r xs 0⟩) :: []), [], [], [], [], [d]⟩ :: done) ⟨(d, .bsh d 0 n k) :: fr, (d, ⟨bt, .r xs 0⟩) :: bx, tk⟩ rest) : DR P c ops Q st0 done ⟨fr, bx, tk⟩ (⟨some d, .call { callee := .value (.func f), args := args, argTypes := ats }, ty, pos, aft, none⟩ :: rest) :=
  DR.cons (e := ⟨some (d, .bsh d 0 n k), ((d, ⟨bt, .r xs 0⟩) :: []), [], [], [], [], [d]⟩) (fun st' hag Q' hL => LW.out (s_call01 (fr := st'.fr) (bx := st'.bx) (tk := st'.tk) hlt hc ((by rw [agL hag (fun x hx => by simp [Op.operands, Call.operands, hx])]; exact ha)) hm (hag.fs d (by simp)) (s_nil hL))) h
theorem d_call11 {f : FuncId} {args : Array Operand} {ats : Array TypeId} {as : List AV} {a k n n' : Nat} {bt : TypeId} {xs ys : List IV} (hlt : Nat.ble (d + 1) c.nt = true) [hok : CallTy P f] (hc : CallA P f (.bsh 1000 0 n k :: as) [(1000, ⟨bt, .r xs 0⟩)] [(1001, ⟨bt, .r ys 0⟩), (1000, ⟨bt, .l []⟩)] [] (.bsh 1001 0 n' k)) (ha : AV.pub.pubs (args.toList.map (St.ev ⟨fr, bx, tk⟩)) = .bsh a 0 n k :: as) (hb : bx.lookup a = some ⟨bt, .r xs 0⟩) (hxs : xs ≠ []) (hm : AV.mentsIn [] as = true) (hf : St.fresh d ⟨fr, bx, tk⟩ = true)
    (h : DR P c ops Q st0 (⟨some (d, .bsh d 0 n' k), ((d, ⟨bt, .r ys 0⟩) :: (a, ⟨bt, .l []⟩) :: []), [], [], [a], [], [d]⟩ :: done) ⟨(d, .bsh d 0 n' k) :: fr, (d, ⟨bt, .r ys 0⟩) :: (a, ⟨bt, .l []⟩) :: bx, tk⟩ rest) : DR P c ops Q st0 done ⟨fr, bx, tk⟩ (⟨some d, .call { callee := .value (.func f), args := args, argTypes := ats }, ty, pos, aft, none⟩ :: rest) :=
  DR.cons (e := ⟨some (d, .bsh d 0 n' k), ((d, ⟨bt, .r ys 0⟩) :: (a, ⟨bt, .l []⟩) :: []), [], [], [a], [], [d]⟩) (fun st' hag Q' hL => LW.out (s_call11 (fr := st'.fr) (bx := st'.bx) (tk := st'.tk) hlt hc ((by rw [agL hag (fun x hx => by simp [Op.operands, Call.operands, hx])]; exact ha)) ((hag.bx a (by simp)).trans hb) hxs hm (hag.fs d (by simp)) (s_nil hL))) h
theorem d_call10 {f : FuncId} {args : Array Operand} {ats : Array TypeId} {as : List AV} {a k n : Nat} {bt : TypeId} {xs : List IV} {res : IV} (hlt : Nat.ble (d + 1) c.nt = true) [hok : CallTy P f] (hc : CallA P f (.bsh 1000 0 n k :: as) [(1000, ⟨bt, .r xs 0⟩)] [(1000, ⟨bt, .l []⟩)] [] (.iv res)) (ha : AV.pub.pubs (args.toList.map (St.ev ⟨fr, bx, tk⟩)) = .bsh a 0 n k :: as) (hb : bx.lookup a = some ⟨bt, .r xs 0⟩) (hxs : xs ≠ []) (hm : AV.mentsIn [] as = true)
    (h : DR P c ops Q st0 (⟨some (d, .iv res), ((a, ⟨bt, .l []⟩) :: []), [], [], [a], [], []⟩ :: done) ⟨(d, .iv res) :: fr, (a, ⟨bt, .l []⟩) :: bx, tk⟩ rest) : DR P c ops Q st0 done ⟨fr, bx, tk⟩ (⟨some d, .call { callee := .value (.func f), args := args, argTypes := ats }, ty, pos, aft, none⟩ :: rest) :=
  DR.cons (e := ⟨some (d, .iv res), ((a, ⟨bt, .l []⟩) :: []), [], [], [a], [], []⟩) (fun st' hag Q' hL => LW.out (s_call10 (fr := st'.fr) (bx := st'.bx) (tk := st'.tk) hlt hc ((by rw [agL hag (fun x hx => by simp [Op.operands, Call.operands, hx])]; exact ha)) ((hag.bx a (by simp)).trans hb) hxs hm (s_nil hL))) h
theorem d_call21 {f : FuncId} {args : Array Operand} {ats : Array TypeId} {i : AV} {a v k n m n' : Nat} {bt bt' : TypeId} {xs vs ys : List IV} (hlt : Nat.ble (d + 1) c.nt = true) [hok : CallTy P f] (hc : CallA P f [.bsh 1000 0 n k, i, .bsl 1001 0 m m] [(1000, ⟨bt, .r xs 0⟩), (1001, ⟨bt', .r vs 0⟩)] [(1002, ⟨bt, .r ys 0⟩), (1000, ⟨bt, .l []⟩), (1001, ⟨bt', .l []⟩)] [] (.bsh 1002 0 n' k)) (ha : AV.pub.pubs (args.toList.map (St.ev ⟨fr, bx, tk⟩)) = [.bsh a 0 n k, i, .bsl v 0 m m]) (hb : bx.lookup a = some ⟨bt, .r xs 0⟩) (hb2 : bx.lookup v = some ⟨bt', .r vs 0⟩) (hxs : xs ≠ []) (hvs : vs ≠ []) (hav : (a == v) = false) (hm : AV.mentIn [] i = true) (hf : St.fresh d ⟨fr, bx, tk⟩ = true)
    (h : DR P c ops Q st0 (⟨some (d, .bsh d 0 n' k), ((d, ⟨bt, .r ys 0⟩) :: (a, ⟨bt, .l []⟩) :: (v, ⟨bt', .l []⟩) :: []), [], [], [a, v], [], [d]⟩ :: done) ⟨(d, .bsh d 0 n' k) :: fr, (d, ⟨bt, .r ys 0⟩) :: (a, ⟨bt, .l []⟩) :: (v, ⟨bt', .l []⟩) :: bx, tk⟩ rest) : DR P c ops Q st0 done ⟨fr, bx, tk⟩ (⟨some d, .call { callee := .value (.func f), args := args, argTypes := ats }, ty, pos, aft, none⟩ :: rest) :=
  DR.cons (e := ⟨some (d, .bsh d 0 n' k), ((d, ⟨bt, .r ys 0⟩) :: (a, ⟨bt, .l []⟩) :: (v, ⟨bt', .l []⟩) :: []), [], [], [a, v], [], [d]⟩) (fun st' hag Q' hL => LW.out (s_call21 (fr := st'.fr) (bx := st'.bx) (tk := st'.tk) hlt hc ((by rw [agL hag (fun x hx => by simp [Op.operands, Call.operands, hx])]; exact ha)) ((hag.bx a (by simp)).trans hb) ((hag.bx v (by simp)).trans hb2) hxs hvs hav hm (hag.fs d (by simp)) (s_nil hL))) h
theorem d_gdo {dst : Option Tmp} {op : Op} {st : St} {j s : Nat} {b b' : Bool} (hj : (ops[j]?).bind (·.dst) = some s) (hb : st.ev (.tmp s) = aB b') (he : b' = b)
    (h : DR P c ops Q st0 done st (⟨dst, op, ty, pos, aft, none⟩ :: rest)) : DR P c ops Q st0 done st (⟨dst, op, ty, pos, aft, some (j, b)⟩ :: rest) :=
  DR.of_plain (fun e hv st' hag Q' hL => L.guardDo hj ((hag.gd j s b rfl hj).trans (he ▸ hb)) (hv st' ⟨hag.ev, fun j s b hg => (by simp at hg), hag.bx, hag.tk, hag.fs⟩ Q' hL)) h
theorem d_gskipT {op : Op} {j s : Nat} {b' : Bool} (hlt : Nat.ble (d + 1) c.nt = true) (hj : (ops[j]?).bind (·.dst) = some s) (hb : St.ev ⟨fr, bx, tk⟩ (.tmp s) = aB b') (he : b' = false)
    (h : DR P c ops Q st0 (⟨some (d, .opt false .any), [], [], [], [], [], []⟩ :: done) ⟨(d, .opt false .any) :: fr, bx, tk⟩ rest) : DR P c ops Q st0 done ⟨fr, bx, tk⟩ (⟨some d, op, ty, pos, aft, some (j, true)⟩ :: rest) :=
  DR.cons (e := ⟨some (d, .opt false .any), [], [], [], [], [], []⟩) (fun st' hag Q' hL => LW.out (s_gskipT (fr := st'.fr) (bx := st'.bx) (tk := st'.tk) hlt hj ((hag.gd j s true rfl hj).trans hb) he (s_nil hL))) h
theorem d_gskipF {op : Op} {j s : Nat} {b' : Bool} (hlt : Nat.ble (d + 1) c.nt = true) (hj : (ops[j]?).bind (·.dst) = some s) (hb : St.ev ⟨fr, bx, tk⟩ (.tmp s) = aB b') (he : b' = true)
    (h : DR P c ops Q st0 (⟨some (d, .opt false .any), [], [], [], [], [], []⟩ :: done) ⟨(d, .opt false .any) :: fr, bx, tk⟩ rest) : DR P c ops Q st0 done ⟨fr, bx, tk⟩ (⟨some d, op, ty, pos, aft, some (j, false)⟩ :: rest) :=
  DR.cons (e := ⟨some (d, .opt false .any), [], [], [], [], [], []⟩) (fun st' hag Q' hL => LW.out (s_gskipF (fr := st'.fr) (bx := st'.bx) (tk := st'.tk) hlt hj ((hag.gd j s false rfl hj).trans hb) he (s_nil hL))) h
theorem d_gsplit {o : Oper} {st : St} {j s : Nat} {b b' : Bool} (hj : (ops[j]?).bind (·.dst) = some s) (hg : o.guard = some (j, b)) (hb : st.ev (.tmp s) = aB b') (hT : b' = true → DR P c ops Q st0 done st (o :: rest)) (hF : b' = false → DR P c ops Q st0 done st (o :: rest)) : DR P c ops Q st0 done st (o :: rest) := by
  cases b'
  · exact hF rfl
  · exact hT rfl
theorem d_region {st : St} {id : Nat} {l : List Oper} [hm : MixTy P] (h : DR P c l.toArray Q st [] st l) : L c st ((Code.region id l.toArray true).wp P Q) := DR.region hm.h h
theorem d_nil {st : St} (hok : ordOk ops done.reverse st0 = true) (h : L c st (Q .normal)) : DR P c ops Q st0 done st [] := DR.nil hok h
end
end Go.Abs
/- A logic of abstract states, part 14: the return, with its results as published values. Conditions: each rule's own premises; over any program. -/
namespace Go.Abs
set_option linter.unusedVariables false
theorem n_some {α : Type} {X : Option α} {l l' : α} (h : X = some l) (hl : l = l') : X = some l' := h.trans (congrArg some hl)
theorem nl_nil {α : Type} {X : List α} (h : X = []) : X = [] := h
theorem nl_cons {α : Type} {X : List α} {x x' : α} {t t' : List α} (h : X = x :: t) (hx : x = x') (ht : t = t') : X = x' :: t' := by rw [h, hx, ht]
theorem nIm {x : AV} {v : Value} (h : x = .iv (.im v)) : x = .iv (.im v) := h
theorem nSl {x : AV} {es : List (List IV)} (h : x = .iv (.sl es)) : x = .iv (.sl es) := h
theorem nRow {x : AV} {id : Nat} {es : List (List IV)} (h : x = .row id es) : x = .row id es := h
theorem nNil {x : AV} (h : x = .nils) : x = .nils := h
theorem nBsh {x : AV} {id off n k : Nat} (h : x = .bsh id off n k) : x = .bsh id off n k := h
theorem nIIm {x : IV} {v : Value} (h : x = .im v) : x = .im v := h
theorem nISl {x : IV} {es : List (List IV)} (h : x = .sl es) : x = .sl es := h
theorem getS {α : Type} {m : List α} {i : Nat} {b : α} (h : m[i]? = some b) : m[((i : Nat) : Int).toNat]? = some b := by simpa using h
theorem ltT {α : Type} {l : List α} {i : Nat} {v : α} (h : l[i]? = some v) : decide ((i : Int) < (l.length : Int)) = true := by
  have := (List.getElem?_eq_some_iff.1 h).1
  simpa using this
theorem ltF {α : Type} {l : List α} {i : Nat} (h : l[i]? = none) : decide ((i : Int) < (l.length : Int)) = false := by
  have := List.getElem?_eq_none_iff.1 h
  simpa using this
theorem getF {α β : Type} {f : α → β} {l : List α} {i : Nat} {v : α} (h : l[i]? = some v) : (l.map f)[i]? = some (f v) := by simp [h]
theorem getFN {α β : Type} {f : α → β} {l : List α} {i : Nat} (h : l[i]? = none) : (l.map f)[i]? = none := by simpa using h
theorem len_nil {k : Nat} : ∀ e ∈ ([] : List (List IV)), e.length = k := fun e h => by cases h
theorem len_app {k : Nat} {a b : List (List IV)} (h1 : ∀ e ∈ a, e.length = k) (h2 : ∀ e ∈ b, e.length = k) : ∀ e ∈ a ++ b, e.length = k := fun e h => (List.mem_append.1 h).elim (h1 e) (h2 e)
theorem len_map {α : Type} {k : Nat} {f : α → List IV} {l : List α} (h : ∀ x, (f x).length = k) : ∀ e ∈ l.map f, e.length = k := fun e he => by
  obtain ⟨x, _, rfl⟩ := List.mem_map.1 he; exact h x
theorem len_cons {k : Nat} {a : List IV} {l : List (List IV)} (h : a.length = k) (t : ∀ e ∈ l, e.length = k) : ∀ e ∈ a :: l, e.length = k := fun e he => by
  rcases List.mem_cons.1 he with rfl | he
  · exact h
  · exact t e he
theorem ltN {α : Type} {l : List α} {i : Nat} {v : α} (h : l[i]? = some v) : i < l.length := (List.getElem?_eq_some_iff.1 h).1
theorem dropC {α : Type} {l : List α} {i : Nat} {v : α} (h : l[i]? = some v) : l.drop i = v :: l.drop (i + 1) := by
  obtain ⟨hl, hv⟩ := List.getElem?_eq_some_iff.1 h
  rw [List.drop_eq_getElem_cons hl, hv]
theorem dropN {α : Type} {l : List α} {i : Nat} (h : l[i]? = none) : l.drop i = [] := List.drop_eq_nil_of_le (List.getElem?_eq_none_iff.1 h)
theorem takeC {α : Type} {l : List α} {i : Nat} {v : α} (h : l[i]? = some v) : l.take (i + 1) = l.take i ++ [v] := by
  rw [List.take_add_one, h]; rfl
theorem takeN {α : Type} {l : List α} {i : Nat} (h : l[i]? = none) : l.take i = l := List.take_of_length_le (List.getElem?_eq_none_iff.1 h)
section
variable {P : Program} {c : Ctx} {st : St}
def St.only (l : List Nat) (st : St) : St := ⟨l.filterMap fun s => (st.fr.lookup s).map fun v => (s, v), st.bx, st.tk⟩
theorem only_get (fr : List (Nat × AV)) : ∀ (l : List Nat) (s : Nat) (v : AV), (l.filterMap fun s => (fr.lookup s).map fun v => (s, v)).lookup s = some v → fr.lookup s = some v
  | [], s, v, h => by simp at h
  | a :: l, s, v, h => by
    cases hq : fr.lookup a with
    | none => simp only [List.filterMap_cons, hq, Option.map_none] at h; exact only_get fr l s v h
    | some u =>
      simp only [List.filterMap_cons, hq, Option.map_some] at h
      by_cases e : s = a
      · subst e; rw [lookup_cons_eq] at h; cases h; exact hq
      · rw [lookup_cons_ne e] at h; exact only_get fr l s v h
theorem L.only (l : List Nat) {X : Act → World → Prop} (h : L c (st.only l) X) : L c st X := fun a w hr => by
  obtain ⟨E, hi⟩ := hr
  exact h a w ⟨E, hi.defers, hi.size, fun s v hv => hi.slot s v (only_get st.fr l s v hv), hi.heap⟩
def St.onlyS (l b : List Nat) (st : St) : St := ⟨l.filterMap fun s => (st.fr.lookup s).map fun v => (s, v), b.filterMap fun s => (st.bx.lookup s).map fun v => (s, v), st.tk⟩
theorem only_getB (fr : List (Nat × Box)) : ∀ (l : List Nat) (s : Nat) (v : Box), (l.filterMap fun s => (fr.lookup s).map fun v => (s, v)).lookup s = some v → fr.lookup s = some v
  | [], s, v, h => by simp at h
  | a :: l, s, v, h => by
    cases hq : fr.lookup a with
    | none => simp only [List.filterMap_cons, hq, Option.map_none] at h; exact only_getB fr l s v h
    | some u =>
      simp only [List.filterMap_cons, hq, Option.map_some] at h
      by_cases e : s = a
      · subst e; rw [lookup_cons_eq] at h; cases h; exact hq
      · rw [lookup_cons_ne e] at h; exact only_getB fr l s v h
theorem L.onlyS (l b : List Nat) {X : Act → World → Prop} (hin : c.ins.all (fun i => ((st.onlyS l b).bx.lookup i).isSome) = true) (h : L c (st.onlyS l b) X) : L c st X :=
  .wk ⟨fun id hid => List.all_eq_true.1 hin id hid, fun s v hv => ⟨v, only_get st.fr l s v hv, Sub.refl _⟩, fun id bb hb => ⟨bb, only_getB st.bx b id bb hb, rfl, Subs.refl _⟩, fun id t ht => ht⟩ h
theorem L.loopP {ι : Type} {Q : Exit → Act → World → Prop} (inv : ι → St) (n : ι → Nat) (I : ι → Prop) {i0 : ι} (h0 : Wk c st (inv i0)) (p0 : I i0) {x : Code}
    (h : ∀ i, I i → ∀ K : Act → World → Prop, (∀ st' i', I i' → n i' < n i → Wk c st' (inv i') → L c st' K) → L c (inv i) (x.wp P (Exit.then K Q))) : L c st ((Code.loop x).wp P Q) :=
  L.loop (ι := {i : ι // I i}) (fun i => inv i.1) (fun i => n i.1) (i0 := ⟨i0, p0⟩) h0 fun i K hK => h i.1 i.2 K fun st' i' hi' hn hw => hK st' ⟨i', hi'⟩ hn hw
theorem Sub.resOf {vs : List AV} : Sub (Go.Abs.resOf vs) (Go.Abs.resOf (AV.pub.pubs vs)) := by
  match vs with
  | [] => exact Sub.refl _
  | [v] => exact Sub.pub v
  | v :: w :: r => exact Sub.tup (Subs.pubs (v :: w :: r))
theorem L.endsP {fn : Func} {bx' : List (Nat × Box)} {res : AV} {rs : List ResultVar} {vs : List AV} (hfn : fn.results = rs.toArray) (hv : (st.ress P rs).map AV.pub.pubs = some vs) (hi : c.ins = []) (he : resOf vs = res) :
    L c st (bodyPost P fn (Post c [] [] res) .ret) := by
  cases h : st.ress P rs with
  | none => rw [h] at hv; cases hv
  | some us => rw [h] at hv; cases hv; exact L.ends hfn h (he ▸ Sub.resOf) (Wk.none hi)
section
variable {fn : Func} {res : AV} {rs : List ResultVar} {y z u : IV} {cs : List AV}
theorem L.ends1 (hfn : fn.results = rs.toArray) (hv : (st.ress P rs).map AV.pub.pubs = some [.iv y]) (hi : c.ins = []) (he : AV.iv y = res) : L c st (bodyPost P fn (Post c [] [] res) .ret) := L.endsP (bx' := []) hfn hv hi he
theorem L.ends1A (hfn : fn.results = rs.toArray) (hv : (st.ress P rs).map AV.pub.pubs = some [.agg cs]) (hi : c.ins = []) (he : AV.agg cs = res) : L c st (bodyPost P fn (Post c [] [] res) .ret) := L.endsP (bx' := []) hfn hv hi he
theorem L.ends2 (hfn : fn.results = rs.toArray) (hv : (st.ress P rs).map AV.pub.pubs = some [.iv y, .iv z]) (hi : c.ins = []) (he : AV.tup [.iv y, .iv z] = res) : L c st (bodyPost P fn (Post c [] [] res) .ret) := L.endsP (bx' := []) hfn hv hi he
theorem L.ends2A (hfn : fn.results = rs.toArray) (hv : (st.ress P rs).map AV.pub.pubs = some [.agg cs, .iv z]) (hi : c.ins = []) (he : AV.tup [.agg cs, .iv z] = res) : L c st (bodyPost P fn (Post c [] [] res) .ret) := L.endsP (bx' := []) hfn hv hi he
theorem L.ends3 (hfn : fn.results = rs.toArray) (hv : (st.ress P rs).map AV.pub.pubs = some [.iv y, .iv z, .iv u]) (hi : c.ins = []) (he : AV.tup [.iv y, .iv z, .iv u] = res) : L c st (bodyPost P fn (Post c [] [] res) .ret) := L.endsP (bx' := []) hfn hv hi he
end
end
end Go.Abs
/- A logic of abstract states, part 15: from a contract to the call of a law: it returns true and writes nothing that was there. Conditions: the premises. -/
namespace Go.Abs
open Go.RowKit (Below)
set_option linter.unusedVariables false
def lawEnv (φ : Nat → Nat) : Env := ⟨φ, fun _ => 0, fun _ => .slice none 0 0⟩
theorem RelL.cons {E : Env} {w : World} {v : AV} {u : Value} {vs : List AV} {us : List Value} (h : RepA E w v u) (t : RelL E w vs us) : RelL E w (v :: vs) (u :: us) :=
  ⟨by simp [t.1], fun i c x hc hx => by
    cases i with
    | zero => simp at hc hx; subst hc; subst hx; exact h
    | succ i => exact t.2 i c x (by simpa using hc) (by simpa using hx)⟩
end Go.Abs
/- A logic of abstract states, part 16: the opener: from what came in, read as data, to published contents; and a law's end. Conditions: the premises. -/
namespace Go.Abs
open Go.RowKit (Below)
set_option linter.unusedVariables false
inductive CT where
  | bool
  | int (k : IntKind)
  | str
  | sl (e : TypeId)
  deriving DecidableEq
def flatFs (P : Program) (fl : TypeId → Option (List CT)) : List Field → Nat → Nat → Option (List CT)
  | [], off, tot => if off = tot then some [] else none
  | f :: fs, off, tot => match fl f.type with
    | some cts => if f.offset = off ∧ P.cellsOf f.type = cts.length then (flatFs P fl fs (off + cts.length) tot).map (cts ++ ·) else none
    | none => none
def flat (P : Program) : Nat → TypeId → Option (List CT)
  | 0, _ => none
  | n + 1, t => match P.underlying t with
    | some .bool => some [.bool]
    | some (.int k) => some [.int k]
    | some .string => some [.str]
    | some (.slice e) => some [.sl e]
    | some (.struct fs) => flatFs P (flat P n) fs.toList 0 (P.cellsOf t)
    | _ => none
mutual
def IV.sz : IV → Nat
  | .im (.string s) => s.size + 1
  | .im _ => 1
  | .sl es => szss es + 1
def szss : List (List IV) → Nat
  | [] => 0
  | e :: es => szs e + szss es
def szs : List IV → Nat
  | [] => 0
  | x :: xs => x.sz + szs xs
end
theorem szs_append : ∀ (a b : List IV), szs (a ++ b) = szs a + szs b
  | [], b => by simp [szs]
  | x :: a, b => by simp [szs, szs_append a b]; omega
abbrev Book := List (TypeId × Nat × List CT)
def Book.has (T : Book) : CT → Bool
  | .sl e => (T.lookup e).isSome
  | _ => true
def Book.ok (P : Program) (T : Book) : Bool := T.all fun p => decide (flat P 9 p.1 = some p.2.2) && decide (P.cellsOf p.1 = p.2.2.length) && decide (0 < p.2.2.length) && p.2.2.all T.has && decide (P.bytesOf p.1 = p.2.1)
inductive Fit (P : Book) : CT → IV → Prop
  | bool {b : Bool} : Fit P .bool (.im (.bool b))
  | int {k : IntKind} {n : Int} (h : (Lit.int k n).wf = true) : Fit P (.int k) (.im (.int k n))
  | str {s : ByteArray} (h : s.size ≤ reachBytes) : Fit P .str (.im (.string s))
  | sl {e : TypeId} {es : List (List IV)} {n : Nat} {cts : List CT} (hm : es.length * n ≤ reachBytes) (hl : P.lookup e = some (n, cts)) (h1 : ∀ (j : Nat) (x : List IV), es[j]? = some x → x.length = cts.length)
      (h : ∀ (j : Nat) (x : List IV) (i : Nat) (c : CT) (y : IV), es[j]? = some x → cts[i]? = some c → x[i]? = some y → Fit P c y) : Fit P (.sl e) (.sl es)
def Fits (P : Book) (cts : List CT) (xs : List IV) : Prop := xs.length = cts.length ∧ ∀ (i : Nat) (c : CT) (y : IV), cts[i]? = some c → xs[i]? = some y → Fit P c y
def Reps (φ : Nat → Nat) (w : World) (xs : List IV) (cs : List Value) : Prop := xs.length = cs.length ∧ ∀ (i : Nat) (y : IV) (v : Value), xs[i]? = some y → cs[i]? = some v → RepI φ w y v
theorem two_append {α β : Type} {R : α → β → Prop} {a a' : List α} {b b' : List β} (hl : a.length = b.length)
    (h : ∀ (i : Nat) (x : α) (y : β), a[i]? = some x → b[i]? = some y → R x y) (h' : ∀ (i : Nat) (x : α) (y : β), a'[i]? = some x → b'[i]? = some y → R x y) :
    ∀ (i : Nat) (x : α) (y : β), (a ++ a')[i]? = some x → (b ++ b')[i]? = some y → R x y := by
  intro i x y hx hy
  by_cases hi : i < a.length
  · rw [List.getElem?_append_left hi] at hx
    rw [List.getElem?_append_left (by omega)] at hy
    exact h i x y hx hy
  · rw [List.getElem?_append_right (by omega)] at hx
    rw [List.getElem?_append_right (by omega), ← hl] at hy
    exact h' _ x y hx hy
theorem Fits.append {P : Book} {a b : List CT} {x y : List IV} (h : Fits P a x) (k : Fits P b y) : Fits P (a ++ b) (x ++ y) :=
  ⟨by simp [h.1, k.1], two_append h.1.symm h.2 k.2⟩
theorem Reps.append {φ : Nat → Nat} {w : World} {x y : List IV} {a b : List Value} (h : Reps φ w x a) (k : Reps φ w y b) : Reps φ w (x ++ y) (a ++ b) :=
  ⟨by simp [h.1, k.1], two_append h.1 h.2 k.2⟩
theorem Fits.nil {P : Book} : Fits P [] [] := ⟨rfl, fun i c y h => by simp at h⟩
theorem Reps.nil {φ : Nat → Nat} {w : World} : Reps φ w [] [] := ⟨rfl, fun i c y h => by simp at h⟩
theorem Fits.one {P : Book} {c : CT} {x : IV} (h : Fit P c x) : Fits P [c] [x] := ⟨rfl, fun i c' y h1 h2 => by
  cases i with
  | zero => simp at h1 h2; subst h1; subst h2; exact h
  | succ i => simp at h1⟩
theorem Reps.one {φ : Nat → Nat} {w : World} {x : IV} {v : Value} (h : RepI φ w x v) : Reps φ w [x] [v] := ⟨rfl, fun i c' y h1 h2 => by
  cases i with
  | zero => simp at h1 h2; subst h1; subst h2; exact h
  | succ i => simp at h1⟩
def sizes (w : World) (b : Nat) : Nat := match w.heap[b]? with
  | some (.cells c _ _) => c.size
  | _ => 0
theorem sizes_new {w : World} {b : Nat} (h : w.heap.size ≤ b) : sizes w b = 0 := by
  have : w.heap[b]? = none := by simpa using h
  simp [sizes, this]
theorem sizes_cell {w : World} {b o : Nat} {v : Value} (h : w.cell? ⟨b, o, none⟩ = some v) : o < sizes w b := by
  unfold World.cell? at h
  unfold sizes
  split at h
  · rename_i c _ _ hc
    simp only at hc
    rw [hc]
    simp at h
    exact (Array.getElem?_eq_some_iff.1 h).1
  · cases h
section
variable {H : Type} {enc : TypeId × Value → H} {P : Program} {w : World}
def bulkAll (f : DataW H → Nat) (ds : List (DataW H)) : Nat := (ds.map f).foldr (· + ·) 0
structure Bulk (f : DataW H → Nat) : Prop where
  str : ∀ s : List UInt8, s.length + 1 ≤ f (.lit (.string s))
  lit : ∀ l : Lit, 1 ≤ f (.lit l)
  nil : 1 ≤ f .nil
  slice : ∀ es sp : List (DataW H), bulkAll f es + 1 ≤ f (.slice es sp)
  agg : ∀ es : List (DataW H), bulkAll f es ≤ f (.agg es)
theorem exists_list {α : Type} {R : Nat → α → Prop} : ∀ (n : Nat), (∀ i, i < n → ∃ x, R i x) → ∃ l : List α, l.length = n ∧ ∀ (i : Nat) (x : α), l[i]? = some x → R i x
  | 0, _ => ⟨[], rfl, fun i x h => by simp at h⟩
  | n + 1, h => by
    obtain ⟨l, hl, hr⟩ := exists_list n (fun i hi => h i (by omega))
    obtain ⟨x, hx⟩ := h n (by omega)
    refine ⟨l ++ [x], by simp [hl], fun i y hy => ?_⟩
    by_cases hi : i < l.length
    · rw [List.getElem?_append_left hi] at hy; exact hr i y hy
    · rw [List.getElem?_append_right (by omega)] at hy
      have : i - l.length = 0 := by
        have := (List.getElem?_eq_some_iff.1 hy).1
        simp at this; omega
      rw [this] at hy; simp at hy; subst hy
      have : i = n := by omega
      subst this; exact hx
theorem szss_le {f : DataW H → Nat} : ∀ {es : List (List IV)} {ys : List (DataW H)}, es.length = ys.length → (∀ (i : Nat) (e : List IV) (y : DataW H), es[i]? = some e → ys[i]? = some y → szs e ≤ f y) → szss es ≤ bulkAll f ys
  | [], ys, _, _ => by simp [szss]
  | e :: es, [], h, _ => by simp at h
  | e :: es, y :: ys, hl, h => by
    have h0 := h 0 e y rfl rfl
    have := szss_le (es := es) (ys := ys) (f := f) (by simpa using hl) (fun i e y h1 h2 => h (i + 1) e y (by simpa using h1) (by simpa using h2))
    simp [szss, bulkAll] at this ⊢; omega
theorem Book.get {T : Book} (hT : T.ok P = true) {e : TypeId} {n : Nat} {cts : List CT} (h : T.lookup e = some (n, cts)) : flat P 9 e = some cts ∧ P.cellsOf e = cts.length ∧ 0 < cts.length ∧ cts.all T.has = true ∧ P.bytesOf e = n := by
  have := List.all_eq_true.1 hT _ (lookup_mem h)
  simp only [Bool.and_eq_true, decide_eq_true_eq] at this
  exact ⟨this.1.1.1.1, this.1.1.1.2, this.1.1.2, this.1.2, this.2⟩
theorem weightsAll_get {e : TypeId} : ∀ {ds : List (DataW H)} {i : Nat} {d : DataW H}, ds[i]? = some d → (DataW.weightsAll P e ds).all (· ≤ reachBytes) = true → (DataW.weights P e d).all (· ≤ reachBytes) = true
  | [], i, d, h, _ => by simp at h
  | d0 :: ds, 0, d, h, hw => by
    simp only [DataW.weightsAll, List.all_append, Bool.and_eq_true] at hw
    simp at h; subst h; exact hw.1
  | d0 :: ds, i + 1, d, h, hw => by
    simp only [DataW.weightsAll, List.all_append, Bool.and_eq_true] at hw
    exact weightsAll_get (by simpa using h) hw.2
def wOk (P : Program) (t : TypeId) (d : DataW H) : Prop := (DataW.weights P t d).all (· ≤ reachBytes) = true
theorem open_cells {f : DataW H → Nat} (hf : Bulk f) {T : Book} (hT : T.ok P = true) : ∀ (fuel n : Nat) (t : TypeId) (cs : List Value) (x : DataW H × List MemPlace) (cts : List CT),
    DataW.trod enc P w 0 (fun _ => true) true fuel t cs = some x → flat P n t = some cts → cts.all T.has = true → wOk P t x.1 →
    ∃ xs : List IV, Fits T cts xs ∧ Reps (sizes w) w xs cs ∧ szs xs ≤ f x.1 := by
  intro fuel
  induction fuel with
  | zero => intro n t cs x cts h; simp [DataW.trod] at h
  | succ fuel ih =>
    intro n t cs x cts h hfl hin hwt
    cases n with
    | zero => simp [flat] at hfl
    | succ n =>
      unfold flat at hfl
      split at hfl
      · rename_i hu
        obtain ⟨b, rfl, rfl⟩ := DataW.trod_bool hu h
        cases hfl
        exact ⟨[.im (.bool b)], .one .bool, .one (.im rfl), by simp [szs, IV.sz, hf.lit]⟩
      · rename_i k hu
        obtain ⟨m, rfl, rfl, hw⟩ := DataW.trod_int hu h
        cases hfl
        exact ⟨[.im (.int k m)], .one (.int hw), .one (.im rfl), by simp [szs, IV.sz, hf.lit]⟩
      · rename_i hu
        obtain ⟨s, rfl, rfl, hw⟩ := DataW.trod_string hu h
        cases hfl
        have e : s.data.toList.length = s.size := Array.length_toList
        have hwl : s.size ≤ reachBytes := by simpa [wOk, DataW.weights, e] using hwt
        refine ⟨[.im (.string s)], .one (.str hwl), .one (.im rfl), ?_⟩
        have := hf.str s.data.toList
        simp only [szs, IV.sz, Nat.add_zero]
        rw [e] at this; exact this
      · rename_i e hu
        cases hfl
        simp only [List.all_cons, List.all_nil, Bool.and_true, Book.has] at hin
        obtain ⟨⟨bte, cte⟩, hcte⟩ := Option.isSome_iff_exists.1 hin
        obtain ⟨g1, g2, g3, g4, g5⟩ := Book.get hT hcte
        rcases DataW.trod_slice hu h with ⟨rfl, rfl⟩ | ⟨a, len, cap, elems, rest, n', hn', rfl, rfl, _, hlc, hcm, hel, hget, _, _⟩
        · exact ⟨[.sl []], .one (.sl (by simp) hcte (fun j x hx => by simp at hx) (fun j x i c y hx => by simp at hx)), .one .nil, by simp [szs, IV.sz, szss, hf.nil]⟩
        · obtain rfl : n' = fuel := by omega
          unfold wOk at hwt
          simp only [DataW.weights, hu, List.all_cons, List.all_append, Bool.and_eq_true, decide_eq_true_eq, g5, List.length_map] at hwt
          obtain ⟨hw0, hw1, _⟩ := hwt
          have each : ∀ i, i < len → ∃ xv : List IV × List Value, Fits T cte xv.1 ∧ Reps (sizes w) w xv.1 xv.2 ∧ (∃ y, elems[i]? = some y ∧ szs xv.1 ≤ f y.1) ∧ xv.2.length = cte.length ∧ ∀ j, j < cte.length → w.cell? ((a.add (i * cte.length)).add j) = xv.2[j]? := by
            intro i hi
            have h1 := hget i hi
            have : i < elems.length := by omega
            rw [List.getElem?_eq_getElem this, g2] at h1
            obtain ⟨cs', hc1, hc2⟩ := Option.bind_eq_some_iff.1 h1
            obtain ⟨xs, k1, k2, k3⟩ := ih 9 e cs' _ cte hc2 g1 g4 (weightsAll_get (i := i) (by rw [List.getElem?_map, List.getElem?_eq_getElem this]; rfl) hw1)
            obtain ⟨_, hc3, hc4⟩ := World.cells?_some hc1
            exact ⟨(xs, cs'), k1, k2, ⟨_, List.getElem?_eq_getElem this, k3⟩, hc3, hc4⟩
          obtain ⟨l, hl, hr⟩ := exists_list len each
          have hes : (l.map (·.1)).length = len := by simp [hl]
          refine ⟨[.sl (l.map (·.1))], .one (.sl (by rw [hes, ← hel]; exact Nat.le_trans (Nat.mul_le_mul_right _ (Nat.le_add_right _ _)) hw0) hcte ?_ ?_), ?_, ?_⟩
          · intro j x hx
            simp only [List.getElem?_map, Option.map_eq_some_iff] at hx
            obtain ⟨xv, hxv, rfl⟩ := hx
            exact (hr j xv hxv).1.1
          · intro j x i c y hx hc hy
            simp only [List.getElem?_map, Option.map_eq_some_iff] at hx
            obtain ⟨xv, hxv, rfl⟩ := hx
            exact (hr j xv hxv).1.2 i c y hc hy
          · refine .one ?_
            by_cases h0 : len = 0
            · subst h0
              obtain rfl : l = [] := List.eq_nil_of_length_eq_zero hl
              exact .emp (fun h => by cases h) hcm
            · obtain ⟨xv0, hxv0⟩ : ∃ xv, l[0]? = some xv := ⟨_, List.getElem?_eq_getElem (by omega)⟩
              have hc0 := (hr 0 xv0 hxv0).2.2.2.2 0 g3
              have hl0 := (hr 0 xv0 hxv0).2.2.2.1
              rw [List.getElem?_eq_getElem (by omega)] at hc0
              obtain ⟨b, o, spot⟩ := a
              have hsp : spot = none := by simpa [Addr.add] using World.cell?_spot hc0
              subst hsp
              have hlen : len = (l.map (·.1)).length := hes.symm
              rw [hlen]
              refine .sl (k := cte.length) (fun i j => ((l.getD i ([], [])).2).getD j undef) (by omega) hcm ?_ ?_ ?_ ?_
              · intro i e' he
                simp only [List.getElem?_map, Option.map_eq_some_iff] at he
                obtain ⟨xv, hxv, rfl⟩ := he
                exact (hr i xv hxv).1.1
              all_goals
                intro i e' j x' he hx'
                simp only [List.getElem?_map, Option.map_eq_some_iff] at he
                obtain ⟨xv, hxv, rfl⟩ := he
                obtain ⟨q1, q2, q3, q4, q5⟩ := hr i xv hxv
                have hj : j < cte.length := by rw [← q1.1]; exact (List.getElem?_eq_some_iff.1 hx').1
                have hv : xv.2[j]? = some (xv.2.getD j undef) := by
                  rw [List.getD, List.getElem?_eq_getElem (by omega)]; rfl
                have hcell := q5 j hj
                rw [Addr.add_none, Addr.add_none, hv] at hcell
                have hgd : (l.getD i ([], [])) = xv := by rw [List.getD, hxv]; rfl
                try rw [hgd]
                first
                  | exact sizes_cell hcell
                  | exact hcell
                  | exact q2.2 j x' _ hx' hv
          · have h1 : szss (l.map (·.1)) ≤ bulkAll f (elems.map (·.1)) := szss_le (by simp [hl, hel]) (fun i e' y he hy => by
              simp only [List.getElem?_map, Option.map_eq_some_iff] at he hy
              obtain ⟨xv, hxv, rfl⟩ := he
              obtain ⟨y', hy', rfl⟩ := hy
              obtain ⟨_, _, ⟨y2, hy2, hle⟩, _, _⟩ := hr i xv hxv
              rw [hy'] at hy2; cases hy2; exact hle)
            have h2 := hf.slice (elems.map (·.1)) (rest.map (·.1))
            simp only [szs, IV.sz, Nat.add_zero]; omega
      · rename_i fs hu
        obtain ⟨xs, n', hn', rfl, hcl, hxl, hget⟩ := DataW.trod_struct hu h
        obtain rfl : n' = fuel := by omega
        have key : ∀ (fl : List Field) (yl : List (DataW H × List MemPlace)) (off : Nat) (cts : List CT), fl.length = yl.length → flatFs P (flat P n) fl off (P.cellsOf t) = some cts → cts.all T.has = true → off ≤ P.cellsOf t → (DataW.weightsEach P (fl.map (·.type)) (yl.map (·.1))).all (· ≤ reachBytes) = true →
            (∀ (i : Nat) (f : Field), fl[i]? = some f → DataW.trod enc P w 0 (fun _ => true) true n' f.type ((cs.drop f.offset).take (P.cellsOf f.type)) = yl[i]?) →
            ∃ zs : List IV, Fits T cts zs ∧ Reps (sizes w) w zs (cs.drop off) ∧ szs zs ≤ bulkAll f (yl.map (·.1)) := by
          intro fl
          induction fl with
          | nil =>
            intro yl off cts hlen hfs _ _ _ _
            obtain rfl : yl = [] := List.eq_nil_of_length_eq_zero hlen.symm
            unfold flatFs at hfs
            split at hfs
            · rename_i he
              cases hfs
              refine ⟨[], .nil, ?_, by simp [szs, bulkAll]⟩
              rw [List.drop_of_length_le (by omega)]; exact .nil
            · cases hfs
          | cons fd fl ihf =>
            intro yl off cts hlen hfs hin' hoff hwe hg
            cases yl with
            | nil => simp at hlen
            | cons y yl =>
              unfold flatFs at hfs
              split at hfs
              · rename_i c1 hc1
                split at hfs
                · rename_i hcond
                  obtain ⟨c2, hc2, rfl⟩ := Option.map_eq_some_iff.1 hfs
                  simp only [List.all_append, Bool.and_eq_true] at hin'
                  simp only [List.map_cons, DataW.weightsEach, List.all_append, Bool.and_eq_true] at hwe
                  have h0 := hg 0 fd rfl
                  rw [hcond.1, hcond.2] at h0
                  obtain ⟨z1, k1, k2, k3⟩ := ih n fd.type _ y c1 h0 hc1 hin'.1 hwe.1
                  have hz : c1.length = ((cs.drop off).take c1.length).length := k1.1.symm.trans k2.1
                  have hle : off + c1.length ≤ P.cellsOf t := by
                    simp at hz; omega
                  obtain ⟨z2, m1, m2, m3⟩ := ihf yl (off + c1.length) c2 (by simpa using hlen) hc2 hin'.2 hle hwe.2 (fun i fd' hfd => by simpa using hg (i + 1) fd' (by simpa using hfd))
                  refine ⟨z1 ++ z2, k1.append m1, ?_, ?_⟩
                  · have : cs.drop off = (cs.drop off).take c1.length ++ cs.drop (off + c1.length) := by
                      rw [← List.drop_drop, List.take_append_drop]
                    rw [this]; exact k2.append m2
                  · rw [szs_append]; simp [bulkAll] at m3 ⊢; omega
                · cases hfs
              · cases hfs
        obtain ⟨zs, q1, q2, q3⟩ := key fs.toList xs 0 cts (by simp [hxl]) hfl hin (Nat.zero_le _) (by simpa [wOk, DataW.weights, hu] using hwt) (fun i fd hfd => hget i fd (by simpa using hfd))
        exact ⟨zs, q1, by simpa using q2, Nat.le_trans q3 (hf.agg _)⟩
      · cases hfl
end
end Go.Abs
/- A logic of abstract states, part 17: arguments opened, and what stays of them behind the call. Conditions: the premises. -/
namespace Go.Abs
open Go.RowKit (Below)
open Go.ChangeShapes Go.WideShapes
set_option linter.unusedVariables false
section
variable {H : Type} {enc : TypeId × Value → H} {P : Program} {w : World}
theorem RelL.reps {E : Env} {w : World} {xs : List IV} {us : List Value} (h : Reps E.φ w xs us) : RelL E w (xs.map .iv) us :=
  ⟨by simp [h.1], fun i c u hc hu => by
    simp only [List.getElem?_map, Option.map_eq_some_iff] at hc
    obtain ⟨x, hx, rfl⟩ := hc
    exact .iv (h.2 i x u hx hu)⟩
theorem open_agg {f : DataW H → Nat} (hf : Bulk f) {T : Book} (hT : T.ok P = true) {r : Reach} {b0 : Nat} {t : TypeId} {fs : Array Field} {cts : List CT} (hu : P.underlying t = some (.struct fs)) (hfl : flat P 9 t = some cts) (hin : cts.all T.has = true)
    {v : Value} {d : DataW H} {ps : List MemPlace} (hval : Value.okWide P w r b0 t v) (hd : DataW.Trod enc P w 0 (fun _ => true) true t v d ps) (hw : wOk P t d) :
    ∃ xs : List IV, Fits T cts xs ∧ RepA (lawEnv (sizes w)) w (.agg (xs.map .iv)) v ∧ szs xs ≤ f d := by
  obtain ⟨us, rfl, hs⟩ := okWide_struct hu hval
  obtain ⟨fuel, hd⟩ := hd
  obtain ⟨xs, h1, h2, h3⟩ := open_cells hf hT fuel 9 t _ _ cts hd hfl hin hw
  have h2' : Reps (sizes w) w xs us.toList := by simpa [Value.cells] using h2
  refine ⟨xs, h1, ?_, h3⟩
  have := RelL.agg (E := lawEnv (sizes w)) (RelL.reps h2') (fun u hu' => by
    obtain ⟨i, hi, rfl⟩ := List.getElem_of_mem hu'
    have hx : xs[i]? = some (xs[i]'(by rw [h2'.1]; exact hi)) := List.getElem?_eq_getElem _
    exact (h2'.2 i _ _ hx (List.getElem?_eq_getElem hi)).oneCell)
  simpa using this
theorem open_val {f : DataW H → Nat} (hf : Bulk f) {T : Book} (hT : T.ok P = true) {t : TypeId} {c : CT} (hfl : flat P 9 t = some [c]) (hin : T.has c = true)
    {v : Value} {d : DataW H} {ps : List MemPlace} (hcells : v.cells = #[v]) (hd : DataW.Trod enc P w 0 (fun _ => true) true t v d ps) (hw : wOk P t d) :
    ∃ x : IV, Fit T c x ∧ RepA (lawEnv (sizes w)) w (.iv x) v ∧ x.sz ≤ f d := by
  obtain ⟨fuel, hd⟩ := hd
  obtain ⟨xs, h1, h2, h3⟩ := open_cells hf hT fuel 9 t _ _ [c] hd hfl (by simp [hin]) hw
  obtain ⟨x, rfl⟩ : ∃ x, xs = [x] := List.length_eq_one_iff.1 h1.1
  rw [hcells] at h2
  exact ⟨x, h1.2 0 c x rfl rfl, .iv (h2.2 0 x v rfl rfl), by simpa [szs] using h3⟩
theorem open_slice {f : DataW H → Nat} (hf : Bulk f) {T : Book} (hT : T.ok P = true) {r : Reach} {b0 : Nat} {t e : TypeId} (hu : P.underlying t = some (.slice e)) (hfl : flat P 9 t = some [.sl e]) (hin : T.has (.sl e) = true)
    {v : Value} {d : DataW H} {ps : List MemPlace} (hval : Value.okWide P w r b0 t v) (hd : DataW.Trod enc P w 0 (fun _ => true) true t v d ps) (hw : wOk P t d) :
    ∃ x : IV, Fit T (.sl e) x ∧ RepA (lawEnv (sizes w)) w (.iv x) v ∧ x.sz ≤ f d := by
  obtain ⟨a, len, cap, rfl⟩ := okWide_slice hu hval
  exact open_val hf hT hfl hin rfl hd hw
theorem trodAll_after (hl : laidOutB P = true) {W W' : World} (hb : Below W.heap.size W W') : ∀ {ts : List TypeId} {vs : List Value} {ds : List (DataW H)} {ps : List MemPlace},
    ts.all (fun t => P.readableRec t && decide (t < P.types.size)) = true → DataW.TrodAll enc P W 0 (fun _ => true) true ts vs ds ps → DataW.TrodAll enc P W' 0 (fun b => decide (b < W.heap.size)) true ts vs ds ps
  | [], [], [], _, _, h => h
  | [], [], _ :: _, _, _, h => h.elim
  | [], _ :: _, _, _, _, h => h.elim
  | t :: ts, [], _, _, _, h => h.elim
  | t :: ts, v :: vs, [], _, _, h => h.elim
  | t :: ts, v :: vs, d :: ds, ps, ht, h => by
    simp only [List.all_cons, Bool.and_eq_true, decide_eq_true_eq] at ht
    obtain ⟨p, q, h1, h2, rfl⟩ := h
    have lt : ∀ x ∈ p, x.block < W.heap.size := by obtain ⟨m, hm⟩ := h1; exact DataW.trod_lt m _ _ _ hm
    exact ⟨p, q, Below.trod hl ht.1.1 ht.1.2 h1 hb lt, trodAll_after hl hb ht.2 h2, rfl⟩
end
theorem Fit.str_inv {T : Book} {x : IV} (h : Fit T .str x) : ∃ s : List UInt8, x = S s ∧ s.length ≤ reachBytes := by
  cases h with
  | @str s hs =>
    have e : s.data.toList.length = s.size := Array.length_toList
    exact ⟨s.data.toList, by simp, by rw [e]; exact hs⟩
theorem Fit.int_inv {T : Book} {x : IV} (h : Fit T (.int .i64) x) : ∃ n : Int, x = I n ∧ -9223372036854775808 ≤ n ∧ n ≤ 9223372036854775807 := by
  cases h with
  | int hw => exact ⟨_, rfl, Go.bounds_i64 hw⟩
theorem Fit.bool_inv {T : Book} {x : IV} (h : Fit T .bool x) : ∃ b : Bool, x = B b := by
  cases h with
  | bool => exact ⟨_, rfl⟩
theorem Fit.sl_inv {T : Book} {e : TypeId} {n : Nat} {cts : List CT} {x : IV} (hl : T.lookup e = some (n, cts)) (h : Fit T (.sl e) x) : ∃ es : List (List IV), x = .sl es ∧ es.length * n ≤ reachBytes ∧ ∀ e' ∈ es, Fits T cts e' := by
  cases h with
  | @sl e es n' cts' hm hl' h1 h =>
    have := Option.some.inj (hl'.symm.trans hl)
    cases this
    refine ⟨es, rfl, hm, fun e' he => ?_⟩
    obtain ⟨j, hj, rfl⟩ := List.getElem_of_mem he
    exact ⟨h1 j _ (List.getElem?_eq_getElem hj), fun i c y hc hy => h j _ i c y (List.getElem?_eq_getElem hj) hc hy⟩
theorem map_of {α : Type} {f : α → List IV} {Q : List IV → α → Prop} : ∀ {es : List (List IV)}, (∀ e ∈ es, ∃ a, e = f a ∧ Q e a) → ∃ l : List α, es = l.map f ∧ ∀ a ∈ l, Q (f a) a
  | [], _ => ⟨[], rfl, fun a h => by cases h⟩
  | e :: es, h => by
    obtain ⟨a, h1, h2⟩ := h e (by simp)
    obtain ⟨l, h3, h4⟩ := map_of (es := es) (fun e he => h e (by simp [he]))
    subst h1
    exact ⟨a :: l, by simp [h3], fun b hb => by
      rcases List.mem_cons.1 hb with rfl | hb
      · exact h2
      · exact h4 b hb⟩
theorem Fits.cons_inv {T : Book} {c : CT} {cts : List CT} {xs : List IV} (h : Fits T (c :: cts) xs) : ∃ y ys, xs = y :: ys ∧ Fit T c y ∧ Fits T cts ys := by
  cases xs with
  | nil => exact absurd h.1 (by simp)
  | cons y ys => exact ⟨y, ys, rfl, h.2 0 c y rfl rfl, by simpa using h.1, fun i c' y' h1 h2 => h.2 (i + 1) c' y' (by simpa using h1) (by simpa using h2)⟩
theorem Fits.nil_inv {T : Book} {xs : List IV} (h : Fits T [] xs) : xs = [] := List.eq_nil_of_length_eq_zero h.1
end Go.Abs
/- A logic of abstract states, part 28: a contract of the library's (proved in another logic) as a contract here: it hands back one value and writes nothing that was there. Conditions: the premises. -/
namespace Go.Abs
open Go.RowKit (Below)
set_option linter.unusedVariables false
theorem CallG.below {gs : Globs} {P : Program} {f : FuncId} {args : List AV} {v : Value} (hv : v.oneCell' = true)
    (h : ∀ (E : Env) (w : World) (us : List Value), RelL E w args us → Glob gs E w → Calls P f us.toArray w fun e w' => e = .returned v ∧ Below w.heap.size w w') : CallG gs P f args [] [] [] (.iv (.im v)) := by
  intro E w us hr hh hG
  refine (h E w us hr hG).mono ?_
  rintro e w' ⟨he, hb⟩
  refine ⟨v, E, he, .iv (.im hv), ⟨fun id b h => by simp at h, fun id t h => by simp at h, fun i j b b' h => by simp at h, fun i j t t' g h => by simp at h, fun i j b t h => by simp at h, fun i b h => by simp at h, fun i t g h => by simp at h,
      fun b hb' => hh.new b (Nat.le_trans hb.size hb'), fun b _ => rfl, fun id h => by simp [keys] at h, KeptBut.ofBelow hb⟩⟩
theorem Glob.int {gs : Globs} {E : Env} {w : World} {g : Nat} {m : Int} (h : Glob gs E w) (hm : (g, [I m]) ∈ gs) : w.cell? ⟨g, 0, none⟩ = some (.int .i64 m) := by
  obtain ⟨_, v, h1, h2⟩ := h.2 g _ hm 0 _ rfl
  rw [h1, h2.im_eq]
theorem RelL.im2 {E : Env} {w : World} {v v' : Value} {us : List Value} (h : RelL E w [.iv (.im v), .iv (.im v')] us) : us = [v, v'] := by
  obtain ⟨hl, h⟩ := h
  match us, hl with
  | [u, u'], _ => rw [(h 0 _ u rfl rfl).iv_im, (h 1 _ u' rfl rfl).iv_im]
theorem Below.same {w : World} : Below w.heap.size w w := ⟨rfl, rfl, rfl, Nat.le_refl _, fun _ _ => rfl⟩
end Go.Abs
