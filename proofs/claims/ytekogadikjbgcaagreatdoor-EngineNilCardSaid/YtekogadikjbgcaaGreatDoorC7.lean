/- A logic of abstract states, part 26: rows that grow in the cells of a box. Conditions: each rule's own premises; over any program. -/
import Derived.Test.YtekogadikjbgcaaGreatDoorC6
namespace Go.Abs
open Go.RowKit (Below)
set_option linter.unusedVariables false
set_option linter.unusedSimpArgs false
variable {P : Program} {c : Ctx} {st : St}

/-- a row under another number, at places -/
inductive Tk (a b : Nat) : AV → AV → Prop
  | same {v : AV} : Tk a b v v
  | row {es : List (List IV)} : Tk a b (.row a es) (.row b es)
  | agg {l l' : List AV} (hl : l'.length = l.length) (h : ∀ (i : Nat) (x y : AV), l[i]? = some x → l'[i]? = some y → Tk a b x y) : Tk a b (.agg l) (.agg l')
inductive Tks (a b : Nat) : List AV → List AV → Prop
  | nil : Tks a b [] []
  | cons {v v' : AV} {l l' : List AV} (h : Tk a b v v') (t : Tks a b l l') : Tks a b (v :: l) (v' :: l')
theorem Tks.get {a b : Nat} {l l' : List AV} (h : Tks a b l l') : l'.length = l.length ∧ ∀ (i : Nat) (v : AV), l'[i]? = some v → ∃ v0, l[i]? = some v0 ∧ Tk a b v0 v := by
  induction h with
  | nil => exact ⟨rfl, fun i v h => by simp at h⟩
  | cons h _ ih =>
    refine ⟨by simp [ih.1], fun i v hv => ?_⟩
    cases i with
    | zero => simp at hv; subst hv; exact ⟨_, rfl, h⟩
    | succ i => exact ih.2 i v (by simpa using hv)
theorem Tk.rep {a b : Nat} {E : Env} (he : E.η b = E.η a) {w : World} {v v' : AV} (h : Tk a b v v') : ∀ {u : Value}, RepA E w v u → RepA E w v' u := by
  induction h with
  | same => exact fun hu => hu
  | row =>
    intro u hu
    cases hu with
    | row hu h => exact .row (by rw [he]; exact hu) h
  | agg hl h ih =>
    intro u hu
    cases hu with
    | agg hl2 h1 hr =>
      refine .agg (by rw [hl2, hl]) h1 (fun i x y hx hy => ?_)
      have hi := (List.getElem?_eq_some_iff.1 hx).1
      rw [hl] at hi
      exact ih i _ x (List.getElem?_eq_getElem hi) hx (hr i _ y (List.getElem?_eq_getElem hi) hy)

/-- cells of a box, said otherwise -/
theorem HInv.recs {E : Env} {w : World} {tk : List (Nat × Tok)} {bx : List (Nat × Box)} (hh : HInv c E bx tk w) {j : Nat} {bj : Box} {cs : List AV} (hj : bx.lookup j = some bj) (hjn : bj.cs ≠ [])
    (hl : cs.length = bj.cs.length) (h : ∀ (i : Nat) (v : AV), cs[i]? = some v → ∃ v0, bj.cs[i]? = some v0 ∧ ∀ u, RepA E w v0 u → RepA E w v u) : HInv c E ((j, ⟨bj.ty, .l cs⟩) :: bx) tk w := by
  refine hh.reBox hj hjn (fun hn => ?_)
  obtain ⟨g0, arr, ha, hla, h1, hr, hη⟩ := hh.box j bj hj hjn
  refine ⟨g0, arr, ha, by simpa [hl] using hla, h1, fun i x u hx hu => ?_, hη⟩
  obtain ⟨v0, hv0, hp0⟩ := h i x hx
  exact hp0 u (hr i v0 u hv0 hu)

theorem retok_core {t : Tok} (a b : Nat) (ht : st.tk.lookup a = some t) (hf : st.fresh b = true) (hin : c.ins.contains b = false) {E : Env} {act : Act} {w : World} (hi : Inv c E st act w) :
    ∃ E' : Env, Inv c E' ⟨st.fr, st.bx, (b, t) :: delTok a st.tk⟩ act w ∧ E'.η b = E'.η a := by
  have hab : a ≠ b := St.fresh_tk hf ht
  have mono : ∀ (v : AV) (u : Value), AV.ment b v = false → RepA E w v u → RepA ⟨E.φ, E.ρ, fun i => if i = b then E.η a else E.η i⟩ w v u := fun v u hm hr =>
    hr.mono (E := E) (E' := ⟨E.φ, E.ρ, fun i => if i = b then E.η a else E.η i⟩) (fun _ _ _ => rfl) (fun _ => Nat.le_refl _) (fun i hi' => ⟨rfl, by
      have : i ≠ b := fun e => by subst e; rw [hm] at hi'; cases hi'
      simp [this]⟩)
  have hh : HInv c ⟨E.φ, E.ρ, fun i => if i = b then E.η a else E.η i⟩ st.bx st.tk w := hi.heap.reEta
    (fun i bb h0 k v u hv hr => mono v u (AV.ments_false (St.fresh_bx hf h0).2 k v hv) hr)
    (fun j t' hj => by simp only [if_neg (St.fresh_tk hf hj)])
    (fun id hid => by
      have : id ≠ b := fun e => by subst e; simp at hin; exact hin hid
      simp only [if_neg this])
    (fun i bb h0 => by simp only [if_neg (St.fresh_bx hf h0).1])
  have hh' : HInv c ⟨E.φ, E.ρ, fun i => if i = b then E.η a else E.η i⟩ st.bx (delTok a st.tk) w := by
    have hw : Wk c st ⟨st.fr, st.bx, delTok a st.tk⟩ := ⟨fun id hid => (hi.heap.ins id hid).2.2, fun s v hv => ⟨v, hv, Sub.refl _⟩, fun id bb hb => ⟨bb, hb, rfl, Subs.refl _⟩, fun id t' ht' => by
      simp only at ht'; rw [delTok_look'] at ht'
      split at ht'
      · cases ht'
      · exact ht'⟩
    exact hh.wk (st := st) (st' := ⟨st.fr, st.bx, delTok a st.tk⟩) hw
  refine ⟨⟨E.φ, E.ρ, fun i => if i = b then E.η a else E.η i⟩, ⟨hi.defers, hi.size, fun s' v hv => mono v _ (St.fresh_fr hf hv) (hi.slot s' v hv), ?_⟩, by simp [hab]⟩
  refine hh'.addTok ?_ (fun j t' g hj hl hg => ?_) (fun i bb hb hn => ?_) (fun g hg => ?_)
  · have := hi.heap.tok a t ht
    simp only [TokOk, if_true] at this ⊢
    exact this
  · rw [delTok_look'] at hl
    split at hl
    · cases hl
    · rename_i hja
      simp only [if_neg hj, if_true] at hg ⊢
      intro hg'
      exact hja (hi.heap.tt j a t' t g hl ht hg hg')
  · simp only [if_true]
    exact hi.heap.bt i a bb t hb hn ht
  · simp only [if_true] at hg
    exact hi.heap.ownt a t g ht hg
/-- a row in a box's cells under another number -/
theorem L.retokB {t : Tok} {X : Act → World → Prop} {bj : Box} {cs : List AV} (j a b : Nat) (hj : st.bx.lookup j = some bj) (hjn : bj.cs ≠ []) (ht : st.tk.lookup a = some t) (hf : st.fresh b = true) (hin : c.ins.contains b = false) (hp : Tks a b bj.cs cs)
    (h : L c ⟨st.fr, (j, ⟨bj.ty, .l cs⟩) :: st.bx, (b, t) :: delTok a st.tk⟩ X) : L c st X := by
  rintro act w ⟨E, hi⟩
  obtain ⟨E', hi2, he⟩ := retok_core a b ht hf hin hi
  obtain ⟨hl, hg⟩ := hp.get
  exact h act w ⟨E', hi2.defers, hi2.size, hi2.slot, hi2.heap.recs hj hjn hl (fun i v hv => by
    obtain ⟨v0, h0, hq⟩ := hg i v hv
    exact ⟨v0, h0, fun u hu => hq.rep he hu⟩)⟩
/-- nil as an empty row, at places -/
inductive Ad (id : Nat) : AV → AV → Prop
  | same {v : AV} : Ad id v v
  | here : Ad id .nils (.row id [])
inductive Ads (id : Nat) : List AV → List AV → Prop
  | nil : Ads id [] []
  | cons {v v' : AV} {l l' : List AV} (h : Ad id v v') (t : Ads id l l') : Ads id (v :: l) (v' :: l')
theorem Ads.get {id : Nat} {l l' : List AV} (h : Ads id l l') : l'.length = l.length ∧ ∀ (i : Nat) (v : AV), l'[i]? = some v → ∃ v0, l[i]? = some v0 ∧ Ad id v0 v := by
  induction h with
  | nil => exact ⟨rfl, fun i v h => by simp at h⟩
  | cons h _ ih =>
    refine ⟨by simp [ih.1], fun i v hv => ?_⟩
    cases i with
    | zero => simp at hv; subst hv; exact ⟨_, rfl, h⟩
    | succ i => exact ih.2 i v (by simpa using hv)
theorem adopt_core (id : Nat) (t : TypeId) (k : Nat) (hf : st.fresh id = true) (hin : c.ins.contains id = false) {E : Env} {a : Act} {w : World} (hi : Inv c E st a w) :
    ∃ E' : Env, Inv c E' ⟨st.fr, st.bx, (id, ⟨t, k⟩) :: st.tk⟩ a w ∧ E'.η id = .slice none 0 0 := by
  have mono : ∀ (v : AV) (u : Value), AV.ment id v = false → RepA E w v u → RepA ⟨E.φ, E.ρ, fun i => if i = id then .slice none 0 0 else E.η i⟩ w v u := fun v u hm hr =>
    hr.mono (E := E) (E' := ⟨E.φ, E.ρ, fun i => if i = id then .slice none 0 0 else E.η i⟩) (fun _ _ _ => rfl) (fun _ => Nat.le_refl _) (fun i hi' => ⟨rfl, by
      have : i ≠ id := fun e => by subst e; rw [hm] at hi'; cases hi'
      simp [this]⟩)
  have hh : HInv c ⟨E.φ, E.ρ, fun i => if i = id then .slice none 0 0 else E.η i⟩ st.bx st.tk w := hi.heap.reEta
    (fun i bb h0 k v u hv hr => mono v u (AV.ments_false (St.fresh_bx hf h0).2 k v hv) hr)
    (fun j t' hj => by simp only [if_neg (St.fresh_tk hf hj)])
    (fun i hid => by
      have : i ≠ id := fun e => by subst e; simp at hin; exact hin hid
      simp only [if_neg this])
    (fun i bb h0 => by simp only [if_neg (St.fresh_bx hf h0).1])
  refine ⟨⟨E.φ, E.ρ, fun i => if i = id then .slice none 0 0 else E.η i⟩, ⟨hi.defers, hi.size, fun s' v hv => mono v _ (St.fresh_fr hf hv) (hi.slot s' v hv), ?_⟩, by simp⟩
  exact hh.addTok (.inl (by simp)) (fun j t' g hj hl hg => by simp [Value.ownBlock]) (fun i b hb hn => by simp [Value.ownBlock]) (fun g hg => by simp [Value.ownBlock] at hg)
/-- nil in a box's cells as an empty row of one's own -/
theorem L.adoptB {X : Act → World → Prop} {bj : Box} {cs : List AV} (j id : Nat) (t : TypeId) (k : Nat) (hj : st.bx.lookup j = some bj) (hjn : bj.cs ≠ []) (hf : st.fresh id = true) (hin : c.ins.contains id = false) (hp : Ads id bj.cs cs)
    (h : L c ⟨st.fr, (j, ⟨bj.ty, .l cs⟩) :: st.bx, (id, ⟨t, k⟩) :: st.tk⟩ X) : L c st X := by
  rintro act w ⟨E, hi⟩
  obtain ⟨E', hi2, he⟩ := adopt_core id t k hf hin hi
  obtain ⟨hl, hg⟩ := hp.get
  exact h act w ⟨E', hi2.defers, hi2.size, hi2.slot, hi2.heap.recs hj hjn hl (fun i v hv => by
    obtain ⟨v0, h0, hq⟩ := hg i v hv
    refine ⟨v0, h0, fun u hu => ?_⟩
    cases hq with
    | same => exact hu
    | here => cases hu; exact .row (by rw [he]) .nil)⟩

/-! ### calls with boxes handed in and back -/
theorem Box.ren_id {π : Nat → Nat} {b : Box} (h : AV.mentsIn [] b.cs = true) : b.ren π = b := by
  obtain ⟨ty, cc⟩ := b
  cases cc with
  | l cs => simp only [Box.cs_l] at h; simp only [Box.ren]; rw [AV.rens_id cs h]
  | r xs m => rfl
theorem L.callGN {gs : Globs} (N : List Nat) {o : Oper} {ops : Array Oper} {rest : List Oper} {Q : Exit → Act → World → Prop} {f : FuncId} {args : Array Operand} {ats : Array TypeId} {as : List AV} {bxi bxo : List (Nat × Box)} {tko : List (Nat × Tok)} {res : AV} {d : Nat} (hg : o.guard = none) (hd : o.dst = some d) (hlt : Nat.ble (d + 1) c.nt = true) (hG : Glob gs c.E0 c.w0)
    (ho : o.op = .call { callee := .value (.func f), args := args, argTypes := ats }) (hok : callOk P f = true) (hc : CallG gs P f as bxi bxo tko res) (ha : Subs (args.toList.map st.ev) as) (hbi : WkB st.bx bxi)
    (hN : N.all (fun id => st.fresh id) = true) (hbo : boOk N bxi bxo = true) (hto : (keys tko).all (fun id => N.contains id) = true)
    (hmb : bxo.all (fun p => AV.mentsIn (N ++ keys bxi) p.2.cs) = true) (hmr : AV.mentIn (N ++ keys bxi) res = true)
    (h : L c ⟨(d, res) :: st.fr, bxo ++ st.bx, tko ++ st.tk⟩ (wpList P ops Q rest)) : L c st (wpList P ops Q (o :: rest)) :=
  L.enterG N hg hd hlt hG (fun E a w hi => ⟨args.toList.map a.eval, by
    have hargs : (args.toList.map a.eval).toArray = args.map a.eval := by apply Array.ext'; simp
    rw [hargs]
    simp [execOp, ho, resolve, Deferred.ofValue, Act.eval, invoke, run_callOk hok], (hi.evs args).sub ha⟩) hc hbi hN hbo hto hmb hmr h
/-- one box handed in and back -/
theorem L.callG1 {gs : Globs} {o : Oper} {ops : Array Oper} {rest : List Oper} {Q : Exit → Act → World → Prop} {f : FuncId} {args : Array Operand} {ats : Array TypeId} {as1 as : List AV} {d q : Nat} {b b' : Box} {res : AV} (hg : o.guard = none) (hd : o.dst = some d) (hlt : Nat.ble (d + 1) c.nt = true) (ho : o.op = .call { callee := .value (.func f), args := args, argTypes := ats }) (hok : callOk P f = true)
    (hG : Glob gs c.E0 c.w0) (hc : CallG gs P f as1 [(1000, b)] [(1000, b')] [] res) (ha : AV.pub.pubs (args.toList.map st.ev) = as) (h1 : AV.rens (Abs.sws [(1000, q)]) as1 = as) (hb : st.bx.lookup q = some b) (hbn : b.cs.isEmpty = false) (hm : AV.mentsIn [] b.cs = true) (hm' : AV.mentsIn [] b'.cs = true) (hr : AV.mentIn [] res = true)
    (h : L c ⟨(d, res) :: st.fr, (q, b') :: st.bx, st.tk⟩ (wpList P ops Q rest)) : L c st (wpList P ops Q (o :: rest)) := by
  have hs : Abs.sws [(1000, q)] 1000 = q := sws_hd _ _ _
  have h2 := hc.sws [(1000, q)] h1 (bx2 := [(q, b)]) (bx2' := [(q, b')]) (tk2' := []) (res2 := res) (by simp [renB, hs, Box.ren_id hm]) (by simp [renB, hs, Box.ren_id hm']) rfl (AV.ren_id res hr)
  exact L.callGN (bxi := [(q, b)]) [] hg hd hlt hG ho hok h2 (.of_pub ha) (.cons hb rfl (Subs.refl _) .nil) rfl (by simp [boOk, keys, hbn]) rfl (by simp [mentsIn_mono _ hm']) (mentIn_mono _ hr) h
/-- two boxes handed in and back -/
theorem L.callG2 {gs : Globs} {o : Oper} {ops : Array Oper} {rest : List Oper} {Q : Exit → Act → World → Prop} {f : FuncId} {args : Array Operand} {ats : Array TypeId} {as1 as : List AV} {d q p : Nat} {b b' e e' : Box} {res : AV} (hg : o.guard = none) (hd : o.dst = some d) (hlt : Nat.ble (d + 1) c.nt = true) (ho : o.op = .call { callee := .value (.func f), args := args, argTypes := ats }) (hok : callOk P f = true)
    (hG : Glob gs c.E0 c.w0) (hc : CallG gs P f as1 [(1000, b), (1001, e)] [(1000, b'), (1001, e')] [] res) (ha : AV.pub.pubs (args.toList.map st.ev) = as) (h1 : AV.rens (Abs.sws [(1001, p), (1000, q)]) as1 = as) (hb : st.bx.lookup q = some b) (he : st.bx.lookup p = some e) (hqp : (q == p) = false) (hqn : (q == 1001) = false) (hbn : b.cs.isEmpty = false) (hen : e.cs.isEmpty = false) (hm : AV.mentsIn [] b.cs = true) (hm' : AV.mentsIn [] b'.cs = true) (hme : AV.mentsIn [] e.cs = true) (hme' : AV.mentsIn [] e'.cs = true) (hr : AV.mentIn [] res = true)
    (h : L c ⟨(d, res) :: st.fr, (q, b') :: (p, e') :: st.bx, st.tk⟩ (wpList P ops Q rest)) : L c st (wpList P ops Q (o :: rest)) := by
  have hqp' : q ≠ p := by simpa using hqp
  have hs : Abs.sws [(1001, p), (1000, q)] 1000 = q := sws_tl (by decide) (sws_hd _ _ _) hqp'
  have hs1 : Abs.sws [(1001, p), (1000, q)] 1001 = p := sws_hd _ _ _
  have h2 := hc.sws [(1001, p), (1000, q)] h1 (bx2 := [(q, b), (p, e)]) (bx2' := [(q, b'), (p, e')]) (tk2' := []) (res2 := res) (by simp [renB, hs, hs1, Box.ren_id hm, Box.ren_id hme]) (by simp [renB, hs, hs1, Box.ren_id hm', Box.ren_id hme']) rfl (AV.ren_id res hr)
  exact L.callGN (bxi := [(q, b), (p, e)]) [] hg hd hlt hG ho hok h2 (.of_pub ha) (.cons hb rfl (Subs.refl _) (.cons he rfl (Subs.refl _) .nil)) rfl (by simp [boOk, keys, hbn, hen]) rfl (by simp [mentsIn_mono _ hm', mentsIn_mono _ hme']) (mentIn_mono _ hr) h
theorem WkB.app_self : ∀ (bx : List (Nat × Box)) {bx0 : List (Nat × Box)}, (∀ i b, bx.lookup i = some b → bx0.lookup i = some b) → ∀ (s : Nat) (v : Box), bx.lookup s = some v → ∃ v0, bx0.lookup s = some v0 ∧ v0.ty = v.ty ∧ Subs v0.cs v.cs :=
  fun bx bx0 h s v hv => ⟨v, h s v hv, rfl, Subs.refl _⟩
theorem lookup_app_self (bx : List (Nat × Box)) (i : Nat) (b : Box) (h : bx.lookup i = some b) : (bx ++ bx).lookup i = some b := by
  rw [List.lookup_append, h]; rfl
/-- one box, under whatever name -/
theorem CallG.at1 {gs : Globs} {f : FuncId} {as1 as : List AV} {q : Nat} {b b' : Box} {res : AV} (hc : CallG gs P f as1 [(1000, b)] [(1000, b')] [] res) (h1 : AV.rens (Abs.sws [(1000, q)]) as1 = as) (hm : AV.mentsIn [] b.cs = true) (hm' : AV.mentsIn [] b'.cs = true) (hr : AV.mentIn [] res = true) :
    CallG gs P f as [(q, b)] [(q, b')] [] res := by
  have hs : Abs.sws [(1000, q)] 1000 = q := sws_hd _ _ _
  exact hc.sws [(1000, q)] h1 (by simp [renB, hs, Box.ren_id hm]) (by simp [renB, hs, Box.ren_id hm']) rfl (AV.ren_id res hr)
/-- a contract that is said of a box of the caller's name -/
theorem L.callQ1 {gs : Globs} {o : Oper} {ops : Array Oper} {rest : List Oper} {Q : Exit → Act → World → Prop} {f : FuncId} {args : Array Operand} {ats : Array TypeId} {as : List AV} {d q : Nat} {b b' : Box} {res : AV} (hg : o.guard = none) (hd : o.dst = some d) (hlt : Nat.ble (d + 1) c.nt = true) (ho : o.op = .call { callee := .value (.func f), args := args, argTypes := ats }) (hok : callOk P f = true)
    (hG : Glob gs c.E0 c.w0) (hc : CallG gs P f as [(q, b)] [(q, b')] [] res) (ha : AV.pub.pubs (args.toList.map st.ev) = as) (hb : st.bx.lookup q = some b) (hbn : b.cs.isEmpty = false) (hm' : AV.mentsIn [] b'.cs = true) (hr : AV.mentIn [] res = true)
    (h : L c ⟨(d, res) :: st.fr, (q, b') :: st.bx, st.tk⟩ (wpList P ops Q rest)) : L c st (wpList P ops Q (o :: rest)) :=
  L.callGN (bxi := [(q, b)]) [] hg hd hlt hG ho hok hc (.of_pub ha) (.cons hb rfl (Subs.refl _) .nil) rfl (by simp [boOk, keys, hbn]) rfl (by simp [mentsIn_mono _ hm']) (mentIn_mono _ hr) h
theorem Wk.mkX {fr : List (Nat × AV)} {bx : List (Nat × Box)} {tk : List (Nat × Tok)} (h0 : ∀ id ∈ c.ins, (bx.lookup id).isSome = true) (h1 : WkF st.fr fr) (h2 : ∀ s v, bx.lookup s = some v → st.bx.lookup s = some v) (h3 : WkT st.tk tk) : Wk c st ⟨fr, bx, tk⟩ :=
  ⟨h0, h1.get, fun s v hv => ⟨v, h2 s v hv, rfl, Subs.refl _⟩, h3.get⟩
theorem keys_some {bx : List (Nat × Box)} : ∀ id ∈ keys bx, (bx.lookup id).isSome = true := fun id hid => by
  obtain ⟨b, hb⟩ := mem_keys hid; rw [hb]; rfl
theorem lookup_app {bx : List (Nat × Box)} {bx' : List (Nat × Box)} {s : Nat} {v : Box} (h : bx.lookup s = some v) : (bx ++ bx').lookup s = some v := by
  rw [List.lookup_append, h]; rfl
end Go.Abs
