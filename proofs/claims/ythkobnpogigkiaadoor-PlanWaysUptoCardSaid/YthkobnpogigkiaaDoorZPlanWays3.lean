/- Several texts in one, each with its own sentence ahead of it. Conditions: each one says its own. -/
import Derived.Test.YthkobnpogigkiaaDoorZPlanWays2
/- A logic of abstract states, part 23: rows of one's own whose contents are published values: reading, writing, appending, handing over. Conditions: each rule's own premises; over any program. -/
namespace Go.Abs
open Go.RowKit (Below)
set_option linter.unusedVariables false
theorem flat_take {α : Type} {k : Nat} : ∀ (es : List (List α)) (i : Nat), (∀ e ∈ es, e.length = k) → es.flatten.take (i * k) = (es.take i).flatten
  | [], i, _ => by simp
  | e :: es, 0, _ => by simp
  | e :: es, i + 1, h => by
    have he : e.length = k := h e List.mem_cons_self
    rw [List.flatten_cons, List.take_append, List.take_of_length_le (by rw [he, Nat.add_mul]; omega), he, show (i + 1) * k - k = i * k by rw [Nat.add_mul]; omega, flat_take es i (fun e h' => h e (List.mem_cons_of_mem _ h'))]
    simp
theorem flat_drop {α : Type} {k : Nat} : ∀ (es : List (List α)) (i : Nat), (∀ e ∈ es, e.length = k) → es.flatten.drop (i * k) = (es.drop i).flatten
  | [], i, _ => by simp
  | e :: es, 0, _ => by simp
  | e :: es, i + 1, h => by
    have he : e.length = k := h e List.mem_cons_self
    rw [List.flatten_cons, List.drop_append, List.drop_eq_nil_of_le (by rw [he, Nat.add_mul]; omega), he, show (i + 1) * k - k = i * k by rw [Nat.add_mul]; omega, flat_drop es i (fun e h' => h e (List.mem_cons_of_mem _ h'))]
    simp
theorem setA_row {k : Nat} {es news : List (List IV)} {i m : Nat} (hk : ∀ e ∈ es, e.length = k) (hn : ∀ e ∈ news, e.length = k) (hi : i ≤ es.length) :
    setA (es.flatten.map AV.iv ++ List.replicate m AV.any) (i * k) (news.flatten.map AV.iv) = (es.take i ++ (news ++ es.drop (i + news.length))).flatten.map AV.iv ++ List.replicate (m - (i + news.length - es.length) * k) AV.any := by
  have hl := flatten_len es hk
  have hl2 := flatten_len news hn
  have h1 : i * k ≤ es.length * k := Nat.mul_le_mul_right k hi
  unfold setA
  rw [List.take_append_of_le_length (by rw [List.length_map, hl]; exact h1), ← List.map_take, flat_take es i hk, List.length_map, hl2, ← Nat.add_mul, List.drop_append, ← List.map_drop, flat_drop es _ hk, List.drop_replicate, List.length_map, hl, ← Nat.sub_mul]
  simp [List.append_assoc]
theorem mem_take_len {k i : Nat} {es : List (List IV)} (h : ∀ e ∈ es, e.length = k) : ∀ e ∈ es.take i, e.length = k := fun e he => h e (List.mem_of_mem_take he)
theorem mem_drop_len {k i : Nat} {es : List (List IV)} (h : ∀ e ∈ es, e.length = k) : ∀ e ∈ es.drop i, e.length = k := fun e he => h e (List.mem_of_mem_drop he)
theorem chunks_flat {k : Nat} : ∀ (es : List (List IV)), (∀ e ∈ es, e.length = k) → chunks k es.length es.flatten = es
  | [], _ => rfl
  | e :: es, h => by
    have he : e.length = k := h e List.mem_cons_self
    rw [List.length_cons, chunks, List.flatten_cons, List.take_append_of_le_length (by omega), List.drop_append_of_le_length (by omega), List.take_of_length_le (by omega), List.drop_eq_nil_of_le (by omega), List.nil_append, chunks_flat es (fun e h' => h e (List.mem_cons_of_mem _ h'))]
theorem flat_at {α : Type} {k : Nat} : ∀ (es : List (List α)) (i f : Nat) (e : List α) (x : α), (∀ e ∈ es, e.length = k) → es[i]? = some e → e[f]? = some x → es.flatten[i * k + f]? = some x
  | [], i, f, e, x, _, h, _ => by simp at h
  | a :: es, 0, f, e, x, h, h1, h2 => by
    simp at h1; subst h1
    have := (List.getElem?_eq_some_iff.1 h2).1
    rw [Nat.zero_mul, Nat.zero_add, List.flatten_cons, List.getElem?_append_left this]; exact h2
  | a :: es, i + 1, f, e, x, h, h1, h2 => by
    have he : a.length = k := h a List.mem_cons_self
    rw [List.flatten_cons, List.getElem?_append_right (by rw [he, Nat.add_mul]; omega), he, show (i + 1) * k + f - k = i * k + f by rw [Nat.add_mul]; omega]
    exact flat_at es i f e x (fun e h' => h e (List.mem_cons_of_mem _ h')) (by simpa using h1) h2
theorem flat_pick {α : Type} {k : Nat} (es : List (List α)) (i : Nat) (e : List α) (h : ∀ e ∈ es, e.length = k) (h1 : es[i]? = some e) : (es.flatten.drop (i * k)).take k = e := by
  have he : e.length = k := h e (List.mem_of_getElem? h1)
  rw [flat_drop es i h, List.drop_eq_getElem_cons (List.getElem?_eq_some_iff.1 h1).1, (List.getElem?_eq_some_iff.1 h1).2, List.flatten_cons, List.take_append_of_le_length (by omega), List.take_of_length_le (by omega)]
theorem toIs_iv : ∀ xs : List IV, toIs (xs.map AV.iv) = some xs
  | [] => rfl
  | x :: xs => by simp [toIs, AV.toI, toIs_iv xs]
section
variable {P : Program} {c : Ctx} {st : St} {ops : Array Oper} {Q : Exit → Act → World → Prop} {rest : List Oper} {o : Oper}
theorem Inv.recell {E : Env} {a : Act} {w : World} {fr : List (Nat × AV)} {bx : List (Nat × Box)} {tk : List (Nat × Tok)} {id : Nat} {b b' : Box} (h : Inv c E ⟨fr, (id, b) :: bx, tk⟩ a w) (ht : b.ty = b'.ty) (hc : Subs b.cs b'.cs) : Inv c E ⟨fr, (id, b') :: bx, tk⟩ a w := by
  refine ⟨h.defers, h.size, h.slot, HInv.wk (st := ⟨fr, (id, b) :: bx, tk⟩) (st' := ⟨fr, (id, b') :: bx, tk⟩) h.heap ⟨fun i hin => ?_, fun s v hv => ⟨v, hv, Sub.refl _⟩, fun i b1 hi => ?_, fun i t h => h⟩⟩
  · have h3 := (h.heap.ins i hin).2.2
    simp only at h3 ⊢
    by_cases e : i = id
    · subst e; rw [lookup_cons_eq]; rfl
    · rw [lookup_cons_ne e] at h3 ⊢; exact h3
  · simp only at hi ⊢
    by_cases e : i = id
    · subst e; rw [lookup_cons_eq] at hi ⊢; cases hi; exact ⟨b, rfl, ht, hc⟩
    · rw [lookup_cons_ne e] at hi ⊢; exact ⟨b1, hi, rfl, Subs.refl _⟩
theorem Makes.recell {v : AV} {id : Nat} {b b' : Box} {bx : List (Nat × Box)} {tk : List (Nat × Tok)} (h : Makes P c st o v ((id, b) :: bx) tk) (ht : b.ty = b'.ty) (hc : Subs b.cs b'.cs) : Makes P c st o v ((id, b') :: bx) tk := fun E a w hi => by
  obtain ⟨u, E', w', h1, h2, h3⟩ := h E a w hi
  exact ⟨u, E', w', h1, h2.recell ht hc, h3⟩
theorem Does.recell {id : Nat} {b b' : Box} {bx : List (Nat × Box)} {tk : List (Nat × Tok)} (h : Does P c st o ((id, b) :: bx) tk) (ht : b.ty = b'.ty) (hc : Subs b.cs b'.cs) : Does P c st o ((id, b') :: bx) tk := fun E a w hi => by
  obtain ⟨E', w', h1, h2⟩ := h E a w hi
  exact ⟨E', w', h1, h2.recell ht hc⟩
theorem Subs.of_eq {l l' : List AV} (h : l = l') : Subs l l' := h ▸ Subs.refl l
theorem Reads.row {y : Operand} {k id off m cap mm i : Nat} {ty : TypeId} {es : List (List IV)} (hy : st.ev y = .bsl id off m cap) (hb : st.bx.lookup id = some ⟨ty, .r es.flatten mm⟩) (hk : ∀ e ∈ es, e.length = k) (hoff : off = i * k) (hle : (i + m) * k ≤ es.length * k + mm) :
    Reads P c st y k m (((es.flatten.map AV.iv ++ List.replicate mm AV.any).drop off).take (m * k)) := by
  refine Reads.bsl hy hb rfl ?_
  have hl := flatten_len es hk
  simp only [Box.cs_r, List.length_take, List.length_drop, List.length_append, List.length_map, List.length_replicate, hl, hoff]
  rw [Nat.add_mul] at hle
  omega
theorem row_news {k off m cnt mm i : Nat} {es : List (List IV)} (hk : ∀ e ∈ es, e.length = k) (hoff : off = i * k) (hcm : cnt ≤ m) (hin : i + cnt ≤ es.length) :
    (((es.flatten.map AV.iv ++ List.replicate mm AV.any).drop off).take (m * k)).take (cnt * k) = ((es.drop i).take cnt).flatten.map AV.iv := by
  have hl := flatten_len es hk
  have h1 : (i + cnt) * k ≤ es.length * k := Nat.mul_le_mul_right k hin
  have h2 : cnt * k ≤ m * k := Nat.mul_le_mul_right k hcm
  rw [Nat.add_mul] at h1
  rw [List.take_take, Nat.min_eq_left h2, hoff, List.drop_append_of_le_length (by rw [List.length_map, hl]; omega), List.take_append_of_le_length (by rw [List.length_drop, List.length_map, hl]; omega), ← List.map_drop, ← List.map_take, flat_drop es i hk, flat_take _ cnt (mem_drop_len hk)]
theorem Makes.copyRR {t t' e : TypeId} {x y : Operand} {k n cnt id off cap id' off' n' cap' mm mm' i i' : Nat} {bt bt' : TypeId} {es es' : List (List IV)} (ho : o.op = .call { callee := .builtin .copy, args := #[x, y], argTypes := #[t, t'] }) (hs : sliceOk P t e k = true)
    (hx : st.ev x = .bsl id off n cap) (hb : st.bx.lookup id = some ⟨bt, .r es.flatten mm⟩) (hy : st.ev y = .bsl id' off' n' cap') (hb' : st.bx.lookup id' = some ⟨bt', .r es'.flatten mm'⟩) (hk : ∀ e ∈ es, e.length = k) (hk' : ∀ e ∈ es', e.length = k) (hk0 : 0 < k)
    (hoff : off = i * k) (hoff' : off' = i' * k) (hcnt : Nat.min n' n = cnt) (hpos : 0 < cnt) (hle' : (i' + n') * k ≤ es'.length * k + mm') (hin : i' + cnt ≤ es'.length) (hi : i ≤ es.length) (hm : (i + cnt) * k ≤ es.length * k + mm) :
    Makes P c st o (aI cnt) ((id, ⟨bt, .r (es.take i ++ ((es'.drop i').take cnt ++ es.drop (i + cnt))).flatten (mm - (i + cnt - es.length) * k)⟩) :: st.bx) st.tk := by
  have hcm : cnt ≤ n' := by rw [← hcnt]; exact Nat.min_le_left _ _
  have hl := flatten_len es hk
  have hnl : ((es'.drop i').take cnt).length = cnt := by rw [List.length_take, List.length_drop]; omega
  have h := Makes.copyB (c := c) ho hs hx hb (Reads.row hy hb' hk' hoff' hle') hcnt hpos hk0 (by
    rw [Nat.add_mul] at hm
    simp only [Box.cs_r, List.length_append, List.length_map, List.length_replicate, hl, hoff]; omega)
  refine h.recell rfl (Subs.of_eq ?_)
  rw [row_news hk' hoff' hcm hin]
  simp only [Box.cs_l, Box.cs_r]
  have := setA_row (m := mm) hk (mem_take_len (i := cnt) (mem_drop_len (i := i') hk')) hi
  rw [hnl] at this
  rw [hoff]; exact this
theorem Makes.roomRR {t t' e : TypeId} {d : TypeDesc} {x y : Operand} {k n id cap id' off' n' cap' mm mm' i' : Nat} {bt bt' : TypeId} {es es' : List (List IV)} {i : TypeInfo} (ho : o.op = .call { callee := .builtin .append, args := #[x, y], argTypes := #[t, t'] }) (ht : P.underlying t = some (.slice e)) (hi0 : P.info? e = some i) (hik : i.size = k)
    (hd : P.underlying t' = some d) (hn : notInt d) (hx : st.ev x = .bsl id 0 n cap) (hb : st.bx.lookup id = some ⟨bt, .r es.flatten mm⟩) (hbn : (⟨bt, .r es.flatten mm⟩ : Box).cs ≠ []) (hy : st.ev y = .bsl id' off' n' cap') (hb' : st.bx.lookup id' = some ⟨bt', .r es'.flatten mm'⟩) (hk : ∀ e ∈ es, e.length = k) (hk' : ∀ e ∈ es', e.length = k)
    (hoff' : off' = i' * k) (hin : i' + n' ≤ es'.length) (hc0 : 0 < cap) (hroom : n + n' ≤ cap) (hi : n ≤ es.length) (hm : (n + n') * k ≤ es.length * k + mm) :
    Makes P c st o (.bsl id 0 (n + n') cap) ((id, ⟨bt, .r (es.take n ++ ((es'.drop i').take n' ++ es.drop (n + n'))).flatten (mm - (n + n' - es.length) * k)⟩) :: st.bx) st.tk := by
  have hl := flatten_len es hk
  have hnl : ((es'.drop i').take n').length = n' := by rw [List.length_take, List.length_drop]; omega
  have hle' : (i' + n') * k ≤ es'.length * k + mm' := Nat.le_trans (Nat.mul_le_mul_right k hin) (Nat.le_add_right _ _)
  have h := Makes.roomB (c := c) ho ht hi0 hik hd hn hx hb hbn (Reads.row hy hb' hk' hoff' hle') hc0 hroom (by
    simp only [Box.cs_r, List.length_append, List.length_map, List.length_replicate, hl]; exact hm)
  refine h.recell rfl (Subs.of_eq ?_)
  have h2 := row_news (mm := mm') hk' hoff' (Nat.le_refl n') hin
  rw [List.take_of_length_le (by rw [List.length_take]; omega)] at h2
  rw [h2]
  simp only [Box.cs_l, Box.cs_r]
  have := setA_row (m := mm) hk (mem_take_len (i := n') (mem_drop_len (i := i') hk')) hi
  rw [hnl] at this
  exact this
theorem Adds.row {y : Operand} {k id off n cap mm i : Nat} {ty : TypeId} {es : List (List IV)} (hy : st.ev y = .bsl id off n cap) (hb : st.bx.lookup id = some ⟨ty, .r es.flatten mm⟩) (hk : ∀ e ∈ es, e.length = k) (hk0 : 0 < k) (hoff : off = i * k) (hn0 : 0 < n) (hin : i + n ≤ es.length) :
    Adds P c st y k ((es.drop i).take n) := fun E a w hi => by
  have h := hi.ev y; rw [hy] at h
  obtain ⟨o', hq, hn, hm, hoo⟩ := h.bsl_inv
  have hoe := hoo (by omega)
  obtain ⟨arr, rst, _, hra, h1, _, hc⟩ := hi.boxCell hb
  have hl := flatten_len es hk
  have hnl : ((es.drop i).take n).length = n := by rw [List.length_take, List.length_drop]; omega
  have hal : arr.length = es.length * k + mm := by rw [hra.1]; simp only [Box.cs_r, List.length_append, List.length_map, List.length_replicate, hl]
  have h2 : (i + n) * k ≤ es.length * k := Nat.mul_le_mul_right k hin
  rw [Nat.add_mul] at h2
  have hul : ((arr.drop off).take (n * k)).length = n * k := by rw [List.length_take, List.length_drop, hal, hoff]; omega
  refine ⟨(arr.drop off).take (n * k), ?_, by rw [hnl, hul], fun u hu => h1 u (List.mem_of_mem_drop (List.mem_of_mem_take hu)), fun p e j x v h3 h4 h5 => ?_⟩
  · rw [hq, hnl, hoe]
    exact Src.some hul (fun j v hv => by
      have hj := (List.getElem?_eq_some_iff.1 hv).1
      rw [hul] at hj
      rw [List.getElem?_take, if_pos hj, List.getElem?_drop] at hv
      rw [Addr.add_none, hc _ (List.getElem?_eq_some_iff.1 hv).1]; exact hv)
  · have hpl := (List.getElem?_eq_some_iff.1 h3).1
    rw [hnl] at hpl
    rw [List.getElem?_take, if_pos hpl, List.getElem?_drop] at h3
    have hx := flat_at es (i + p) j e x hk h3 h4
    have hek : e.length = k := hk e (List.mem_of_getElem? h3)
    have hjk := (List.getElem?_eq_some_iff.1 h4).1
    have hpj : p * k + j < n * k := by
      have : (p + 1) * k ≤ n * k := Nat.mul_le_mul_right k hpl
      rw [Nat.add_mul] at this; omega
    rw [List.getElem?_take, if_pos hpj, List.getElem?_drop] at h5
    have hidx : off + (p * k + j) = (i + p) * k + j := by rw [hoff, Nat.add_mul]; omega
    rw [hidx] at h5
    have hcs : (⟨ty, .r es.flatten mm⟩ : Box).cs[(i + p) * k + j]? = some (.iv x) := by
      simp only [Box.cs_r]
      rw [List.getElem?_append_left (by rw [List.length_map]; exact (List.getElem?_eq_some_iff.1 hx).1), List.getElem?_map, hx]; rfl
    exact (hra.2 _ _ v hcs h5).iv_inv
theorem Makes.growR {t t' e : TypeId} {d : TypeDesc} {x y : Operand} {id id' k bytes : Nat} {i : TypeInfo} {z : Value} {n cap mm : Nat} {bt : TypeId} {es news : List (List IV)}
    (ho : o.op = .call { callee := .builtin .append, args := #[x, y], argTypes := #[t, t'] }) (ht : P.underlying t = some (.slice e)) (hi0 : P.info? e = some i) (hik : i.size = k) (hib : i.bytes = bytes) (hiz : i.zero = some z) (hzk : z.cells.size = k) (hz1 : ∀ u ∈ z.cells.toList, u.oneCell' = true)
    (hd : P.underlying t' = some d) (hn : notInt d) (hk0 : 0 < k) (hx : st.ev x = .bsl id 0 n cap) (hb : st.bx.lookup id = some ⟨bt, .r es.flatten mm⟩) (hk : ∀ e ∈ es, e.length = k) (hi : n ≤ es.length) (hcap : cap < n + news.length) (hnk : ∀ e ∈ news, e.length = k) (hy : Adds P c st y k news) (hne : news ≠ [])
    (hm : n + news.length ≤ maxLen) (hby : (n + news.length) * bytes ≤ 140737488355328) (hf : st.fresh id' = true) :
    Makes P c st o (.bsh id' 0 (n + news.length) k) ((id', ⟨e, .r (es.take n ++ news).flatten 0⟩) :: st.bx) st.tk := by
  have hl := flatten_len es hk
  have h1 : n * k ≤ es.length * k := Nat.mul_le_mul_right k hi
  have hold : (((⟨bt, .r es.flatten mm⟩ : Box).cs.drop 0).take (n * k)) = (es.take n).flatten.map AV.iv := by
    simp only [Box.cs_r, List.drop_zero]
    rw [List.take_append_of_le_length (by rw [List.length_map, hl]; exact h1), ← List.map_take, flat_take es n hk]
  have h := Makes.growB (c := c) ho ht hi0 hik hib hiz hzk hz1 hd hn hk0 hx hb hold (by rw [List.length_map, flatten_len _ (mem_take_len hk), List.length_take]; congr 1; omega) hcap hnk hy hne hm hby hf rfl (ments_iv _ _) (ments_iv _ _)
  exact h.recell rfl (Subs.of_eq (by simp))
theorem Makes.growRZ {t t' e : TypeId} {kd kd' : IntKind} {x y : Operand} {m : Nat} {id id' k bytes : Nat} {i : TypeInfo} {z : Value} {n cap mm : Nat} {bt : TypeId} {es : List (List IV)}
    (ho : o.op = .call { callee := .builtin .append, args := #[x, y], argTypes := #[t, t'] }) (ht : P.underlying t = some (.slice e)) (hi0 : P.info? e = some i) (hik : i.size = k) (hib : i.bytes = bytes) (hiz : i.zero = some z) (hzk : z.cells.size = k) (hz1 : ∀ u ∈ z.cells.toList, u.oneCell' = true)
    (hd : P.underlying t' = some (.int kd)) (hk0 : 0 < k) (hx : st.ev x = .bsl id 0 n cap) (hb : st.bx.lookup id = some ⟨bt, .r es.flatten mm⟩) (hk : ∀ e ∈ es, e.length = k) (hi : n ≤ es.length) (hcap : cap < n + m) (hy : st.ev y = .iv (.im (.int kd' (m : Int)))) (hpos : 0 < m)
    (hm : n + m ≤ maxLen) (hby : (n + m) * bytes ≤ 140737488355328) (hf : st.fresh id' = true) :
    Makes P c st o (.bsh id' 0 (n + m) k) ((id', ⟨e, .r (es.take n).flatten (m * k)⟩) :: st.bx) st.tk := by
  have hl := flatten_len es hk
  have h1 : n * k ≤ es.length * k := Nat.mul_le_mul_right k hi
  have hold : (((⟨bt, .r es.flatten mm⟩ : Box).cs.drop 0).take (n * k)) = (es.take n).flatten.map AV.iv := by
    simp only [Box.cs_r, List.drop_zero]
    rw [List.take_append_of_le_length (by rw [List.length_map, hl]; exact h1), ← List.map_take, flat_take es n hk]
  have h := Makes.growZ (c := c) ho ht hi0 hik hib hiz hzk hz1 hd hk0 hx hb hold (by rw [List.length_map, flatten_len _ (mem_take_len hk), List.length_take]; congr 1; omega) hcap hy hpos hm hby hf (ments_iv _ _)
  exact h.recell rfl (Subs.of_eq (by simp))
theorem Makes.cloneR {t t' e : TypeId} {d : TypeDesc} {x y : Operand} {id id' k off bytes : Nat} {i : TypeInfo} {z : Value} {news : List (List IV)}
    (ho : o.op = .call { callee := .builtin .append, args := #[x, y], argTypes := #[t, t'] }) (ht : P.underlying t = some (.slice e)) (hi0 : P.info? e = some i) (hik : i.size = k) (hib : i.bytes = bytes) (hiz : i.zero = some z) (hzk : z.cells.size = k) (hz1 : ∀ u ∈ z.cells.toList, u.oneCell' = true)
    (hd : P.underlying t' = some d) (hn : notInt d) (hk0 : 0 < k) (hx : st.ev x = .bsl id off 0 0) (hnk : ∀ e ∈ news, e.length = k) (hy : Adds P c st y k news) (hne : news ≠ [])
    (hm : news.length ≤ maxLen) (hby : news.length * bytes ≤ 140737488355328) (hf : st.fresh id' = true) :
    Makes P c st o (.bsh id' 0 news.length k) ((id', ⟨e, .r news.flatten 0⟩) :: st.bx) st.tk :=
  (Makes.cloneB (c := c) ho ht hi0 hik hib hiz hzk hz1 hd hn hk0 hx hnk hy hne hm hby hf rfl (ments_iv _ _)).recell rfl (Subs.of_eq (by simp))
theorem Yields.app0 {t t' e e' : TypeId} {k k' : Nat} {x y : Operand} (ho : o.op = .call { callee := .builtin .append, args := #[x, y], argTypes := #[t, t'] }) (hs : sliceOk P t e k = true) (hs' : sliceOk P t' e' k' = true) (hx : (st.ev x).sl? = some []) (hy : (st.ev y).sl? = some []) : Yields P c st o (.iv (.sl [])) := fun E a w hi => by
  obtain ⟨hu, inf, hinf, hsz⟩ := sliceOk_run hs
  obtain ⟨hu', _⟩ := sliceOk_run hs'
  have h1 : RepI E.φ w (.sl []) (a.eval x) := (hi.ev x).sl hx
  have h2 : RepI E.φ w (.sl []) (a.eval y) := (hi.ev y).sl hy
  have hy2 : (Builtin.lenOf (a.eval y)).run P w = .ok 0 w ∧ (Builtin.firstCells inf.size 0 (a.eval y)).run P w = .ok #[] w := by
    generalize a.eval y = uy at h2
    rcases h2.sl_inv with ⟨hq, _⟩ | ⟨ad, cap, hq, _, _, _⟩ | ⟨b, o', cap, k', f, hq, hc, _⟩
    · rw [hq]; exact ⟨rfl, by simp [Builtin.firstCells]⟩
    · rw [hq]; exact ⟨rfl, by simp [Builtin.firstCells, loadCells, loadCellsFrom]⟩
    · rw [hq]; exact ⟨rfl, by simp [Builtin.firstCells, loadCells, loadCellsFrom]⟩
  have hap : (Builtin.append_ #[t, t'] o.type #[a.eval x, a.eval y]).run P w = .ok (a.eval x) w := by
    rcases h1.sl_inv with ⟨hq, _⟩ | ⟨ad, cap, hq, _, _, _⟩ | ⟨b, o', cap, k', f, hq, hc, _⟩
    · rw [hq]; simp [Builtin.append_, run_underlying hu, run_underlying hu', sizeOf, typeInfo, hinf, hy2.1, hy2.2]
    · rw [hq]; cases ad <;> simp [Builtin.append_, run_underlying hu, run_underlying hu', sizeOf, typeInfo, hinf, hy2.1, hy2.2, storeCells]
    · rw [hq]; simp [Builtin.append_, run_underlying hu, run_underlying hu', sizeOf, typeInfo, hinf, hy2.1, hy2.2, storeCells]
  exact ⟨a.eval x, by simp [execOp, ho, resolve, invoke, builtin, hap], .iv h1⟩
end
end Go.Abs
/- A logic of abstract states, part 24: rows of one's own: storing, loading, clearing, literals, publishing; calls that are handed rows. Conditions: each rule's own premises; over any program. -/
namespace Go.Abs
open Go.RowKit (Below)
set_option linter.unusedVariables false
set_option linter.unusedSimpArgs false
theorem row_ne {bt : TypeId} {xs : List IV} {mm : Nat} (h : xs ≠ [] ∨ 0 < mm) : (⟨bt, .r xs mm⟩ : Box).cs ≠ [] := fun e => by
  simp only [Box.cs_r, List.append_eq_nil_iff, List.map_eq_nil_iff, List.replicate_eq_nil_iff] at e
  rcases h with h | h
  · exact h e.1
  · omega
section
variable {P : Program} {c : Ctx} {st : St} {ops : Array Oper} {Q : Exit → Act → World → Prop} {rest : List Oper} {o : Oper}
theorem Does.storeR {t : TypeId} {x y : Operand} {id off k mm i : Nat} {ty : TypeId} {es : List (List IV)} {e : List IV} {v : AV} {agg : Bool} (ho : o.op = .store t x y) (ht : varOk P t agg k = true) (hx : st.ev x = .ptr id off) (hb : st.bx.lookup id = some ⟨ty, .r es.flatten mm⟩)
    (hy : st.ev y = v) (hv : v.lays = true) (hc : v.cells = e.map .iv) (he : e.length = k) (hk : ∀ e ∈ es, e.length = k) (hoff : off = i * k) (hi : i < es.length) : Does P c st o ((id, ⟨ty, .r (es.set i e).flatten mm⟩) :: st.bx) st.tk := by
  have hl := flatten_len es hk
  have h1 : (i + 1) * k ≤ es.length * k := Nat.mul_le_mul_right k hi
  rw [Nat.add_mul] at h1
  have h := Does.store (c := c) ho ht hx hb hy hv (by rw [hc, List.length_map, he]) (by simp only [Box.cs_r, List.length_append, List.length_map, List.length_replicate, hl, hoff]; omega)
  refine h.recell rfl (Subs.of_eq ?_)
  have := setA_row (m := mm) (news := [e]) (i := i) hk (by simpa using he) (by omega)
  have hz : i + 1 - es.length = 0 := by omega
  simp only [List.flatten_cons, List.flatten_nil, List.append_nil, List.length_cons, List.length_nil, Nat.zero_add, hz, Nat.zero_mul, Nat.sub_zero] at this
  simp only [Box.cs_l, Box.cs_r, hc, hoff]
  rw [this, List.set_eq_take_append_cons_drop, if_pos hi]
  simp
theorem Yields.loadAR {t : TypeId} {x : Operand} {id off k mm i : Nat} {ty : TypeId} {es : List (List IV)} {e : List IV} {vs : List AV} (ho : o.op = .load t x) (ht : varOk P t true k = true) (hx : st.ev x = .ptr id off) (hb : st.bx.lookup id = some ⟨ty, .r es.flatten mm⟩)
    (hk : ∀ e ∈ es, e.length = k) (hoff : off = i * k) (he : es[i]? = some e) (hv : e.map AV.iv = vs) : Yields P c st o (.agg vs) := by
  have hl := flatten_len es hk
  have hi : i < es.length := (List.getElem?_eq_some_iff.1 he).1
  have h1 : (i + 1) * k ≤ es.length * k := Nat.mul_le_mul_right k hi
  rw [Nat.add_mul] at h1
  have hp : (((⟨ty, .r es.flatten mm⟩ : Box).cs.drop off).take k) = vs := by
    simp only [Box.cs_r, hoff]
    rw [List.drop_append_of_le_length (by rw [List.length_map, hl]; omega), List.take_append_of_le_length (by rw [List.length_drop, List.length_map, hl]; omega), ← List.map_drop, ← List.map_take, flat_pick es i e hk he, hv]
  have := Yields.loadAP (c := c) ho ht hx hb (k := k) (by rw [hp, ← hv, List.length_map]; exact hk e (List.mem_of_getElem? he))
  rw [hp] at this; exact this
theorem Makes.buildR {t e : TypeId} {n k id : Nat} {parts : Array (Nat × Operand)} {zs : List Value} {cs : List AV} {es : List (List IV)} (ho : o.op = .buildSlice t n parts) (hs : sliceOk P t e k = true)
    (hz : zeroCellsOf P e = some zs) (h1 : zs.all (·.oneCell') = true) (hzl : zs.length = k) (hn : n * k ≤ 16777216) (hnk : 0 < k)
    (hf : fillA (fun i => some (i * k, k)) ((List.range (n * k)).map fun i => constCell (zs.getD (i % k) undef)) (parts.toList.map fun x => (x.1, st.ev x.2)) = some cs)
    (hcs : cs = es.flatten.map .iv) (hcl : es.flatten.length = n * k) (hfr : st.fresh id = true) : Makes P c st o (.bsl id 0 n n) ((id, ⟨e, .r es.flatten 0⟩) :: st.bx) st.tk :=
  (Makes.buildBox (c := c) ho hs hz h1 hzl hn hnk hf (by rw [hcs, List.length_map, hcl]) (by rw [hcs]; exact ments_iv _ _) hfr).recell rfl (Subs.of_eq (by simp [hcs]))
theorem Yields.overlapsR {f : FuncId} {x y : Operand} {ats : Array TypeId} {t tr e : TypeId} {k i j offi n cap offj m capj mm mm' : Nat} {bt bt' : TypeId} {xs ys : List IV} (ho : o.op = .call { callee := .value (.func f), args := #[x, y], argTypes := ats })
    (hok : extOk P f (Extern.SlicesOverlaps.overlaps #[t, t] #[tr])) (hs : sliceOk P t e k = true) (hx : st.ev x = .bsl i offi n cap) (hy : st.ev y = .bsl j offj m capj) (hij : i ≠ j) (hb : st.bx.lookup i = some ⟨bt, .r xs mm⟩) (hb' : st.bx.lookup j = some ⟨bt', .r ys mm'⟩)
    (hoff : cap ≠ 0) (hin : offi < xs.length) (hne : ys ≠ []) : Yields P c st o (aB false) :=
  Yields.overlapsB (c := c) ho hok hs hx hy hij hb hb' (fun e => by simp only [Box.cs_r, List.append_eq_nil_iff, List.map_eq_nil_iff] at e; rw [e.1] at hin; simp at hin)
    (fun e => by simp only [Box.cs_r, List.append_eq_nil_iff, List.map_eq_nil_iff] at e; exact hne e.1) hoff (by simp only [Box.cs_r, List.length_append, List.length_map]; omega)
theorem L.pubB (K j : Nat) {X : Act → World → Prop} {k n : Nat} {ty : TypeId} {es : List (List IV)} {bj : Box} {cs : List AV} (hin : c.ins = []) (hb : st.bx.lookup K = some ⟨ty, .r es.flatten 0⟩) (hk : ∀ e ∈ es, e.length = k) (hk0 : 0 < k) (hne : es ≠ []) (hn : es.length = n)
    (hj : st.bx.lookup j = some bj) (hjn : bj.cs ≠ []) (hjk : (j == K) = false) (hp : Pubs K n k (.sl es) bj.cs cs) (h : L c ⟨st.fr, (j, ⟨bj.ty, .l cs⟩) :: (K, ⟨ty, .l []⟩) :: st.bx, st.tk⟩ X) : L c st X := by
  subst hn
  refine L.publishB K j hin hb (xs := es.flatten) (n := es.length) (k := k) ?_ ?_ hk0 (List.length_pos_iff.2 hne) hj hjn hjk ?_ h
  · simp only [Box.cs_r, List.replicate_zero, List.append_nil]; exact toIs_iv _
  · simp only [Box.cs_r, List.replicate_zero, List.append_nil, List.length_map]; exact flatten_len es hk
  · rw [chunks_flat es hk]; exact hp
theorem L.renameR (s N : Nat) {id cap m k : Nat} {n : Nat} {ty : TypeId} {es : List (List IV)} {X : Act → World → Prop} (hs : st.fr.lookup s = some (.bsl id 0 n cap)) (hb : st.bx.lookup id = some ⟨ty, .r es.flatten m⟩) (hf : st.fresh N = true) (hk : ∀ e ∈ es, e.length = k) (hn : es.length = n) (h0 : 0 < n * k) (hcap : cap * k ≤ n * k + m)
    (h : L c ⟨(s, .bsh N 0 n k) :: st.fr, (N, ⟨ty, .r es.flatten 0⟩) :: (id, ⟨ty, .l []⟩) :: st.bx, st.tk⟩ X) : L c st X := by
  have hl : es.flatten.length = n * k := by rw [flatten_len es hk, hn]
  refine L.rename s N k hs hb hf (.inl (fun e => by rw [e] at hl; simp at hl; omega)) (by rw [hl]; exact hcap) ?_
  rw [List.take_of_length_le (by rw [hl]; exact Nat.le_refl _)]; exact h
theorem AV.mentsIn_iv (l : List Nat) : ∀ xs : List IV, AV.mentsIn l (xs.map .iv) = true
  | [] => rfl
  | x :: xs => by simp [AV.mentsIn, AV.mentIn, mentsIn_iv l xs]
theorem fresh_ne {id d : Nat} {b : Box} (hf : st.fresh d = true) (hb : st.bx.lookup id = some b) : id ≠ d := (St.fresh_bx hf hb).1
theorem L.call01 {f : FuncId} {args : Array Operand} {ats : Array TypeId} {as : List AV} {d k n : Nat} {ty : TypeId} {xs : List IV} (hg : o.guard = none) (hd : o.dst = some d) (hlt : Nat.ble (d + 1) c.nt = true) (ho : o.op = .call { callee := .value (.func f), args := args, argTypes := ats }) (hok : callOk P f = true)
    (hc : CallA P f as [] [(1000, ⟨ty, .r xs 0⟩)] [] (.bsh 1000 0 n k)) (ha : AV.pub.pubs (args.toList.map st.ev) = as) (hm : AV.mentsIn [] as = true) (hf : st.fresh d = true)
    (h : L c ⟨(d, .bsh d 0 n k) :: st.fr, (d, ⟨ty, .r xs 0⟩) :: st.bx, st.tk⟩ (wpList P ops Q rest)) : L c st (wpList P ops Q (o :: rest)) := by
  have hs : Abs.sws [(1000, d)] 1000 = d := by simp [Abs.sws, sw]
  have h2 := hc.sws [(1000, d)] (AV.rens_id as hm) (bx2 := []) (bx2' := [(d, ⟨ty, .r xs 0⟩)]) (tk2' := []) (res2 := .bsh d 0 n k) rfl (by simp [renB, hs, Box.ren]) rfl (by simp [AV.ren, hs])
  exact L.callN (bxi := []) [d] hg hd hlt ho hok h2 (.of_pub ha) .nil (by simp [hf]) (by simp [boOk, keys]) rfl (by simp [AV.mentsIn_iv]) (by simp [AV.mentIn]) h
theorem L.call02 {f : FuncId} {args : Array Operand} {ats : Array TypeId} {as : List AV} {d k n k' n' : Nat} {ty ty' : TypeId} {xs xs' : List IV} (hg : o.guard = none) (hd : o.dst = some d) (hlt : Nat.ble (d + 1) c.nt = true) (ho : o.op = .call { callee := .value (.func f), args := args, argTypes := ats }) (hok : callOk P f = true)
    (hc : CallA P f as [] [(1000, ⟨ty, .r xs 0⟩), (1001, ⟨ty', .r xs' 0⟩)] [] (.agg [.bsh 1000 0 n k, .bsh 1001 0 n' k'])) (ha : AV.pub.pubs (args.toList.map st.ev) = as) (hm : AV.mentsIn [] as = true) (hf : st.fresh d = true) (hf' : st.fresh (d + 2000) = true)
    (h : L c ⟨(d, .agg [.bsh d 0 n k, .bsh (d + 2000) 0 n' k']) :: st.fr, (d, ⟨ty, .r xs 0⟩) :: (d + 2000, ⟨ty', .r xs' 0⟩) :: st.bx, st.tk⟩ (wpList P ops Q rest)) : L c st (wpList P ops Q (o :: rest)) := by
  have hs : Abs.sws [(1001, d + 2000), (1000, d)] 1000 = d := sws_tl (by decide) (sws_hd _ _ _) (by omega)
  have hs' : Abs.sws [(1001, d + 2000), (1000, d)] 1001 = d + 2000 := sws_hd _ _ _
  have h2 := hc.sws [(1001, d + 2000), (1000, d)] (AV.rens_id as hm) (bx2 := []) (bx2' := [(d, ⟨ty, .r xs 0⟩), (d + 2000, ⟨ty', .r xs' 0⟩)]) (tk2' := []) (res2 := .agg [.bsh d 0 n k, .bsh (d + 2000) 0 n' k']) rfl (by simp [renB, hs, hs', Box.ren]) rfl (by simp [AV.ren, AV.rens, hs, hs'])
  exact L.callN (bxi := []) [d, d + 2000] hg hd hlt ho hok h2 (.of_pub ha) .nil (by simp [hf, hf']) (by simp [boOk, keys]) rfl (by simp [AV.mentsIn_iv]) (by simp [AV.mentIn, AV.mentsIn]) h
theorem L.call21 {f : FuncId} {args : Array Operand} {ats : Array TypeId} {i : AV} {d a v k n m n' : Nat} {ty ty' : TypeId} {xs vs ys : List IV} (hg : o.guard = none) (hd : o.dst = some d) (hlt : Nat.ble (d + 1) c.nt = true) (ho : o.op = .call { callee := .value (.func f), args := args, argTypes := ats }) (hok : callOk P f = true)
    (hc : CallA P f [.bsh 1000 0 n k, i, .bsl 1001 0 m m] [(1000, ⟨ty, .r xs 0⟩), (1001, ⟨ty', .r vs 0⟩)] [(1002, ⟨ty, .r ys 0⟩), (1000, ⟨ty, .l []⟩), (1001, ⟨ty', .l []⟩)] [] (.bsh 1002 0 n' k)) (ha : AV.pub.pubs (args.toList.map st.ev) = [.bsh a 0 n k, i, .bsl v 0 m m])
    (hb : st.bx.lookup a = some ⟨ty, .r xs 0⟩) (hb' : st.bx.lookup v = some ⟨ty', .r vs 0⟩) (hx : xs ≠ []) (hv : vs ≠ []) (hav : (a == v) = false) (hm : AV.mentIn [] i = true) (hf : st.fresh d = true)
    (h : L c ⟨(d, .bsh d 0 n' k) :: st.fr, (d, ⟨ty, .r ys 0⟩) :: (a, ⟨ty, .l []⟩) :: (v, ⟨ty', .l []⟩) :: st.bx, st.tk⟩ (wpList P ops Q rest)) : L c st (wpList P ops Q (o :: rest)) := by
  have hne := fresh_ne hf hb
  have hne' := fresh_ne hf hb'
  have hav' : a ≠ v := by simpa using hav
  have hs : Abs.sws [(1002, d), (1001, v), (1000, a)] 1000 = a := sws_tl (by decide) (sws_tl (by decide) (sws_hd _ _ _) hav') hne
  have hs1 : Abs.sws [(1002, d), (1001, v), (1000, a)] 1001 = v := sws_tl (by decide) (sws_hd _ _ _) hne'
  have hs2 : Abs.sws [(1002, d), (1001, v), (1000, a)] 1002 = d := sws_hd _ _ _
  have h2 := hc.sws [(1002, d), (1001, v), (1000, a)] (args2 := [.bsh a 0 n k, i, .bsl v 0 m m]) (bx2 := [(a, ⟨ty, .r xs 0⟩), (v, ⟨ty', .r vs 0⟩)]) (bx2' := [(d, ⟨ty, .r ys 0⟩), (a, ⟨ty, .l []⟩), (v, ⟨ty', .l []⟩)]) (tk2' := []) (res2 := .bsh d 0 n' k)
    (by simp [AV.rens, AV.ren, hs, hs1, AV.ren_id i hm]) (by simp [renB, hs, hs1, Box.ren]) (by simp [renB, hs, hs1, hs2, Box.ren, AV.rens]) rfl (by simp [AV.ren, hs2])
  exact L.callN (bxi := [(a, ⟨ty, .r xs 0⟩), (v, ⟨ty', .r vs 0⟩)]) [d] hg hd hlt ho hok h2 (.of_pub ha) (.cons hb rfl (Subs.refl _) (.cons hb' rfl (Subs.refl _) .nil)) (by simp [hf]) (by simp [boOk, keys, hx, hv]) rfl (by simp [AV.mentsIn_iv, AV.mentsIn]) (by simp [AV.mentIn]) h
end
end Go.Abs
/- A logic of abstract states, part 25: an append that uses its row up; loops unrolled; nil slices with room to come. Conditions: each rule's own premises; over any program. -/
namespace Go.Abs
open Go.RowKit (Below)
set_option linter.unusedVariables false
set_option linter.unusedSimpArgs false
mutual
theorem mentIn_mono {l : List Nat} : ∀ (v : AV), AV.mentIn [] v = true → AV.mentIn l v = true
  | .any, _ => rfl
  | .iv _, _ => rfl
  | .nils, _ => rfl
  | .emp, _ => rfl
  | .el _, _ => rfl
  | .row i _, h => by simp [AV.mentIn] at h
  | .ptr i _, h => by simp [AV.mentIn] at h
  | .bsl i _ _ _, h => by simp [AV.mentIn] at h
  | .bsh i _ _ _, h => by simp [AV.mentIn] at h
  | .agg cs, h => by simp only [AV.mentIn] at h ⊢; exact mentsIn_mono cs h
  | .tup cs, h => by simp only [AV.mentIn] at h ⊢; exact mentsIn_mono cs h
  | .fn _ cs, h => by simp only [AV.mentIn] at h ⊢; exact mentsIn_mono cs h
  | .opt _ v, h => by simp only [AV.mentIn] at h ⊢; exact mentIn_mono v h
theorem mentsIn_mono {l : List Nat} : ∀ (vs : List AV), AV.mentsIn [] vs = true → AV.mentsIn l vs = true
  | [], _ => rfl
  | v :: vs, h => by
    simp only [AV.mentsIn, Bool.and_eq_true] at h ⊢
    exact ⟨mentIn_mono v h.1, mentsIn_mono vs h.2⟩
end
section
variable {P : Program} {c : Ctx} {st : St} {ops : Array Oper} {Q : Exit → Act → World → Prop} {rest : List Oper} {o : Oper}
theorem Yields.capNil {t : TypeId} {x : Operand} (ho : o.op = .call { callee := .builtin .cap, args := #[x], argTypes := #[t] }) {e : TypeId} {k : Nat} (hs : sliceOk P t e k = true) (hx : st.ev x = .nils) : Yields P c st o (aI 0) :=
  .im rfl fun E a w hi => by
    obtain ⟨hu, _⟩ := sliceOk_run hs
    have h := hi.ev x; rw [hx] at h
    have hq : a.eval x = .slice none 0 0 := by generalize a.eval x = u at h; cases h; rfl
    simp [execOp, ho, resolve, invoke, builtin, hq, Builtin.cap_, run_underlying hu, goInt]
theorem Yields.slNil {x y : Operand} {t e : TypeId} {k : Nat} {kd : IntKind} {j : Int} (ho : o.op = .slice t x none (some y) none) (hx : st.ev x = .nils) (hy : st.ev y = .iv (.im (.int kd j))) (hs : sliceOk P t e k = true) (h0 : j = 0) : Yields P c st o .nils := fun E a w hi => by
  obtain ⟨hu, hz⟩ := sl_facts hs w
  have h := hi.ev x; rw [hx] at h
  have hq : a.eval x = .slice none 0 0 := by generalize a.eval x = u at h; cases h; rfl
  refine ⟨_, ?_, .nils⟩
  subst h0
  have := run_slice_h (P := P) w t none 0 0 hu kd 0 (by omega) (by omega)
  simp [execOp, ho, hq, hi.im hy, run_sliceAt_slice w t _ _ _ _ hu, this, hz, Result.andThen, sliced]
theorem Yields.slBshH {x y : Operand} {t e : TypeId} {k id n : Nat} {kd : IntKind} {j : Int} (ho : o.op = .slice t x none (some y) none) (hx : st.ev x = .bsh id 0 n k) (hy : st.ev y = .iv (.im (.int kd j))) (hs : sliceOk P t e k = true)
    (h0 : 0 ≤ j) (h1 : j ≤ n) : Yields P c st o (.bsh id 0 j.toNat k) := fun E a w hi => by
  obtain ⟨hu, hz⟩ := sl_facts hs w
  have h := hi.ev x; rw [hx] at h
  obtain ⟨cap, o', hq, hn, hm, he, hoo⟩ := h.bsh_inv
  simp only [Nat.sub_zero, Nat.zero_mul, Nat.zero_add] at hq hn hoo
  have := run_slice_h (P := P) w t (some ⟨E.ρ id, o', none⟩) n cap hu kd j h0 (by omega)
  have hs2 : sliced (some ⟨E.ρ id, o', none⟩) 0 j.toNat cap k = .slice (some ⟨E.ρ id, o', none⟩) j.toNat cap := by
    unfold sliced
    by_cases e : cap = 0
    · rw [if_pos e]
      have : j.toNat = 0 := by omega
      simp [this, e]
    · rw [if_neg e]; simp [Addr.add_none]
  refine ⟨.slice (some ⟨E.ρ id, o', none⟩) j.toNat cap, ?_, .bsh (cap := cap) (o := o') (by omega) hm he (fun h => by simpa using hoo (by omega)) (by simp)⟩
  simp [execOp, ho, hq, hi.im hy, run_sliceAt_slice w t _ _ _ _ hu, this, hz, Result.andThen, hs2]
theorem Makes.growNZ {t t' e : TypeId} {kd kd' : IntKind} {x y : Operand} {m : Nat} {id' k bytes : Nat} {i : TypeInfo} {z : Value}
    (ho : o.op = .call { callee := .builtin .append, args := #[x, y], argTypes := #[t, t'] }) (ht : P.underlying t = some (.slice e)) (hi0 : P.info? e = some i) (hik : i.size = k) (hib : i.bytes = bytes) (hiz : i.zero = some z) (hzk : z.cells.size = k) (hz1 : ∀ u ∈ z.cells.toList, u.oneCell' = true)
    (hd : P.underlying t' = some (.int kd)) (hk0 : 0 < k) (hx : st.ev x = .nils) (hy : st.ev y = .iv (.im (.int kd' (m : Int)))) (hpos : 0 < m)
    (hm : m ≤ maxLen) (hby : m * bytes ≤ 140737488355328) (hf : st.fresh id' = true) :
    Makes P c st o (.bsh id' 0 m k) ((id', ⟨e, .r [] (m * k)⟩) :: st.bx) st.tk := fun E a w hi => by
  subst hik; subst hib
  have hyq := hi.im hy
  have h := hi.ev x; rw [hx] at h
  have hq : a.eval x = .slice none 0 0 := by generalize a.eval x = u at h; cases h; rfl
  have hexec : (execOp a.eval o).run P w = ((Builtin.append_ #[t, t'] o.type #[a.eval x, a.eval y]).run P w).andThen fun v w' => .ok (.value v) w' := by
    simp [execOp, ho, resolve, invoke, builtin]
  have hrun := Lib.run_append_grow_zeros w t t' o.type e i z kd' kd ht hd hi0 hiz none 0 0 [] (by simp [Builtin.firstCells]) m hpos hk0 (by omega) (by simp only [maxLen] at hm; omega) (by omega) (growslice_fits (by omega) (by simpa using hby))
  simp only [Nat.zero_add] at hrun
  have hge : m ≤ grownCap w m 0 e := grownCap_ge _ _ _ _
  have hcm := grownCap_le_maxLen w m 0 e hm
  have hlen : ((Builtin.zeroCells z.cells m).toList ++ (Builtin.zeroCells z.cells (grownCap w m 0 e - m)).toList).length = grownCap w m 0 e * i.size := by
    simp only [List.length_append, Array.length_toList, size_zeroCells, hzk]
    rw [← Nat.add_mul]; congr 1; omega
  have hul : (Builtin.zeroCells z.cells m).toList.length = m * i.size := by rw [Array.length_toList, size_zeroCells, hzk]
  have hz0 : ∀ (q : Nat) (u : Value), u ∈ (Builtin.zeroCells z.cells q).toList → u.oneCell' = true := fun q u hu => by
    simp only [Builtin.zeroCells, Array.toList_map, Array.toList_range, List.mem_map, List.mem_range] at hu
    obtain ⟨p, _, rfl⟩ := hu
    have hlt : p % z.cells.size < z.cells.size := Nat.mod_lt _ (by rw [hzk]; exact hk0)
    rw [getElem!_pos z.cells _ hlt]
    exact hz1 _ (by simp)
  have hi' := hi.drew.newRoom hf (ty := e) (cs := List.replicate (m * i.size) AV.any) (us := (Builtin.zeroCells z.cells m).toList ++ (Builtin.zeroCells z.cells (grownCap w m 0 e - m)).toList) (capV i.size (grownCap w m 0 e))
    (by rw [hlen, List.length_replicate]; exact Nat.mul_le_mul_right _ hge)
    (fun p x u hx hu => by
      simp only [List.getElem?_replicate] at hx
      split at hx
      · cases hx; exact .any
      · cases hx)
    (fun u hu => by
      rcases List.mem_append.1 hu with hu | hu
      · exact hz0 _ u hu
      · exact hz0 _ u hu)
    (ments_any _ _) (fun k' cap' he => by
      obtain ⟨rfl, rfl⟩ := capV_inj he
      exact Nat.le_of_eq hlen.symm)
  refine ⟨_, _, _, ?_, hi'.recell (b' := ⟨e, .r [] (m * i.size)⟩) rfl (Subs.of_eq (by simp)), .bsh (cap := grownCap w m 0 e) (o := 0) (by omega) hcm (by simp [Env.upd]) (fun _ => by simp) rfl⟩
  rw [hexec, hq, hyq, hrun]
  simp [Env.upd]
  congr 2
  apply Array.ext'
  simp
end
end Go.Abs
/- A logic of abstract states, part 26: rows that grow in the cells of a box. Conditions: each rule's own premises; over any program. -/
namespace Go.Abs
open Go.RowKit (Below)
set_option linter.unusedVariables false
set_option linter.unusedSimpArgs false
variable {P : Program} {c : Ctx} {st : St}
inductive Tk (a b : Nat) : AV → AV → Prop
  | same {v : AV} : Tk a b v v
  | row {es : List (List IV)} : Tk a b (.row a es) (.row b es)
  | agg {l l' : List AV} (hl : l'.length = l.length) (h : ∀ (i : Nat) (x y : AV), l[i]? = some x → l'[i]? = some y → Tk a b x y) : Tk a b (.agg l) (.agg l')
inductive Tks (a b : Nat) : List AV → List AV → Prop
  | nil : Tks a b [] []
  | cons {v v' : AV} {l l' : List AV} (h : Tk a b v v') (t : Tks a b l l') : Tks a b (v :: l) (v' :: l')
theorem Tks.get {a b : Nat} {l l' : List AV} (h : Tks a b l l') : l'.length = l.length ∧ ∀ (i : Nat) (v : AV), l'[i]? = some v → ∃ v0, l[i]? = some v0 ∧ Tk a b v0 v := by
  induction h with
  | nil => exact ⟨rfl, fun i v h => by simp at h⟩
  | cons h _ ih =>
    refine ⟨by simp [ih.1], fun i v hv => ?_⟩
    cases i with
    | zero => simp at hv; subst hv; exact ⟨_, rfl, h⟩
    | succ i => exact ih.2 i v (by simpa using hv)
theorem Tk.rep {a b : Nat} {E : Env} (he : E.η b = E.η a) {w : World} {v v' : AV} (h : Tk a b v v') : ∀ {u : Value}, RepA E w v u → RepA E w v' u := by
  induction h with
  | same => exact fun hu => hu
  | row =>
    intro u hu
    cases hu with
    | row hu h => exact .row (by rw [he]; exact hu) h
  | agg hl h ih =>
    intro u hu
    cases hu with
    | agg hl2 h1 hr =>
      refine .agg (by rw [hl2, hl]) h1 (fun i x y hx hy => ?_)
      have hi := (List.getElem?_eq_some_iff.1 hx).1
      rw [hl] at hi
      exact ih i _ x (List.getElem?_eq_getElem hi) hx (hr i _ y (List.getElem?_eq_getElem hi) hy)
theorem HInv.recs {E : Env} {w : World} {tk : List (Nat × Tok)} {bx : List (Nat × Box)} (hh : HInv c E bx tk w) {j : Nat} {bj : Box} {cs : List AV} (hj : bx.lookup j = some bj) (hjn : bj.cs ≠ [])
    (hl : cs.length = bj.cs.length) (h : ∀ (i : Nat) (v : AV), cs[i]? = some v → ∃ v0, bj.cs[i]? = some v0 ∧ ∀ u, RepA E w v0 u → RepA E w v u) : HInv c E ((j, ⟨bj.ty, .l cs⟩) :: bx) tk w := by
  refine hh.reBox hj hjn (fun hn => ?_)
  obtain ⟨g0, arr, ha, hla, h1, hr, hη⟩ := hh.box j bj hj hjn
  refine ⟨g0, arr, ha, by simpa [hl] using hla, h1, fun i x u hx hu => ?_, hη⟩
  obtain ⟨v0, hv0, hp0⟩ := h i x hx
  exact hp0 u (hr i v0 u hv0 hu)
theorem retok_core {t : Tok} (a b : Nat) (ht : st.tk.lookup a = some t) (hf : st.fresh b = true) (hin : c.ins.contains b = false) {E : Env} {act : Act} {w : World} (hi : Inv c E st act w) :
    ∃ E' : Env, Inv c E' ⟨st.fr, st.bx, (b, t) :: delTok a st.tk⟩ act w ∧ E'.η b = E'.η a := by
  have hab : a ≠ b := St.fresh_tk hf ht
  have mono : ∀ (v : AV) (u : Value), AV.ment b v = false → RepA E w v u → RepA ⟨E.φ, E.ρ, fun i => if i = b then E.η a else E.η i⟩ w v u := fun v u hm hr =>
    hr.mono (E := E) (E' := ⟨E.φ, E.ρ, fun i => if i = b then E.η a else E.η i⟩) (fun _ _ _ => rfl) (fun _ => Nat.le_refl _) (fun i hi' => ⟨rfl, by
      have : i ≠ b := fun e => by subst e; rw [hm] at hi'; cases hi'
      simp [this]⟩)
  have hh : HInv c ⟨E.φ, E.ρ, fun i => if i = b then E.η a else E.η i⟩ st.bx st.tk w := hi.heap.reEta
    (fun i bb h0 k v u hv hr => mono v u (AV.ments_false (St.fresh_bx hf h0).2 k v hv) hr)
    (fun j t' hj => by simp only [if_neg (St.fresh_tk hf hj)])
    (fun id hid => by
      have : id ≠ b := fun e => by subst e; simp at hin; exact hin hid
      simp only [if_neg this])
    (fun i bb h0 => by simp only [if_neg (St.fresh_bx hf h0).1])
  have hh' : HInv c ⟨E.φ, E.ρ, fun i => if i = b then E.η a else E.η i⟩ st.bx (delTok a st.tk) w := by
    have hw : Wk c st ⟨st.fr, st.bx, delTok a st.tk⟩ := ⟨fun id hid => (hi.heap.ins id hid).2.2, fun s v hv => ⟨v, hv, Sub.refl _⟩, fun id bb hb => ⟨bb, hb, rfl, Subs.refl _⟩, fun id t' ht' => by
      simp only at ht'; rw [delTok_look'] at ht'
      split at ht'
      · cases ht'
      · exact ht'⟩
    exact hh.wk (st := st) (st' := ⟨st.fr, st.bx, delTok a st.tk⟩) hw
  refine ⟨⟨E.φ, E.ρ, fun i => if i = b then E.η a else E.η i⟩, ⟨hi.defers, hi.size, fun s' v hv => mono v _ (St.fresh_fr hf hv) (hi.slot s' v hv), ?_⟩, by simp [hab]⟩
  refine hh'.addTok ?_ (fun j t' g hj hl hg => ?_) (fun i bb hb hn => ?_) (fun g hg => ?_)
  · have := hi.heap.tok a t ht
    simp only [TokOk, if_true] at this ⊢
    exact this
  · rw [delTok_look'] at hl
    split at hl
    · cases hl
    · rename_i hja
      simp only [if_neg hj, if_true] at hg ⊢
      intro hg'
      exact hja (hi.heap.tt j a t' t g hl ht hg hg')
  · simp only [if_true]
    exact hi.heap.bt i a bb t hb hn ht
  · simp only [if_true] at hg
    exact hi.heap.ownt a t g ht hg
theorem L.retokB {t : Tok} {X : Act → World → Prop} {bj : Box} {cs : List AV} (j a b : Nat) (hj : st.bx.lookup j = some bj) (hjn : bj.cs ≠ []) (ht : st.tk.lookup a = some t) (hf : st.fresh b = true) (hin : c.ins.contains b = false) (hp : Tks a b bj.cs cs)
    (h : L c ⟨st.fr, (j, ⟨bj.ty, .l cs⟩) :: st.bx, (b, t) :: delTok a st.tk⟩ X) : L c st X := by
  rintro act w ⟨E, hi⟩
  obtain ⟨E', hi2, he⟩ := retok_core a b ht hf hin hi
  obtain ⟨hl, hg⟩ := hp.get
  exact h act w ⟨E', hi2.defers, hi2.size, hi2.slot, hi2.heap.recs hj hjn hl (fun i v hv => by
    obtain ⟨v0, h0, hq⟩ := hg i v hv
    exact ⟨v0, h0, fun u hu => hq.rep he hu⟩)⟩
inductive Ad (id : Nat) : AV → AV → Prop
  | same {v : AV} : Ad id v v
  | here : Ad id .nils (.row id [])
inductive Ads (id : Nat) : List AV → List AV → Prop
  | nil : Ads id [] []
  | cons {v v' : AV} {l l' : List AV} (h : Ad id v v') (t : Ads id l l') : Ads id (v :: l) (v' :: l')
theorem Ads.get {id : Nat} {l l' : List AV} (h : Ads id l l') : l'.length = l.length ∧ ∀ (i : Nat) (v : AV), l'[i]? = some v → ∃ v0, l[i]? = some v0 ∧ Ad id v0 v := by
  induction h with
  | nil => exact ⟨rfl, fun i v h => by simp at h⟩
  | cons h _ ih =>
    refine ⟨by simp [ih.1], fun i v hv => ?_⟩
    cases i with
    | zero => simp at hv; subst hv; exact ⟨_, rfl, h⟩
    | succ i => exact ih.2 i v (by simpa using hv)
theorem adopt_core (id : Nat) (t : TypeId) (k : Nat) (hf : st.fresh id = true) (hin : c.ins.contains id = false) {E : Env} {a : Act} {w : World} (hi : Inv c E st a w) :
    ∃ E' : Env, Inv c E' ⟨st.fr, st.bx, (id, ⟨t, k⟩) :: st.tk⟩ a w ∧ E'.η id = .slice none 0 0 := by
  have mono : ∀ (v : AV) (u : Value), AV.ment id v = false → RepA E w v u → RepA ⟨E.φ, E.ρ, fun i => if i = id then .slice none 0 0 else E.η i⟩ w v u := fun v u hm hr =>
    hr.mono (E := E) (E' := ⟨E.φ, E.ρ, fun i => if i = id then .slice none 0 0 else E.η i⟩) (fun _ _ _ => rfl) (fun _ => Nat.le_refl _) (fun i hi' => ⟨rfl, by
      have : i ≠ id := fun e => by subst e; rw [hm] at hi'; cases hi'
      simp [this]⟩)
  have hh : HInv c ⟨E.φ, E.ρ, fun i => if i = id then .slice none 0 0 else E.η i⟩ st.bx st.tk w := hi.heap.reEta
    (fun i bb h0 k v u hv hr => mono v u (AV.ments_false (St.fresh_bx hf h0).2 k v hv) hr)
    (fun j t' hj => by simp only [if_neg (St.fresh_tk hf hj)])
    (fun i hid => by
      have : i ≠ id := fun e => by subst e; simp at hin; exact hin hid
      simp only [if_neg this])
    (fun i bb h0 => by simp only [if_neg (St.fresh_bx hf h0).1])
  refine ⟨⟨E.φ, E.ρ, fun i => if i = id then .slice none 0 0 else E.η i⟩, ⟨hi.defers, hi.size, fun s' v hv => mono v _ (St.fresh_fr hf hv) (hi.slot s' v hv), ?_⟩, by simp⟩
  exact hh.addTok (.inl (by simp)) (fun j t' g hj hl hg => by simp [Value.ownBlock]) (fun i b hb hn => by simp [Value.ownBlock]) (fun g hg => by simp [Value.ownBlock] at hg)
theorem L.adoptB {X : Act → World → Prop} {bj : Box} {cs : List AV} (j id : Nat) (t : TypeId) (k : Nat) (hj : st.bx.lookup j = some bj) (hjn : bj.cs ≠ []) (hf : st.fresh id = true) (hin : c.ins.contains id = false) (hp : Ads id bj.cs cs)
    (h : L c ⟨st.fr, (j, ⟨bj.ty, .l cs⟩) :: st.bx, (id, ⟨t, k⟩) :: st.tk⟩ X) : L c st X := by
  rintro act w ⟨E, hi⟩
  obtain ⟨E', hi2, he⟩ := adopt_core id t k hf hin hi
  obtain ⟨hl, hg⟩ := hp.get
  exact h act w ⟨E', hi2.defers, hi2.size, hi2.slot, hi2.heap.recs hj hjn hl (fun i v hv => by
    obtain ⟨v0, h0, hq⟩ := hg i v hv
    refine ⟨v0, h0, fun u hu => ?_⟩
    cases hq with
    | same => exact hu
    | here => cases hu; exact .row (by rw [he]) .nil)⟩
theorem Box.ren_id {π : Nat → Nat} {b : Box} (h : AV.mentsIn [] b.cs = true) : b.ren π = b := by
  obtain ⟨ty, cc⟩ := b
  cases cc with
  | l cs => simp only [Box.cs_l] at h; simp only [Box.ren]; rw [AV.rens_id cs h]
  | r xs m => rfl
theorem L.callGN {gs : Globs} (N : List Nat) {o : Oper} {ops : Array Oper} {rest : List Oper} {Q : Exit → Act → World → Prop} {f : FuncId} {args : Array Operand} {ats : Array TypeId} {as : List AV} {bxi bxo : List (Nat × Box)} {tko : List (Nat × Tok)} {res : AV} {d : Nat} (hg : o.guard = none) (hd : o.dst = some d) (hlt : Nat.ble (d + 1) c.nt = true) (hG : Glob gs c.E0 c.w0)
    (ho : o.op = .call { callee := .value (.func f), args := args, argTypes := ats }) (hok : callOk P f = true) (hc : CallG gs P f as bxi bxo tko res) (ha : Subs (args.toList.map st.ev) as) (hbi : WkB st.bx bxi)
    (hN : N.all (fun id => st.fresh id) = true) (hbo : boOk N bxi bxo = true) (hto : (keys tko).all (fun id => N.contains id) = true)
    (hmb : bxo.all (fun p => AV.mentsIn (N ++ keys bxi) p.2.cs) = true) (hmr : AV.mentIn (N ++ keys bxi) res = true)
    (h : L c ⟨(d, res) :: st.fr, bxo ++ st.bx, tko ++ st.tk⟩ (wpList P ops Q rest)) : L c st (wpList P ops Q (o :: rest)) :=
  L.enterG N hg hd hlt hG (fun E a w hi => ⟨args.toList.map a.eval, by
    have hargs : (args.toList.map a.eval).toArray = args.map a.eval := by apply Array.ext'; simp
    rw [hargs]
    simp [execOp, ho, resolve, Deferred.ofValue, Act.eval, invoke, run_callOk hok], (hi.evs args).sub ha⟩) hc hbi hN hbo hto hmb hmr h
theorem L.callG1 {gs : Globs} {o : Oper} {ops : Array Oper} {rest : List Oper} {Q : Exit → Act → World → Prop} {f : FuncId} {args : Array Operand} {ats : Array TypeId} {as1 as : List AV} {d q : Nat} {b b' : Box} {res : AV} (hg : o.guard = none) (hd : o.dst = some d) (hlt : Nat.ble (d + 1) c.nt = true) (ho : o.op = .call { callee := .value (.func f), args := args, argTypes := ats }) (hok : callOk P f = true)
    (hG : Glob gs c.E0 c.w0) (hc : CallG gs P f as1 [(1000, b)] [(1000, b')] [] res) (ha : AV.pub.pubs (args.toList.map st.ev) = as) (h1 : AV.rens (Abs.sws [(1000, q)]) as1 = as) (hb : st.bx.lookup q = some b) (hbn : b.cs.isEmpty = false) (hm : AV.mentsIn [] b.cs = true) (hm' : AV.mentsIn [] b'.cs = true) (hr : AV.mentIn [] res = true)
    (h : L c ⟨(d, res) :: st.fr, (q, b') :: st.bx, st.tk⟩ (wpList P ops Q rest)) : L c st (wpList P ops Q (o :: rest)) := by
  have hs : Abs.sws [(1000, q)] 1000 = q := sws_hd _ _ _
  have h2 := hc.sws [(1000, q)] h1 (bx2 := [(q, b)]) (bx2' := [(q, b')]) (tk2' := []) (res2 := res) (by simp [renB, hs, Box.ren_id hm]) (by simp [renB, hs, Box.ren_id hm']) rfl (AV.ren_id res hr)
  exact L.callGN (bxi := [(q, b)]) [] hg hd hlt hG ho hok h2 (.of_pub ha) (.cons hb rfl (Subs.refl _) .nil) rfl (by simp [boOk, keys, hbn]) rfl (by simp [mentsIn_mono _ hm']) (mentIn_mono _ hr) h
theorem CallG.at1 {gs : Globs} {f : FuncId} {as1 as : List AV} {q : Nat} {b b' : Box} {res : AV} (hc : CallG gs P f as1 [(1000, b)] [(1000, b')] [] res) (h1 : AV.rens (Abs.sws [(1000, q)]) as1 = as) (hm : AV.mentsIn [] b.cs = true) (hm' : AV.mentsIn [] b'.cs = true) (hr : AV.mentIn [] res = true) :
    CallG gs P f as [(q, b)] [(q, b')] [] res := by
  have hs : Abs.sws [(1000, q)] 1000 = q := sws_hd _ _ _
  exact hc.sws [(1000, q)] h1 (by simp [renB, hs, Box.ren_id hm]) (by simp [renB, hs, Box.ren_id hm']) rfl (AV.ren_id res hr)
theorem L.callQ1 {gs : Globs} {o : Oper} {ops : Array Oper} {rest : List Oper} {Q : Exit → Act → World → Prop} {f : FuncId} {args : Array Operand} {ats : Array TypeId} {as : List AV} {d q : Nat} {b b' : Box} {res : AV} (hg : o.guard = none) (hd : o.dst = some d) (hlt : Nat.ble (d + 1) c.nt = true) (ho : o.op = .call { callee := .value (.func f), args := args, argTypes := ats }) (hok : callOk P f = true)
    (hG : Glob gs c.E0 c.w0) (hc : CallG gs P f as [(q, b)] [(q, b')] [] res) (ha : AV.pub.pubs (args.toList.map st.ev) = as) (hb : st.bx.lookup q = some b) (hbn : b.cs.isEmpty = false) (hm' : AV.mentsIn [] b'.cs = true) (hr : AV.mentIn [] res = true)
    (h : L c ⟨(d, res) :: st.fr, (q, b') :: st.bx, st.tk⟩ (wpList P ops Q rest)) : L c st (wpList P ops Q (o :: rest)) :=
  L.callGN (bxi := [(q, b)]) [] hg hd hlt hG ho hok hc (.of_pub ha) (.cons hb rfl (Subs.refl _) .nil) rfl (by simp [boOk, keys, hbn]) rfl (by simp [mentsIn_mono _ hm']) (mentIn_mono _ hr) h
theorem Wk.mkX {fr : List (Nat × AV)} {bx : List (Nat × Box)} {tk : List (Nat × Tok)} (h0 : ∀ id ∈ c.ins, (bx.lookup id).isSome = true) (h1 : WkF st.fr fr) (h2 : ∀ s v, bx.lookup s = some v → st.bx.lookup s = some v) (h3 : WkT st.tk tk) : Wk c st ⟨fr, bx, tk⟩ :=
  ⟨h0, h1.get, fun s v hv => ⟨v, h2 s v hv, rfl, Subs.refl _⟩, h3.get⟩
theorem keys_some {bx : List (Nat × Box)} : ∀ id ∈ keys bx, (bx.lookup id).isSome = true := fun id hid => by
  obtain ⟨b, hb⟩ := mem_keys hid; rw [hb]; rfl
theorem lookup_app {bx : List (Nat × Box)} {bx' : List (Nat × Box)} {s : Nat} {v : Box} (h : bx.lookup s = some v) : (bx ++ bx').lookup s = some v := by
  rw [List.lookup_append, h]; rfl
end Go.Abs
/- A logic of abstract states, part 11: the rules of parts 3 to 10 in the form in which a walk uses them: over an operation that is written out; closed facts on types come as instances. Conditions: each rule's own premises; over any program. -/
namespace Go.Abs
set_option linter.unusedVariables false
set_option linter.unusedSimpArgs false
class VarTy (P : Program) (t : TypeId) (agg : outParam Bool) (k : outParam Nat) : Prop where
  h : varOk P t agg k = true
class FieldTy (P : Program) (s : TypeId) (f : Nat) (fo : outParam Nat) : Prop where
  h : fieldOk P s f fo = true
class SliceTy (P : Program) (t : TypeId) (e : outParam TypeId) (k : outParam Nat) : Prop where
  h : sliceOk P t e k = true
class StrTy (P : Program) (t : TypeId) : Prop where
  h : P.underlying t = some .string
class IntTy (P : Program) (t : TypeId) (k : outParam IntKind) : Prop where
  h : P.underlying t = some (.int k)
class ZeroTy (P : Program) (t : TypeId) (zs : outParam (List Value)) : Prop where
  h : zeroCellsOf P t = some zs
class PlacesTy (P : Program) (t : TypeId) (pl : outParam (List (Nat × Nat))) : Prop where
  h : placesOf P t = some pl
class CallTy (P : Program) (f : FuncId) : Prop where
  h : callOk P f = true
class EqTy (P : Program) (t : TypeId) (ks : outParam (List Nat)) : Prop where
  h : eqOk P t ks = true
class FldTy (P : Program) (s : TypeId) (f : Nat) (fo : outParam Nat) : Prop where
  h : fldOk P s f fo = true
class MixTy (P : Program) : Prop where
  h : P.follows .mixedOrders = true
def appOk (P : Program) (t : TypeId) (e : TypeId) (k bytes : Nat) : Bool :=
  sliceOk P t e k && (match P.info? e with | some i => i.bytes == bytes && (match i.zero with | some z => z.cells.size == k | none => false) | none => false) && (Nat.ble 1 k && Nat.ble bytes 100000)
class AppTy (P : Program) (t : TypeId) (e : outParam TypeId) (k bytes : outParam Nat) : Prop where
  h : appOk P t e k bytes = true
theorem appOk_run {P : Program} {t e : TypeId} {k bytes : Nat} (h : appOk P t e k bytes = true) :
    P.underlying t = some (.slice e) ∧ 0 < k ∧ ∃ (i : TypeInfo) (z : Value), P.info? e = some i ∧ i.size = k ∧ i.bytes = bytes ∧ i.zero = some z ∧ z.cells.size = k ∧ bytes ≤ 100000 := by
  unfold appOk at h
  simp only [Bool.and_eq_true] at h
  obtain ⟨⟨h1, h2⟩, h3, h6⟩ := h
  obtain ⟨hu, i, hi, hs⟩ := sliceOk_run h1
  rw [hi] at h2
  simp only [Bool.and_eq_true, beq_iff_eq] at h2
  obtain ⟨h4, h5⟩ := h2
  cases hz : i.zero with
  | none => rw [hz] at h5; simp at h5
  | some z => rw [hz] at h5; exact ⟨hu, Nat.le_of_ble_eq_true h3, i, z, hi, hs, h4, hz, by simpa using h5, Nat.le_of_ble_eq_true h6⟩
theorem zero_alloc {P : Program} {t : TypeId} {zs : List Value} (h : zeroCellsOf P t = some zs) : ∃ z, (P.info? t).bind (·.zero) = some z ∧ z.cells.toList = zs := by
  unfold zeroCellsOf at h
  exact Option.map_eq_some_iff.1 h
def LW (P : Program) (c : Ctx) (st : St) (ops : Array Oper) (Q : Exit → Act → World → Prop) (l : List Oper) : Prop := L c st (wpList P ops Q l)
def VV (P : Program) (c : Ctx) (st : St) (o : Oper) (v : AV) (tb : List Nat) : Prop :=
  ∀ st' : St, (∀ x ∈ o.op.operands, st'.ev x = st.ev x) → (∀ id ∈ tb, st'.bx.lookup id = st.bx.lookup id) → Yields P c st' o v
theorem VV.out {P : Program} {c : Ctx} {st : St} {o : Oper} {v : AV} {tb : List Nat} (h : VV P c st o v tb) : ∀ st' : St, (∀ x ∈ o.op.operands, st'.ev x = st.ev x) → (∀ id ∈ tb, st'.bx.lookup id = st.bx.lookup id) → Yields P c st' o v := h
theorem agP {st st' : St} {ps : Array Operand} (he : ∀ x ∈ ps, st'.ev x = st.ev x) {parts : Array (Nat × Operand)} (h : ∀ x ∈ parts, x.2 ∈ ps) :
    (parts.toList.map fun x => (x.1, st'.ev x.2)) = parts.toList.map fun x => (x.1, st.ev x.2) :=
  List.map_congr_left fun x hx => by rw [he x.2 (h x (by simpa using hx))]
theorem agL {st st' : St} {ps : Array Operand} (he : ∀ x ∈ ps, st'.ev x = st.ev x) {args : Array Operand} (h : ∀ x ∈ args, x ∈ ps) :
    (args.toList.map st'.ev) = args.toList.map st.ev :=
  List.map_congr_left fun x hx => he x (h x (by simpa using hx))
section
variable {P : Program} {c : Ctx} {fr : List (Nat × AV)} {bx : List (Nat × Box)} {tk : List (Nat × Tok)} {ops : Array Oper} {Q : Exit → Act → World → Prop} {rest : List Oper}
  {d : Nat} {ty : TypeId} {pos : String} {aft : Array Edge}
theorem s_vr {v : AV} {tb : List Nat} {op : Op} (hlt : Nat.ble (d + 1) c.nt = true) (hv : VV P c ⟨fr, bx, tk⟩ ⟨some d, op, ty, pos, aft, none⟩ v tb) (h : LW P c ⟨(d, v) :: fr, bx, tk⟩ ops Q rest) :
    LW P c ⟨fr, bx, tk⟩ ops Q (⟨some d, op, ty, pos, aft, none⟩ :: rest) := L.val (st := ⟨fr, bx, tk⟩) rfl rfl hlt (hv _ (fun _ _ => rfl) (fun _ _ => rfl)) h
theorem v_mv {x : Operand} {v : AV} (hx : St.ev ⟨fr, bx, tk⟩ x = v) : VV P c ⟨fr, bx, tk⟩ ⟨some d, .move x, ty, pos, aft, none⟩ (v) [] :=
  fun st' kE kL => ((kE x (by simp [Op.operands, Call.operands])).trans hx) ▸ .move rfl
theorem v_as {x : Operand} {v : AV} (hx : St.ev ⟨fr, bx, tk⟩ x = v) : VV P c ⟨fr, bx, tk⟩ ⟨some d, .assign x, ty, pos, aft, none⟩ (v) [] :=
  fun st' kE kL => ((kE x (by simp [Op.operands, Call.operands])).trans hx) ▸ .assign rfl
theorem v_addI {x y : Operand} {t t' : TypeId} {m n : Int} (hx : St.ev ⟨fr, bx, tk⟩ x = aI m) (hy : St.ev ⟨fr, bx, tk⟩ y = aI n) (hlo : -9223372036854775808 ≤ m + n) (hhi : m + n ≤ 9223372036854775807) : VV P c ⟨fr, bx, tk⟩ ⟨some d, .binOp .add t x y t', ty, pos, aft, none⟩ (aI (m + n)) [] :=
  fun st' kE kL => .addI rfl ((kE x (by simp [Op.operands, Call.operands])).trans hx) ((kE y (by simp [Op.operands, Call.operands])).trans hy) hlo hhi
theorem v_subI {x y : Operand} {t t' : TypeId} {m n : Int} (hx : St.ev ⟨fr, bx, tk⟩ x = aI m) (hy : St.ev ⟨fr, bx, tk⟩ y = aI n) (hlo : -9223372036854775808 ≤ m - n) (hhi : m - n ≤ 9223372036854775807) : VV P c ⟨fr, bx, tk⟩ ⟨some d, .binOp .sub t x y t', ty, pos, aft, none⟩ (aI (m - n)) [] :=
  fun st' kE kL => .subI rfl ((kE x (by simp [Op.operands, Call.operands])).trans hx) ((kE y (by simp [Op.operands, Call.operands])).trans hy) hlo hhi
theorem v_eqlI {x y : Operand} {t t' : TypeId} {k : IntKind} {m n : Int} (hx : St.ev ⟨fr, bx, tk⟩ x = .iv (.im (.int k m))) (hy : St.ev ⟨fr, bx, tk⟩ y = .iv (.im (.int k n))) : VV P c ⟨fr, bx, tk⟩ ⟨some d, .binOp .eql t x y t', ty, pos, aft, none⟩ (aB (m == n)) [] :=
  fun st' kE kL => .eqlI rfl ((kE x (by simp [Op.operands, Call.operands])).trans hx) ((kE y (by simp [Op.operands, Call.operands])).trans hy)
theorem v_neqI {x y : Operand} {t t' : TypeId} {k : IntKind} {m n : Int} (hx : St.ev ⟨fr, bx, tk⟩ x = .iv (.im (.int k m))) (hy : St.ev ⟨fr, bx, tk⟩ y = .iv (.im (.int k n))) : VV P c ⟨fr, bx, tk⟩ ⟨some d, .binOp .neq t x y t', ty, pos, aft, none⟩ (aB (m != n)) [] :=
  fun st' kE kL => .neqI rfl ((kE x (by simp [Op.operands, Call.operands])).trans hx) ((kE y (by simp [Op.operands, Call.operands])).trans hy)
theorem v_lssI {x y : Operand} {t t' : TypeId} {k : IntKind} {m n : Int} (hx : St.ev ⟨fr, bx, tk⟩ x = .iv (.im (.int k m))) (hy : St.ev ⟨fr, bx, tk⟩ y = .iv (.im (.int k n))) : VV P c ⟨fr, bx, tk⟩ ⟨some d, .binOp .lss t x y t', ty, pos, aft, none⟩ (aB (decide (m < n))) [] :=
  fun st' kE kL => .lssI rfl ((kE x (by simp [Op.operands, Call.operands])).trans hx) ((kE y (by simp [Op.operands, Call.operands])).trans hy)
theorem v_leqI {x y : Operand} {t t' : TypeId} {k : IntKind} {m n : Int} (hx : St.ev ⟨fr, bx, tk⟩ x = .iv (.im (.int k m))) (hy : St.ev ⟨fr, bx, tk⟩ y = .iv (.im (.int k n))) : VV P c ⟨fr, bx, tk⟩ ⟨some d, .binOp .leq t x y t', ty, pos, aft, none⟩ (aB (decide (m ≤ n))) [] :=
  fun st' kE kL => .leqI rfl ((kE x (by simp [Op.operands, Call.operands])).trans hx) ((kE y (by simp [Op.operands, Call.operands])).trans hy)
theorem v_gtrI {x y : Operand} {t t' : TypeId} {k : IntKind} {m n : Int} (hx : St.ev ⟨fr, bx, tk⟩ x = .iv (.im (.int k m))) (hy : St.ev ⟨fr, bx, tk⟩ y = .iv (.im (.int k n))) : VV P c ⟨fr, bx, tk⟩ ⟨some d, .binOp .gtr t x y t', ty, pos, aft, none⟩ (aB (decide (n < m))) [] :=
  fun st' kE kL => .gtrI rfl ((kE x (by simp [Op.operands, Call.operands])).trans hx) ((kE y (by simp [Op.operands, Call.operands])).trans hy)
theorem v_geqI {x y : Operand} {t t' : TypeId} {k : IntKind} {m n : Int} (hx : St.ev ⟨fr, bx, tk⟩ x = .iv (.im (.int k m))) (hy : St.ev ⟨fr, bx, tk⟩ y = .iv (.im (.int k n))) : VV P c ⟨fr, bx, tk⟩ ⟨some d, .binOp .geq t x y t', ty, pos, aft, none⟩ (aB (decide (n ≤ m))) [] :=
  fun st' kE kL => .geqI rfl ((kE x (by simp [Op.operands, Call.operands])).trans hx) ((kE y (by simp [Op.operands, Call.operands])).trans hy)
theorem v_eqlS {x y : Operand} {t t' : TypeId} {m n : List UInt8} (hx : St.ev ⟨fr, bx, tk⟩ x = aS m) (hy : St.ev ⟨fr, bx, tk⟩ y = aS n) : VV P c ⟨fr, bx, tk⟩ ⟨some d, .binOp .eql t x y t', ty, pos, aft, none⟩ (aB (m == n)) [] :=
  fun st' kE kL => .eqlS rfl ((kE x (by simp [Op.operands, Call.operands])).trans hx) ((kE y (by simp [Op.operands, Call.operands])).trans hy)
theorem v_neqS {x y : Operand} {t t' : TypeId} {m n : List UInt8} (hx : St.ev ⟨fr, bx, tk⟩ x = aS m) (hy : St.ev ⟨fr, bx, tk⟩ y = aS n) : VV P c ⟨fr, bx, tk⟩ ⟨some d, .binOp .neq t x y t', ty, pos, aft, none⟩ (aB (!(m == n))) [] :=
  fun st' kE kL => .neqS rfl ((kE x (by simp [Op.operands, Call.operands])).trans hx) ((kE y (by simp [Op.operands, Call.operands])).trans hy)
theorem v_lssS {x y : Operand} {t t' : TypeId} {m n : List UInt8} (hx : St.ev ⟨fr, bx, tk⟩ x = aS m) (hy : St.ev ⟨fr, bx, tk⟩ y = aS n) : VV P c ⟨fr, bx, tk⟩ ⟨some d, .binOp .lss t x y t', ty, pos, aft, none⟩ (aB (Op.bytesLess m n)) [] :=
  fun st' kE kL => .lssS rfl ((kE x (by simp [Op.operands, Call.operands])).trans hx) ((kE y (by simp [Op.operands, Call.operands])).trans hy)
theorem v_leqS {x y : Operand} {t t' : TypeId} {m n : List UInt8} (hx : St.ev ⟨fr, bx, tk⟩ x = aS m) (hy : St.ev ⟨fr, bx, tk⟩ y = aS n) : VV P c ⟨fr, bx, tk⟩ ⟨some d, .binOp .leq t x y t', ty, pos, aft, none⟩ (aB (Op.bytesLess m n || m == n)) [] :=
  fun st' kE kL => .leqS rfl ((kE x (by simp [Op.operands, Call.operands])).trans hx) ((kE y (by simp [Op.operands, Call.operands])).trans hy)
theorem v_gtrS {x y : Operand} {t t' : TypeId} {m n : List UInt8} (hx : St.ev ⟨fr, bx, tk⟩ x = aS m) (hy : St.ev ⟨fr, bx, tk⟩ y = aS n) : VV P c ⟨fr, bx, tk⟩ ⟨some d, .binOp .gtr t x y t', ty, pos, aft, none⟩ (aB (!(Op.bytesLess m n || m == n))) [] :=
  fun st' kE kL => .gtrS rfl ((kE x (by simp [Op.operands, Call.operands])).trans hx) ((kE y (by simp [Op.operands, Call.operands])).trans hy)
theorem v_geqS {x y : Operand} {t t' : TypeId} {m n : List UInt8} (hx : St.ev ⟨fr, bx, tk⟩ x = aS m) (hy : St.ev ⟨fr, bx, tk⟩ y = aS n) : VV P c ⟨fr, bx, tk⟩ ⟨some d, .binOp .geq t x y t', ty, pos, aft, none⟩ (aB (!(Op.bytesLess m n))) [] :=
  fun st' kE kL => .geqS rfl ((kE x (by simp [Op.operands, Call.operands])).trans hx) ((kE y (by simp [Op.operands, Call.operands])).trans hy)
theorem v_addS {x y : Operand} {t t' : TypeId} {m n : List UInt8} (hx : St.ev ⟨fr, bx, tk⟩ x = aS m) (hy : St.ev ⟨fr, bx, tk⟩ y = aS n) (hl : m.length + n.length ≤ 9223372036854775807) : VV P c ⟨fr, bx, tk⟩ ⟨some d, .binOp .add t x y t', ty, pos, aft, none⟩ (aS (m ++ n)) [] :=
  fun st' kE kL => .addS rfl ((kE x (by simp [Op.operands, Call.operands])).trans hx) ((kE y (by simp [Op.operands, Call.operands])).trans hy) hl
theorem v_not {x : Operand} {t : TypeId} {b : Bool} (hx : St.ev ⟨fr, bx, tk⟩ x = aB b) : VV P c ⟨fr, bx, tk⟩ ⟨some d, .unOp .not t x, ty, pos, aft, none⟩ (aB (!b)) [] :=
  fun st' kE kL => .not rfl ((kE x (by simp [Op.operands, Call.operands])).trans hx)
theorem v_conv {x : Operand} {s t : TypeId} {k k0 k' : IntKind} {m : Int} (hx : St.ev ⟨fr, bx, tk⟩ x = .iv (.im (.int k m))) [ht : IntTy P t k'] [hs : IntTy P s k0] : VV P c ⟨fr, bx, tk⟩ ⟨some d, .convert s t x, ty, pos, aft, none⟩ (.iv (.im (.int k' (k'.wrap m)))) [] :=
  fun st' kE kL => .conv rfl ((kE x (by simp [Op.operands, Call.operands])).trans hx) ht.h (by rw [hs.h]; rfl)
theorem v_lenS {x : Operand} {t : TypeId} {m : List UInt8} (hx : St.ev ⟨fr, bx, tk⟩ x = aS m) [ht : StrTy P t] : VV P c ⟨fr, bx, tk⟩ ⟨some d, .call { callee := .builtin .len, args := #[x], argTypes := #[t] }, ty, pos, aft, none⟩ (aI m.length) [] :=
  fun st' kE kL => .lenS rfl ((kE x (by simp [Op.operands, Call.operands])).trans hx) ht.h
theorem v_lenSl {x : Operand} {t e : TypeId} {k : Nat} {es : List (List IV)} (hx : (St.ev ⟨fr, bx, tk⟩ x).sl? = some es) [hs : SliceTy P t e k] : VV P c ⟨fr, bx, tk⟩ ⟨some d, .call { callee := .builtin .len, args := #[x], argTypes := #[t] }, ty, pos, aft, none⟩ (aI es.length) [] :=
  fun st' kE kL => .lenSl rfl hs.h ((congrArg AV.sl? (kE x (by simp [Op.operands, Call.operands]))).trans hx)
theorem v_indexS {x i : Operand} {t : TypeId} {m : List UInt8} {k : IntKind} {n : Int} {b : UInt8} (hx : St.ev ⟨fr, bx, tk⟩ x = aS m) (hn : St.ev ⟨fr, bx, tk⟩ i = .iv (.im (.int k n))) [ht : StrTy P t] (h0 : 0 ≤ n) (hb : m[n.toNat]? = some b) : VV P c ⟨fr, bx, tk⟩ ⟨some d, .index t x i, ty, pos, aft, none⟩ (.iv (.im (.int .u8 b.toNat))) [] :=
  fun st' kE kL => .indexS rfl ((kE x (by simp [Op.operands, Call.operands])).trans hx) ((kE i (by simp [Op.operands, Call.operands])).trans hn) ht.h h0 hb
theorem v_fieldP {s : TypeId} {x : Operand} {f fo id off off' : Nat} (hx : St.ev ⟨fr, bx, tk⟩ x = .ptr id off) [hf : FieldTy P s f fo] (ho : off + fo = off') : VV P c ⟨fr, bx, tk⟩ ⟨some d, .fieldAddr s x f, ty, pos, aft, none⟩ (.ptr id off') [] :=
  fun st' kE kL => ho ▸ .fieldP rfl ((kE x (by simp [Op.operands, Call.operands])).trans hx) hf.h
theorem v_fieldE {s : TypeId} {x : Operand} {f fo : Nat} {cs cs' : List IV} (hx : St.ev ⟨fr, bx, tk⟩ x = .el cs) [hf : FieldTy P s f fo] (hc : cs.drop fo = cs') : VV P c ⟨fr, bx, tk⟩ ⟨some d, .fieldAddr s x f, ty, pos, aft, none⟩ (.el cs') [] :=
  fun st' kE kL => hc ▸ .fieldE rfl ((kE x (by simp [Op.operands, Call.operands])).trans hx) hf.h
theorem v_indexA {t e : TypeId} {x i : Operand} {k : Nat} {kd : IntKind} {n : Int} {es : List (List IV)} {cs : List IV} (hx : (St.ev ⟨fr, bx, tk⟩ x).sl? = some es) (hn : St.ev ⟨fr, bx, tk⟩ i = .iv (.im (.int kd n))) [hs : SliceTy P t e k] (h0 : 0 ≤ n) (hc : es[n.toNat]? = some cs) (hl : cs.length = k) : VV P c ⟨fr, bx, tk⟩ ⟨some d, .indexAddr t x i, ty, pos, aft, none⟩ (.el cs) [] :=
  fun st' kE kL => .indexAddr rfl hs.h ((congrArg AV.sl? (kE x (by simp [Op.operands, Call.operands]))).trans hx) ((kE i (by simp [Op.operands, Call.operands])).trans hn) h0 hc hl
theorem v_load1P {t : TypeId} {x : Operand} {id off : Nat} {b : Box} {v : AV} (hx : St.ev ⟨fr, bx, tk⟩ x = .ptr id off) [ht : VarTy P t false 1] (hb : bx.lookup id = some b) (hv : b.cs[off]? = some v) : VV P c ⟨fr, bx, tk⟩ ⟨some d, .load t x, ty, pos, aft, none⟩ (v) [id] :=
  fun st' kE kL => .load1P rfl ht.h ((kE x (by simp [Op.operands, Call.operands])).trans hx) ((kL id (by simp)).trans hb) hv
theorem v_loadAP {t : TypeId} {x : Operand} {id off k : Nat} {b : Box} {cs : List AV} (hx : St.ev ⟨fr, bx, tk⟩ x = .ptr id off) [ht : VarTy P t true k] (hb : bx.lookup id = some b) (hc : (b.cs.drop off).take k = cs) (hk : cs.length = k) : VV P c ⟨fr, bx, tk⟩ ⟨some d, .load t x, ty, pos, aft, none⟩ (.agg cs) [id] :=
  fun st' kE kL => hc ▸ .loadAP rfl ht.h ((kE x (by simp [Op.operands, Call.operands])).trans hx) ((kL id (by simp)).trans hb) (hc.symm ▸ hk)
theorem v_load1E {t : TypeId} {x : Operand} {y : IV} {cs : List IV} (hx : St.ev ⟨fr, bx, tk⟩ x = .el cs) [ht : VarTy P t false 1] (hy : cs[0]? = some y) : VV P c ⟨fr, bx, tk⟩ ⟨some d, .load t x, ty, pos, aft, none⟩ (.iv y) [] :=
  fun st' kE kL => .load1E rfl ht.h ((kE x (by simp [Op.operands, Call.operands])).trans hx) hy
theorem v_loadAE {t : TypeId} {x : Operand} {k : Nat} {cs : List IV} {vs : List AV} (hx : St.ev ⟨fr, bx, tk⟩ x = .el cs) [ht : VarTy P t true k] (hc : (cs.take k).map AV.iv = vs) (hk : vs.length = k) : VV P c ⟨fr, bx, tk⟩ ⟨some d, .load t x, ty, pos, aft, none⟩ (.agg vs) [] :=
  fun st' kE kL => hc ▸ .loadAE rfl ht.h ((kE x (by simp [Op.operands, Call.operands])).trans hx) (by rw [← List.length_map (f := AV.iv), hc]; exact hk)
theorem v_extract {x : Operand} {i : Nat} {vs : List AV} {v : AV} (hx : St.ev ⟨fr, bx, tk⟩ x = .tup vs) (hv : vs[i]? = some v) : VV P c ⟨fr, bx, tk⟩ ⟨some d, .extract x i, ty, pos, aft, none⟩ (v) [] :=
  fun st' kE kL => .extract rfl ((kE x (by simp [Op.operands, Call.operands])).trans hx) hv
theorem v_build {t : TypeId} {parts : Array (Nat × Operand)} {zs : List Value} {pl : List (Nat × Nat)} {cs : List AV} [hz : ZeroTy P t zs] (h1 : zs.all (·.oneCell') = true) [hp : PlacesTy P t pl] (hf : fillA (pl[·]?) (zs.map constCell) (parts.toList.map fun x => (x.1, St.ev ⟨fr, bx, tk⟩ x.2)) = some cs) : VV P c ⟨fr, bx, tk⟩ ⟨some d, .build t parts, ty, pos, aft, none⟩ (.agg cs) [] :=
  fun st' kE kL => .build rfl hz.h h1 hp.h (by rw [agP kE (fun x hx => by simp only [Op.operands]; exact List.mem_toArray.2 (List.mem_map.2 ⟨x, by simpa using hx, rfl⟩))]; exact hf)
theorem v_eqlAgg {x y : Operand} {t t' : TypeId} {cs ds : List AV} {ks : List Nat} {b : Bool} (hx : St.ev ⟨fr, bx, tk⟩ x = .agg cs) (hy : St.ev ⟨fr, bx, tk⟩ y = .agg ds) [hok : EqTy P t ks] (hn : cs.map vKind = ks) (hb : eqVs cs ds = some b) : VV P c ⟨fr, bx, tk⟩ ⟨some d, .binOp .eql t x y t', ty, pos, aft, none⟩ (aB (b)) [] :=
  fun st' kE kL => .eqlAgg rfl ((kE x (by simp [Op.operands, Call.operands])).trans hx) ((kE y (by simp [Op.operands, Call.operands])).trans hy) hok.h hn hb
theorem v_neqAgg {x y : Operand} {t t' : TypeId} {cs ds : List AV} {ks : List Nat} {b : Bool} (hx : St.ev ⟨fr, bx, tk⟩ x = .agg cs) (hy : St.ev ⟨fr, bx, tk⟩ y = .agg ds) [hok : EqTy P t ks] (hn : cs.map vKind = ks) (hb : eqVs cs ds = some b) : VV P c ⟨fr, bx, tk⟩ ⟨some d, .binOp .neq t x y t', ty, pos, aft, none⟩ (aB (!b)) [] :=
  fun st' kE kL => .neqAgg rfl ((kE x (by simp [Op.operands, Call.operands])).trans hx) ((kE y (by simp [Op.operands, Call.operands])).trans hy) hok.h hn hb
theorem v_shrI {x y : Operand} {t t' : TypeId} {k k' : IntKind} {m n : Int} (hx : St.ev ⟨fr, bx, tk⟩ x = .iv (.im (.int k m))) (hy : St.ev ⟨fr, bx, tk⟩ y = .iv (.im (.int k' n))) (h0 : 0 ≤ n) : VV P c ⟨fr, bx, tk⟩ ⟨some d, .binOp .shr t x y t', ty, pos, aft, none⟩ (.iv (.im (.int k (m.fdiv (2 ^ min n.toNat k.bits))))) [] :=
  fun st' kE kL => .shrI rfl ((kE x (by simp [Op.operands, Call.operands])).trans hx) ((kE y (by simp [Op.operands, Call.operands])).trans hy) h0
theorem v_orA {x y : Operand} {t t' : TypeId} {m n a p : Int} (i : Nat) (hx : St.ev ⟨fr, bx, tk⟩ x = aI m) (hy : St.ev ⟨fr, bx, tk⟩ y = aI n) (hp : (2 : Int) ^ i = p) (hm : m = a * p) (ha : 0 ≤ a) (h1 : a * p + p ≤ 9223372036854775807) (hn : 0 ≤ n) (h2 : n < p) : VV P c ⟨fr, bx, tk⟩ ⟨some d, .binOp .or t x y t', ty, pos, aft, none⟩ (aI (m + n)) [] :=
  fun st' kE kL => .orA i rfl ((kE x (by simp [Op.operands, Call.operands])).trans hx) ((kE y (by simp [Op.operands, Call.operands])).trans hy) hp hm ha h1 hn h2
theorem v_shlA {x y : Operand} {t t' : TypeId} {k' : IntKind} {m n p : Int} (hx : St.ev ⟨fr, bx, tk⟩ x = aI m) (hy : St.ev ⟨fr, bx, tk⟩ y = .iv (.im (.int k' n))) (h0 : 0 ≤ n) (hp : (2 : Int) ^ min n.toNat 64 = p) (hlo : -9223372036854775808 ≤ m * p) (hhi : m * p ≤ 9223372036854775807) : VV P c ⟨fr, bx, tk⟩ ⟨some d, .binOp .shl t x y t', ty, pos, aft, none⟩ (aI (m * p)) [] :=
  fun st' kE kL => .shlA rfl ((kE x (by simp [Op.operands, Call.operands])).trans hx) ((kE y (by simp [Op.operands, Call.operands])).trans hy) h0 hp hlo hhi
theorem v_convU8 {x : Operand} {s t : TypeId} {k0 : IntKind} {b : UInt8} (hx : St.ev ⟨fr, bx, tk⟩ x = .iv (.im (.int .u8 (b.toNat : Int)))) [ht : IntTy P t .i64] [hs : IntTy P s k0] : VV P c ⟨fr, bx, tk⟩ ⟨some d, .convert s t x, ty, pos, aft, none⟩ (aI (b.toNat : Int)) [] :=
  fun st' kE kL => .convU8 rfl ((kE x (by simp [Op.operands, Call.operands])).trans hx) ht.h (by rw [hs.h]; rfl)
theorem v_quoI {x y : Operand} {t t' : TypeId} {m n : Int} (hx : St.ev ⟨fr, bx, tk⟩ x = aI m) (hy : St.ev ⟨fr, bx, tk⟩ y = aI n) (hn : 0 < n) (hlo : -9223372036854775808 ≤ m) (hhi : m ≤ 9223372036854775807) : VV P c ⟨fr, bx, tk⟩ ⟨some d, .binOp .quo t x y t', ty, pos, aft, none⟩ (aI (m.tdiv n)) [] :=
  fun st' kE kL => .quoI rfl ((kE x (by simp [Op.operands, Call.operands])).trans hx) ((kE y (by simp [Op.operands, Call.operands])).trans hy) hn hlo hhi
theorem v_sliceSl {x y : Operand} {t : TypeId} {m m' : List UInt8} {k : IntKind} {n : Int} (hx : St.ev ⟨fr, bx, tk⟩ x = aS m) (hy : St.ev ⟨fr, bx, tk⟩ y = .iv (.im (.int k n))) [ht : StrTy P t] (h0 : 0 ≤ n) (h1 : n ≤ m.length) (hm : m.drop n.toNat = m') : VV P c ⟨fr, bx, tk⟩ ⟨some d, .slice t x (some y) none none, ty, pos, aft, none⟩ (aS m') [] :=
  fun st' kE kL => hm ▸ .sliceSl rfl ((kE x (by simp [Op.operands, Call.operands])).trans hx) ((kE y (by simp [Op.operands, Call.operands])).trans hy) ht.h h0 h1
theorem v_sliceSh {x y : Operand} {t : TypeId} {m m' : List UInt8} {k : IntKind} {n : Int} (hx : St.ev ⟨fr, bx, tk⟩ x = aS m) (hy : St.ev ⟨fr, bx, tk⟩ y = .iv (.im (.int k n))) [ht : StrTy P t] (h0 : 0 ≤ n) (h1 : n ≤ m.length) (hm : m.take n.toNat = m') : VV P c ⟨fr, bx, tk⟩ ⟨some d, .slice t x none (some y) none, ty, pos, aft, none⟩ (aS m') [] :=
  fun st' kE kL => hm ▸ .sliceSh rfl ((kE x (by simp [Op.operands, Call.operands])).trans hx) ((kE y (by simp [Op.operands, Call.operands])).trans hy) ht.h h0 h1
theorem v_sliceVl {x y : Operand} {t e : TypeId} {k : Nat} {es es' : List (List IV)} {kd : IntKind} {n : Int} (hx : (St.ev ⟨fr, bx, tk⟩ x).sl? = some es) (hy : St.ev ⟨fr, bx, tk⟩ y = .iv (.im (.int kd n))) [hs : SliceTy P t e k] (hk : ∀ e ∈ es, e.length = k) (h0 : 0 ≤ n) (h1 : n ≤ es.length) (hm : es.drop n.toNat = es') : VV P c ⟨fr, bx, tk⟩ ⟨some d, .slice t x (some y) none none, ty, pos, aft, none⟩ (.iv (.sl es')) [] :=
  fun st' kE kL => hm ▸ .sliceVl rfl ((congrArg AV.sl? (kE x (by simp [Op.operands, Call.operands]))).trans hx) ((kE y (by simp [Op.operands, Call.operands])).trans hy) hs.h hk h0 h1
theorem v_sliceVh {x y : Operand} {t e : TypeId} {k : Nat} {es es' : List (List IV)} {kd : IntKind} {n : Int} (hx : (St.ev ⟨fr, bx, tk⟩ x).sl? = some es) (hy : St.ev ⟨fr, bx, tk⟩ y = .iv (.im (.int kd n))) [hs : SliceTy P t e k] (hk : ∀ e ∈ es, e.length = k) (h0 : 0 ≤ n) (h1 : n ≤ es.length) (hm : es.take n.toNat = es') : VV P c ⟨fr, bx, tk⟩ ⟨some d, .slice t x none (some y) none, ty, pos, aft, none⟩ (.iv (.sl es')) [] :=
  fun st' kE kL => hm ▸ .sliceVh rfl ((congrArg AV.sl? (kE x (by simp [Op.operands, Call.operands]))).trans hx) ((kE y (by simp [Op.operands, Call.operands])).trans hy) hs.h hk h0 h1
theorem v_bytesS {x : Operand} {s t e : TypeId} {bs : List UInt8} (hx : (St.ev ⟨fr, bx, tk⟩ x).sl? = some (bs.map cB)) [hs : SliceTy P s e 1] [he : IntTy P e .u8] [ht : StrTy P t] : VV P c ⟨fr, bx, tk⟩ ⟨some d, .convert s t x, ty, pos, aft, none⟩ (aS bs) [] :=
  fun st' kE kL => .bytesS rfl ((congrArg AV.sl? (kE x (by simp [Op.operands, Call.operands]))).trans hx) hs.h he.h ht.h
theorem s_box {t : TypeId} {x : Operand} {v : AV} {cs : List AV} (hlt : Nat.ble (d + 1) c.nt = true) (hx : St.ev ⟨fr, bx, tk⟩ x = v) (hv : v.lays = true) (hc : v.cells = cs) (hf : St.fresh d ⟨fr, bx, tk⟩ = true) (hm : AV.ments d cs = false)
    (h : LW P c ⟨(d, .ptr d 0) :: fr, (d, ⟨t, cs⟩) :: bx, tk⟩ ops Q rest) : LW P c ⟨fr, bx, tk⟩ ops Q (⟨some d, .box t x, ty, pos, aft, none⟩ :: rest) :=
  L.make (st := ⟨fr, bx, tk⟩) rfl rfl hlt (hc ▸ .box rfl hx hv hf (hc.symm ▸ hm)) h
theorem v_and1 {x y : Operand} {t t' : TypeId} {m : Int} (hx : St.ev ⟨fr, bx, tk⟩ x = aI m) (hy : St.ev ⟨fr, bx, tk⟩ y = aI 1) : VV P c ⟨fr, bx, tk⟩ ⟨some d, .binOp .and t x y t', ty, pos, aft, none⟩ (aI (m % 2)) [] :=
  fun st' kE kL => .and1 rfl ((kE x (by simp [Op.operands, Call.operands])).trans hx) ((kE y (by simp [Op.operands, Call.operands])).trans hy)
theorem v_min2 {x y : Operand} {t t' : TypeId} {m n : Int} (hx : St.ev ⟨fr, bx, tk⟩ x = aI m) (hy : St.ev ⟨fr, bx, tk⟩ y = aI n) : VV P c ⟨fr, bx, tk⟩ ⟨some d, .call { callee := .builtin .min, args := #[x, y], argTypes := #[t, t'] }, ty, pos, aft, none⟩ (aI (if n < m then n else m)) [] :=
  fun st' kE kL => .min2 rfl ((kE x (by simp [Op.operands, Call.operands])).trans hx) ((kE y (by simp [Op.operands, Call.operands])).trans hy)
theorem v_loadG {gs : Globs} {g : Nat} {t : TypeId} {x : IV} [ht : VarTy P t false 1] (hG : Glob gs c.E0 c.w0) (hmg : (g, [x]) ∈ gs) : VV P c ⟨fr, bx, tk⟩ ⟨some d, .load t (.global g), ty, pos, aft, none⟩ (.iv x) [] :=
  fun st' kE kL => .loadG rfl ht.h hG hmg
theorem s_callG1 {gs : Globs} {f : FuncId} {args : Array Operand} {ats : Array TypeId} {as1 as : List AV} {q : Nat} {b b' : Box} {res : AV} (hlt : Nat.ble (d + 1) c.nt = true) [hok : CallTy P f] (hG : Glob gs c.E0 c.w0) (hc : CallG gs P f as1 [(1000, b)] [(1000, b')] [] res) (ha : AV.pub.pubs (args.toList.map (St.ev ⟨fr, bx, tk⟩)) = as) (h1 : AV.rens (Abs.sws [(1000, q)]) as1 = as) (hb : bx.lookup q = some b) (hbn : b.cs.isEmpty = false) (hm : AV.mentsIn [] b.cs = true) (hm' : AV.mentsIn [] b'.cs = true) (hr : AV.mentIn [] res = true)
    (h : LW P c ⟨(d, res) :: fr, (q, b') :: bx, tk⟩ ops Q rest) : LW P c ⟨fr, bx, tk⟩ ops Q (⟨some d, .call { callee := .value (.func f), args := args, argTypes := ats }, ty, pos, aft, none⟩ :: rest) :=
  L.callG1 (st := ⟨fr, bx, tk⟩) rfl rfl hlt rfl hok.h hG hc ha h1 hb hbn hm hm' hr h
theorem s_callQ1 {gs : Globs} {f : FuncId} {args : Array Operand} {ats : Array TypeId} {as : List AV} {q : Nat} {b b' : Box} {res : AV} (hlt : Nat.ble (d + 1) c.nt = true) [hok : CallTy P f] (hG : Glob gs c.E0 c.w0) (hc : CallG gs P f as [(q, b)] [(q, b')] [] res) (ha : AV.pub.pubs (args.toList.map (St.ev ⟨fr, bx, tk⟩)) = as) (hb : bx.lookup q = some b) (hbn : b.cs.isEmpty = false) (hm' : AV.mentsIn [] b'.cs = true) (hr : AV.mentIn [] res = true)
    (h : LW P c ⟨(d, res) :: fr, (q, b') :: bx, tk⟩ ops Q rest) : LW P c ⟨fr, bx, tk⟩ ops Q (⟨some d, .call { callee := .value (.func f), args := args, argTypes := ats }, ty, pos, aft, none⟩ :: rest) :=
  L.callQ1 (st := ⟨fr, bx, tk⟩) rfl rfl hlt rfl hok.h hG hc ha hb hbn hm' hr h
theorem s_callG {gs : Globs} {f : FuncId} {args : Array Operand} {ats : Array TypeId} {as : List AV} {res : AV} (hlt : Nat.ble (d + 1) c.nt = true) [hok : CallTy P f] (hG : Glob gs c.E0 c.w0) (hc : CallG gs P f as [] [] [] res) (ha : AV.pub.pubs (args.toList.map (St.ev ⟨fr, bx, tk⟩)) = as)
    (hmr : AV.mentIn [] res = true) (h : LW P c ⟨(d, res) :: fr, bx, tk⟩ ops Q rest) :
    LW P c ⟨fr, bx, tk⟩ ops Q (⟨some d, .call { callee := .value (.func f), args := args, argTypes := ats }, ty, pos, aft, none⟩ :: rest) :=
  L.callG0 (st := ⟨fr, bx, tk⟩) rfl rfl hlt hG rfl hok.h hc (.of_pub ha) hmr h
theorem v_fieldV {s : TypeId} {x : Operand} {f fo : Nat} {cs : List AV} {v : AV} (hx : St.ev ⟨fr, bx, tk⟩ x = .agg cs) [hf : FldTy P s f fo] (hv : cs[fo]? = some v) : VV P c ⟨fr, bx, tk⟩ ⟨some d, .field s x f, ty, pos, aft, none⟩ (v) [] :=
  fun st' kE kL => .fieldV rfl hf.h ((kE x (by simp [Op.operands, Call.operands])).trans hx) hv
theorem v_makeFunc {f : FuncId} {caps : Array Operand} {cs : List AV} (hc : caps.toList.map (St.ev ⟨fr, bx, tk⟩) = cs) : VV P c ⟨fr, bx, tk⟩ ⟨some d, .makeFunc (.func f) #[] caps, ty, pos, aft, none⟩ (.fn f cs) [] :=
  fun st' kE kL => (((agL kE (fun x hx => by simp [Op.operands, hx])).trans hc) ▸ .makeFunc rfl)
theorem s_callFn {gs : Globs} {f : FuncId} {x : Operand} {args : Array Operand} {ats : Array TypeId} {avs caps : List AV} {bxi : List (Nat × Box)} {res : AV} (hlt : Nat.ble (d + 1) c.nt = true) (hG : Glob gs c.E0 c.w0) (hx : St.ev ⟨fr, bx, tk⟩ x = .fn f caps) [hok : CallTy P f]
    (hc : CallG gs P f (avs ++ caps) bxi bxi [] res) (ha : AV.pub.pubs (args.toList.map (St.ev ⟨fr, bx, tk⟩)) = avs) (hbi : WkB bx bxi) (hmb : bxi.all (fun p => !p.2.cs.isEmpty && AV.mentsIn (keys bxi) p.2.cs) = true) (hmr : AV.mentIn (keys bxi) res = true)
    (h : LW P c ⟨(d, res) :: fr, bxi ++ bx, tk⟩ ops Q rest) :
    LW P c ⟨fr, bx, tk⟩ ops Q (⟨some d, .call { callee := .value x, args := args, argTypes := ats }, ty, pos, aft, none⟩ :: rest) :=
  L.callFnG (st := ⟨fr, bx, tk⟩) rfl rfl hlt hG rfl hx hok.h hc (.of_pub ha) hbi hmb hmr h
theorem s_alloc {t : TypeId} {zs : List Value} {cs : List AV} (hlt : Nat.ble (d + 1) c.nt = true) [hz : ZeroTy P t zs] (h1 : zs.all (·.oneCell') = true) (hc : zs.map constCell = cs) (hf : St.fresh d ⟨fr, bx, tk⟩ = true) (hm : AV.ments d cs = false)
    (h : LW P c ⟨(d, .ptr d 0) :: fr, (d, ⟨t, cs⟩) :: bx, tk⟩ ops Q rest) : LW P c ⟨fr, bx, tk⟩ ops Q (⟨some d, .alloc t, ty, pos, aft, none⟩ :: rest) := by
  obtain ⟨z, h2, h3⟩ := zero_alloc hz.h
  subst h3; subst hc
  exact L.make (st := ⟨fr, bx, tk⟩) rfl rfl hlt (.alloc (i := default) rfl h2 h1 hf hm) h
theorem s_bslice {t e : TypeId} {n k : Nat} {parts : Array (Nat × Operand)} {zs : List Value} {cs : List AV} {xs : List IV} {es : List (List IV)} (hlt : Nat.ble (d + 1) c.nt = true) [hs : SliceTy P t e k] [hz : ZeroTy P e zs] (h1 : zs.all (·.oneCell') = true) (hzl : zs.length = k) (hn : Nat.ble (n * k) 16777216 = true) (hnk : Nat.ble 1 k = true) (hf : fillA (fun i => some (i * k, k)) ((List.range (n * k)).map fun i => constCell (zs.getD (i % k) undef)) (parts.toList.map fun x => (x.1, St.ev ⟨fr, bx, tk⟩ x.2)) = some cs) (hx : toIs cs = some xs) (hcl : cs.length = n * k) (he : chunks k n xs = es) (hfr : St.fresh d ⟨fr, bx, tk⟩ = true)
    (h : LW P c ⟨(d, .row d es) :: fr, bx, (d, ⟨e, k⟩) :: tk⟩ ops Q rest) : LW P c ⟨fr, bx, tk⟩ ops Q (⟨some d, .buildSlice t n parts, ty, pos, aft, none⟩ :: rest) :=
  L.make (st := ⟨fr, bx, tk⟩) rfl rfl hlt (he ▸ .buildSlice rfl hs.h hz.h h1 hzl (Nat.le_of_ble_eq_true hn) (Nat.le_of_ble_eq_true hnk) hf hx hcl hfr) h
theorem s_store {t : TypeId} {x y : Operand} {id off k : Nat} {b : Box} {v : AV} {agg : Bool} {cs : List AV} (hx : St.ev ⟨fr, bx, tk⟩ x = .ptr id off) (hy : St.ev ⟨fr, bx, tk⟩ y = v) [ht : VarTy P t agg k] (hb : bx.lookup id = some b)
    (hv : v.lays = true) (hk : v.cells.length = k) (hle : Nat.ble (off + k) b.cs.length = true) (hc : setA b.cs off v.cells = cs)
    (h : LW P c ⟨fr, (id, ⟨b.ty, cs⟩) :: bx, tk⟩ ops Q rest) : LW P c ⟨fr, bx, tk⟩ ops Q (⟨none, .store t x y, ty, pos, aft, none⟩ :: rest) := by
  subst hc
  exact L.does (st := ⟨fr, bx, tk⟩) rfl rfl (.store rfl ht.h hx hb hy hv hk (Nat.le_of_ble_eq_true hle)) h
theorem s_append {t t' e : TypeId} {x y : Operand} {id k bytes : Nat} {es news es' : List (List IV)} (hlt : Nat.ble (d + 1) c.nt = true)
    (hx : St.ev ⟨fr, bx, tk⟩ x = .row id es) (htk : tk.lookup id = some ⟨e, k⟩) (hy : (St.ev ⟨fr, bx, tk⟩ y).sl? = some news) [ha : AppTy P t e k bytes] [hs : SliceTy P t' e k] (hes : ∀ e ∈ es, e.length = k) (hnk : ∀ e ∈ news, e.length = k)
    (hm : es.length + news.length ≤ maxLen) (hby : (es.length + news.length) * bytes ≤ 225000000000000) (hf : St.fresh d ⟨fr, bx, tk⟩ = true) (he : es ++ news = es')
    (h : LW P c ⟨(d, .row d es') :: fr, bx, (d, ⟨e, k⟩) :: delTok id tk⟩ ops Q rest) :
    LW P c ⟨fr, bx, tk⟩ ops Q (⟨some d, .call { callee := .builtin .append, args := #[x, y], argTypes := #[t, t'] }, ty, pos, aft, none⟩ :: rest) := by
  obtain ⟨ht, hk0, i, z, hi0, hik, hib, hiz, hzk, hbs⟩ := appOk_run ha.h
  subst he
  exact L.make (st := ⟨fr, bx, tk⟩) rfl rfl hlt (.append rfl ht hi0 hik hib hiz hzk (sliceOk_run hs.h).1 (.inl ⟨_, rfl⟩) hk0 (.inl ⟨hx, htk⟩) hes hnk (.slice hy hnk hk0) hm hby hbs hf) h
theorem s_appendS {t t' e : TypeId} {x y : Operand} {id bytes : Nat} {es es' : List (List IV)} {s : List UInt8} (hlt : Nat.ble (d + 1) c.nt = true)
    (hx : St.ev ⟨fr, bx, tk⟩ x = .row id es) (htk : tk.lookup id = some ⟨e, 1⟩) (hy : St.ev ⟨fr, bx, tk⟩ y = aS s) [ha : AppTy P t e 1 bytes] [hs : StrTy P t'] (hes : ∀ e ∈ es, e.length = 1)
    (hm : es.length + s.length ≤ maxLen) (hby : (es.length + s.length) * bytes ≤ 225000000000000) (hf : St.fresh d ⟨fr, bx, tk⟩ = true) (he : (es ++ s.map fun b => [IV.im (.int .u8 b.toNat)]) = es')
    (h : LW P c ⟨(d, .row d es') :: fr, bx, (d, ⟨e, 1⟩) :: delTok id tk⟩ ops Q rest) :
    LW P c ⟨fr, bx, tk⟩ ops Q (⟨some d, .call { callee := .builtin .append, args := #[x, y], argTypes := #[t, t'] }, ty, pos, aft, none⟩ :: rest) := by
  obtain ⟨ht, hk0, i, z, hi0, hik, hib, hiz, hzk, hbs⟩ := appOk_run ha.h
  subst he
  exact L.make (st := ⟨fr, bx, tk⟩) rfl rfl hlt (.append rfl ht hi0 hik hib hiz hzk hs.h (.inr rfl) hk0 (.inl ⟨hx, htk⟩) hes (fun e he => by simp only [List.mem_map] at he; obtain ⟨b, _, rfl⟩ := he; rfl) (.string hy) (by simpa using hm) (by simpa using hby) hbs hf) h
theorem s_call0 {f : FuncId} {args : Array Operand} {ats : Array TypeId} {as : List AV} {res : AV} (hlt : Nat.ble (d + 1) c.nt = true) [hok : CallTy P f] (hc : CallA P f as [] [] [] res) (ha : AV.pub.pubs (args.toList.map (St.ev ⟨fr, bx, tk⟩)) = as)
    (hmr : AV.mentIn [] res = true) (h : LW P c ⟨(d, res) :: fr, bx, tk⟩ ops Q rest) :
    LW P c ⟨fr, bx, tk⟩ ops Q (⟨some d, .call { callee := .value (.func f), args := args, argTypes := ats }, ty, pos, aft, none⟩ :: rest) :=
  L.call0 (st := ⟨fr, bx, tk⟩) rfl rfl hlt rfl hok.h hc (.of_pub ha) hmr h
theorem s_callRow {f : FuncId} {args : Array Operand} {ats : Array TypeId} {as : List AV} {t : Tok} {es : List (List IV)} (hlt : Nat.ble (d + 1) c.nt = true) [hok : CallTy P f] (hc : CallA P f as [] [] [(d, t)] (.row d es)) (ha : AV.pub.pubs (args.toList.map (St.ev ⟨fr, bx, tk⟩)) = as)
    (hf : St.fresh d ⟨fr, bx, tk⟩ = true) (h : LW P c ⟨(d, .row d es) :: fr, bx, (d, t) :: tk⟩ ops Q rest) :
    LW P c ⟨fr, bx, tk⟩ ops Q (⟨some d, .call { callee := .value (.func f), args := args, argTypes := ats }, ty, pos, aft, none⟩ :: rest) :=
  L.callN (st := ⟨fr, bx, tk⟩) [d] rfl rfl hlt rfl hok.h hc (.of_pub ha) .nil (by simp [hf]) rfl (by simp [keys]) rfl (by simp [AV.mentIn]) h
theorem s_gdo {dst : Option Tmp} {op : Op} {st : St} {j s : Nat} {b b' : Bool} (hj : (ops[j]?).bind (·.dst) = some s) (hb : st.ev (.tmp s) = aB b') (he : b' = b)
    (h : LW P c st ops Q (⟨dst, op, ty, pos, aft, none⟩ :: rest)) : LW P c st ops Q (⟨dst, op, ty, pos, aft, some (j, b)⟩ :: rest) := L.guardDo hj (he ▸ hb) h
theorem s_gskipT {op : Op} {j s : Nat} {b' : Bool} (hlt : Nat.ble (d + 1) c.nt = true) (hj : (ops[j]?).bind (·.dst) = some s) (hb : St.ev ⟨fr, bx, tk⟩ (.tmp s) = aB b') (he : b' = false)
    (h : LW P c ⟨(d, .opt false .any) :: fr, bx, tk⟩ ops Q rest) : LW P c ⟨fr, bx, tk⟩ ops Q (⟨some d, op, ty, pos, aft, some (j, true)⟩ :: rest) := L.guardSkip (st := ⟨fr, bx, tk⟩) hlt hj hb (by rw [he]; simp) h
theorem s_gskipF {op : Op} {j s : Nat} {b' : Bool} (hlt : Nat.ble (d + 1) c.nt = true) (hj : (ops[j]?).bind (·.dst) = some s) (hb : St.ev ⟨fr, bx, tk⟩ (.tmp s) = aB b') (he : b' = true)
    (h : LW P c ⟨(d, .opt false .any) :: fr, bx, tk⟩ ops Q rest) : LW P c ⟨fr, bx, tk⟩ ops Q (⟨some d, op, ty, pos, aft, some (j, false)⟩ :: rest) := L.guardSkip (st := ⟨fr, bx, tk⟩) hlt hj hb (by rw [he]; simp) h
theorem s_gskipU {op : Op} {j s : Nat} {b : Bool} (hlt : Nat.ble (d + 1) c.nt = true) (hj : (ops[j]?).bind (·.dst) = some s) (hb : St.ev ⟨fr, bx, tk⟩ (.tmp s) = .opt false .any)
    (h : LW P c ⟨(d, .opt false .any) :: fr, bx, tk⟩ ops Q rest) : LW P c ⟨fr, bx, tk⟩ ops Q (⟨some d, op, ty, pos, aft, some (j, b)⟩ :: rest) := L.guardSkipU (st := ⟨fr, bx, tk⟩) hlt hj hb h
theorem s_gsplit {o : Oper} {st : St} {j s : Nat} {b b' : Bool} (hj : (ops[j]?).bind (·.dst) = some s) (hg : o.guard = some (j, b)) (hb : st.ev (.tmp s) = aB b') (hT : b' = true → LW P c st ops Q (o :: rest)) (hF : b' = false → LW P c st ops Q (o :: rest)) : LW P c st ops Q (o :: rest) := by
  cases b'
  · exact hF rfl
  · exact hT rfl
theorem v_pickT {x y z : Operand} {b : Bool} {v : AV} (hx : St.ev ⟨fr, bx, tk⟩ x = aB b) (hb : b = true) (hy : St.ev ⟨fr, bx, tk⟩ y = v) : VV P c ⟨fr, bx, tk⟩ ⟨some d, .pick x y z, ty, pos, aft, none⟩ (v) [] :=
  fun st' kE kL => ((kE y (by simp [Op.operands, Call.operands])).trans hy) ▸ .pickT rfl (hb ▸ ((kE x (by simp [Op.operands, Call.operands])).trans hx))
theorem v_pickF {x y z : Operand} {b : Bool} {v : AV} (hx : St.ev ⟨fr, bx, tk⟩ x = aB b) (hb : b = false) (hy : St.ev ⟨fr, bx, tk⟩ z = v) : VV P c ⟨fr, bx, tk⟩ ⟨some d, .pick x y z, ty, pos, aft, none⟩ (v) [] :=
  fun st' kE kL => ((kE z (by simp [Op.operands, Call.operands])).trans hy) ▸ .pickF rfl (hb ▸ ((kE x (by simp [Op.operands, Call.operands])).trans hx))
theorem c_seq {st : St} {x y : Code} (h : L c st (x.wp P (Exit.then (y.wp P Q) Q))) : L c st ((Code.seq x y).wp P Q) := fun a w hr => wp_seq (h a w hr)
theorem c_condT {st : St} {x : Operand} {b : Bool} {y z : Code} (hx : st.ev x = aB b) (hb : b = true) (h : L c st (y.wp P Q)) : L c st ((Code.cond x y z).wp P Q) := L.condT (hb ▸ hx) h
theorem c_condF {st : St} {x : Operand} {b : Bool} {y z : Code} (hx : st.ev x = aB b) (hb : b = false) (h : L c st (z.wp P Q)) : L c st ((Code.cond x y z).wp P Q) := L.condF (hb ▸ hx) h
theorem Sub.of_eq {v v' : AV} (h : v = v') : Sub v v' := h ▸ Sub.refl v
theorem Wk.none {st : St} (hi : c.ins = []) : Wk c st ⟨[], [], []⟩ := Wk.mk' (by rw [hi]; intro id h; cases h) .nil .nil .nil
theorem s_region {st : St} {id : Nat} {l : List Oper} (h : LW P c st l.toArray Q l) : L c st ((Code.region id l.toArray false).wp P Q) := L.region h
theorem s_nil {st : St} (h : L c st (Q .normal)) : LW P c st ops Q [] := h
end
def rowOk (P : Program) (t : TypeId) (e : TypeId) (k bytes : Nat) : Bool :=
  appOk P t e k bytes && (match P.info? e with | some i => (match i.zero with | some z => z.cells.toList.all (·.oneCell') | none => false) | none => false)
theorem rowOk_run {P : Program} {t e : TypeId} {k bytes : Nat} (h : rowOk P t e k bytes = true) :
    P.underlying t = some (.slice e) ∧ 0 < k ∧ ∃ (i : TypeInfo) (z : Value), P.info? e = some i ∧ i.size = k ∧ i.bytes = bytes ∧ i.zero = some z ∧ z.cells.size = k ∧ ∀ u ∈ z.cells.toList, u.oneCell' = true := by
  unfold rowOk at h
  simp only [Bool.and_eq_true] at h
  obtain ⟨h1, h2⟩ := h
  obtain ⟨hu, hk, i, z, hi, hs, hb, hz, hzk, _⟩ := appOk_run h1
  rw [hi] at h2; simp only [hz] at h2
  exact ⟨hu, hk, i, z, hi, hs, hb, hz, hzk, fun u hu => List.all_eq_true.1 h2 u hu⟩
class RowTy (P : Program) (t : TypeId) (e : outParam TypeId) (k bytes : outParam Nat) : Prop where
  h : rowOk P t e k bytes = true
class OvlTy (P : Program) (f : FuncId) (t tr : outParam TypeId) : Prop where
  h : extOk P f (Extern.SlicesOverlaps.overlaps #[t, t] #[tr])
section
variable {P : Program} {c : Ctx} {fr : List (Nat × AV)} {bx : List (Nat × Box)} {tk : List (Nat × Tok)} {ops : Array Oper} {Q : Exit → Act → World → Prop} {rest : List Oper}
  {d : Nat} {ty : TypeId} {pos : String} {aft : Array Edge}
theorem v_lenBsl {x : Operand} {t e : TypeId} {k id off n cap : Nat} (hx : St.ev ⟨fr, bx, tk⟩ x = .bsl id off n cap) [hs : SliceTy P t e k] : VV P c ⟨fr, bx, tk⟩ ⟨some d, .call { callee := .builtin .len, args := #[x], argTypes := #[t] }, ty, pos, aft, none⟩ (aI n) [] :=
  fun st' kE kL => .lenBsl rfl hs.h ((kE x (by simp [Op.operands, Call.operands])).trans hx)
theorem v_lenBsh {x : Operand} {t e : TypeId} {k id off n k' : Nat} (hx : St.ev ⟨fr, bx, tk⟩ x = .bsh id off n k') [hs : SliceTy P t e k] : VV P c ⟨fr, bx, tk⟩ ⟨some d, .call { callee := .builtin .len, args := #[x], argTypes := #[t] }, ty, pos, aft, none⟩ (aI n) [] :=
  fun st' kE kL => .lenBsh rfl hs.h ((kE x (by simp [Op.operands, Call.operands])).trans hx)
theorem v_capBsl {x : Operand} {t e : TypeId} {k id off n cap : Nat} (hx : St.ev ⟨fr, bx, tk⟩ x = .bsl id off n cap) [hs : SliceTy P t e k] : VV P c ⟨fr, bx, tk⟩ ⟨some d, .call { callee := .builtin .cap, args := #[x], argTypes := #[t] }, ty, pos, aft, none⟩ (aI cap) [] :=
  fun st' kE kL => .capBsl rfl hs.h ((kE x (by simp [Op.operands, Call.operands])).trans hx)
theorem v_indexBsh {t e : TypeId} {x i : Operand} {k id off n off' : Nat} {kd : IntKind} {j : Int} (hx : St.ev ⟨fr, bx, tk⟩ x = .bsh id off n k) (hj : St.ev ⟨fr, bx, tk⟩ i = .iv (.im (.int kd j))) [hs : SliceTy P t e k] (h0 : 0 ≤ j) (h1 : j < n) (ho : (off + j.toNat) * k = off') : VV P c ⟨fr, bx, tk⟩ ⟨some d, .indexAddr t x i, ty, pos, aft, none⟩ (.ptr id off') [] :=
  fun st' kE kL => ho ▸ .indexBsh rfl hs.h ((kE x (by simp [Op.operands, Call.operands])).trans hx) ((kE i (by simp [Op.operands, Call.operands])).trans hj) h0 h1
theorem v_slBl {x y : Operand} {t e : TypeId} {k id off n cap off' n' cap' : Nat} {kd : IntKind} {j : Int} (hx : St.ev ⟨fr, bx, tk⟩ x = .bsl id off n cap) (hy : St.ev ⟨fr, bx, tk⟩ y = .iv (.im (.int kd j))) [hs : SliceTy P t e k] (h0 : 0 ≤ j) (h1 : j ≤ n) (e1 : off + j.toNat * k = off') (e2 : n - j.toNat = n') (e3 : cap - j.toNat = cap') : VV P c ⟨fr, bx, tk⟩ ⟨some d, .slice t x (some y) none none, ty, pos, aft, none⟩ (.bsl id off' n' cap') [] :=
  fun st' kE kL => e1 ▸ e2 ▸ e3 ▸ .slBl rfl ((kE x (by simp [Op.operands, Call.operands])).trans hx) ((kE y (by simp [Op.operands, Call.operands])).trans hy) hs.h h0 h1
theorem v_slBh {x y : Operand} {t e : TypeId} {k id off n cap n' : Nat} {kd : IntKind} {j : Int} (hx : St.ev ⟨fr, bx, tk⟩ x = .bsl id off n cap) (hy : St.ev ⟨fr, bx, tk⟩ y = .iv (.im (.int kd j))) [hs : SliceTy P t e k] (h0 : 0 ≤ j) (h1 : j ≤ cap) (e2 : j.toNat = n') : VV P c ⟨fr, bx, tk⟩ ⟨some d, .slice t x none (some y) none, ty, pos, aft, none⟩ (.bsl id off n' cap) [] :=
  fun st' kE kL => e2 ▸ .slBh rfl ((kE x (by simp [Op.operands, Call.operands])).trans hx) ((kE y (by simp [Op.operands, Call.operands])).trans hy) hs.h h0 h1
theorem v_eqlNil {x y : Operand} {t t' e : TypeId} {k : Nat} {es : List (List IV)} (hx : (St.ev ⟨fr, bx, tk⟩ x).sl? = some es) (hy : St.ev ⟨fr, bx, tk⟩ y = .nils) [hs : SliceTy P t e k] (hne : es ≠ []) : VV P c ⟨fr, bx, tk⟩ ⟨some d, .binOp .eql t x y t', ty, pos, aft, none⟩ (aB false) [] :=
  fun st' kE kL => .eqlNil rfl ((congrArg AV.sl? (kE x (by simp [Op.operands, Call.operands]))).trans hx) ((kE y (by simp [Op.operands, Call.operands])).trans hy) hs.h hne
theorem v_app0 {x y : Operand} {t t' e e' : TypeId} {k k' : Nat} (hx : (St.ev ⟨fr, bx, tk⟩ x).sl? = some []) (hy : (St.ev ⟨fr, bx, tk⟩ y).sl? = some []) [hs : SliceTy P t e k] [hs2 : SliceTy P t' e' k'] : VV P c ⟨fr, bx, tk⟩ ⟨some d, .call { callee := .builtin .append, args := #[x, y], argTypes := #[t, t'] }, ty, pos, aft, none⟩ (.iv (.sl [])) [] :=
  fun st' kE kL => .app0 rfl hs.h hs2.h ((congrArg AV.sl? (kE x (by simp [Op.operands, Call.operands]))).trans hx) ((congrArg AV.sl? (kE y (by simp [Op.operands, Call.operands]))).trans hy)
theorem v_loadAR {t : TypeId} {x : Operand} {id off k mm i : Nat} {bt : TypeId} {es : List (List IV)} {e : List IV} {vs : List AV} (hx : St.ev ⟨fr, bx, tk⟩ x = .ptr id off) [ht : VarTy P t true k] (hb : bx.lookup id = some ⟨bt, .r es.flatten mm⟩) (hk : ∀ e ∈ es, e.length = k) (ho : off = i * k) (he : es[i]? = some e) (hv : e.map AV.iv = vs) : VV P c ⟨fr, bx, tk⟩ ⟨some d, .load t x, ty, pos, aft, none⟩ (.agg vs) [id] :=
  fun st' kE kL => .loadAR rfl ht.h ((kE x (by simp [Op.operands, Call.operands])).trans hx) ((kL id (by simp)).trans hb) hk ho he hv
theorem v_overlapsR {f : FuncId} {x y : Operand} {ats : Array TypeId} {t tr e : TypeId} {k i j offi n cap offj m capj mm mm' : Nat} {bt bt' : TypeId} {xs ys : List IV} (hx : St.ev ⟨fr, bx, tk⟩ x = .bsl i offi n cap) (hy : St.ev ⟨fr, bx, tk⟩ y = .bsl j offj m capj) [hok : OvlTy P f t tr] [hs : SliceTy P t e k] (hij : (i == j) = false) (hb : bx.lookup i = some ⟨bt, .r xs mm⟩) (hb2 : bx.lookup j = some ⟨bt', .r ys mm'⟩) (hoff : cap ≠ 0) (hin : offi < xs.length) (hne : ys ≠ []) : VV P c ⟨fr, bx, tk⟩ ⟨some d, .call { callee := .value (.func f), args := #[x, y], argTypes := ats }, ty, pos, aft, none⟩ (aB false) [i, j] :=
  fun st' kE kL => .overlapsR rfl hok.h hs.h ((kE x (by simp [Op.operands, Call.operands])).trans hx) ((kE y (by simp [Op.operands, Call.operands])).trans hy) (by simpa using hij) ((kL i (by simp)).trans hb) ((kL j (by simp)).trans hb2) hoff hin hne
theorem s_copyRR {t t' e : TypeId} {x y : Operand} {k n cnt id off cap id' off' n' cap' mm mm' mr i i' : Nat} {bt bt' : TypeId} {es es' er : List (List IV)} (hlt : Nat.ble (d + 1) c.nt = true) (hx : St.ev ⟨fr, bx, tk⟩ x = .bsl id off n cap) (hy : St.ev ⟨fr, bx, tk⟩ y = .bsl id' off' n' cap') [hs : SliceTy P t e k] (hb : bx.lookup id = some ⟨bt, .r es.flatten mm⟩) (hb2 : bx.lookup id' = some ⟨bt', .r es'.flatten mm'⟩) (hk : ∀ e ∈ es, e.length = k) (hk2 : ∀ e ∈ es', e.length = k) (hk0 : 0 < k) (hoff : off = i * k) (hoff2 : off' = i' * k) (hcnt : Nat.min n' n = cnt) (hpos : 0 < cnt) (hle : (i' + n') * k ≤ es'.length * k + mm') (hin : i' + cnt ≤ es'.length) (hi : i ≤ es.length) (hm : (i + cnt) * k ≤ es.length * k + mm) (her : es.take i ++ ((es'.drop i').take cnt ++ es.drop (i + cnt)) = er) (hmr : mm - (i + cnt - es.length) * k = mr)
    (h : LW P c ⟨(d, aI cnt) :: fr, (id, ⟨bt, .r er.flatten mr⟩) :: bx, tk⟩ ops Q rest) : LW P c ⟨fr, bx, tk⟩ ops Q (⟨some d, .call { callee := .builtin .copy, args := #[x, y], argTypes := #[t, t'] }, ty, pos, aft, none⟩ :: rest) :=
  L.make (st := ⟨fr, bx, tk⟩) rfl rfl hlt (her ▸ hmr ▸ .copyRR rfl hs.h hx hb hy hb2 hk hk2 hk0 hoff hoff2 hcnt hpos hle hin hi hm) h
theorem s_roomRR {t t' e e' : TypeId} {x y : Operand} {k k2 bytes n id cap id' off' n' cap' mm mm' mr i' nr : Nat} {bt bt' : TypeId} {es es' er : List (List IV)} (hlt : Nat.ble (d + 1) c.nt = true) (hx : St.ev ⟨fr, bx, tk⟩ x = .bsl id 0 n cap) (hy : St.ev ⟨fr, bx, tk⟩ y = .bsl id' off' n' cap') [hr : RowTy P t e k bytes] [hs2 : SliceTy P t' e' k2] (hb : bx.lookup id = some ⟨bt, .r es.flatten mm⟩) (hb2 : bx.lookup id' = some ⟨bt', .r es'.flatten mm'⟩) (hbn : es.flatten ≠ [] ∨ 0 < mm) (hk : ∀ e ∈ es, e.length = k) (hk2 : ∀ e ∈ es', e.length = k) (hoff2 : off' = i' * k) (hin : i' + n' ≤ es'.length) (hc0 : 0 < cap) (hroom : n + n' ≤ cap) (hi : n ≤ es.length) (hm : (n + n') * k ≤ es.length * k + mm) (her : es.take n ++ ((es'.drop i').take n' ++ es.drop (n + n')) = er) (hmr : mm - (n + n' - es.length) * k = mr) (hnr : n + n' = nr)
    (h : LW P c ⟨(d, .bsl id 0 nr cap) :: fr, (id, ⟨bt, .r er.flatten mr⟩) :: bx, tk⟩ ops Q rest) : LW P c ⟨fr, bx, tk⟩ ops Q (⟨some d, .call { callee := .builtin .append, args := #[x, y], argTypes := #[t, t'] }, ty, pos, aft, none⟩ :: rest) := by
  obtain ⟨ht, hk0, i0, z, hi0, hik, hib, hiz, hzk, hz1⟩ := rowOk_run hr.h
  subst her; subst hmr; subst hnr
  exact L.make (st := ⟨fr, bx, tk⟩) rfl rfl hlt (.roomRR rfl ht hi0 hik (sliceOk_run hs2.h).1 (.inl ⟨_, rfl⟩) hx hb (row_ne hbn) hy hb2 hk hk2 hoff2 hin hc0 hroom hi hm) h
theorem s_growRR (N : Nat) {t t' e e' : TypeId} {x y : Operand} {k k2 bytes n id cap mm nr id' off' n' cap' mm' i' : Nat} {bt bt' : TypeId} {es es' er : List (List IV)} (hlt : Nat.ble (d + 1) c.nt = true) (hx : St.ev ⟨fr, bx, tk⟩ x = .bsl id 0 n cap) (hy : St.ev ⟨fr, bx, tk⟩ y = .bsl id' off' n' cap') [hr : RowTy P t e k bytes] [hs2 : SliceTy P t' e' k2] (hb : bx.lookup id = some ⟨bt, .r es.flatten mm⟩) (hb2 : bx.lookup id' = some ⟨bt', .r es'.flatten mm'⟩) (hk : ∀ e ∈ es, e.length = k) (hk2 : ∀ e ∈ es', e.length = k) (hoff2 : off' = i' * k) (hn0 : 0 < n') (hin : i' + n' ≤ es'.length) (hi : n ≤ es.length) (hcap : cap < n + n') (hm : n + n' ≤ maxLen) (hby : (n + n') * bytes ≤ 140737488355328) (hf : St.fresh N ⟨fr, bx, tk⟩ = true) (her : es.take n ++ (es'.drop i').take n' = er) (hnr : n + n' = nr)
    (h : LW P c ⟨(d, .bsh N 0 nr k) :: fr, (N, ⟨e, .r er.flatten 0⟩) :: bx, tk⟩ ops Q rest) : LW P c ⟨fr, bx, tk⟩ ops Q (⟨some d, .call { callee := .builtin .append, args := #[x, y], argTypes := #[t, t'] }, ty, pos, aft, none⟩ :: rest) := by
  obtain ⟨ht, hk0, i0, z, hi0, hik, hib, hiz, hzk, hz1⟩ := rowOk_run hr.h
  have hnl : ((es'.drop i').take n').length = n' := by rw [List.length_take, List.length_drop]; omega
  have hM := Makes.growR (P := P) (c := c) (st := ⟨fr, bx, tk⟩) (o := ⟨some d, .call { callee := .builtin .append, args := #[x, y], argTypes := #[t, t'] }, ty, pos, aft, none⟩) (id' := N) rfl ht hi0 hik hib hiz hzk hz1 (sliceOk_run hs2.h).1 (.inl ⟨_, rfl⟩) hk0 hx hb hk hi (by rw [hnl]; exact hcap) (mem_take_len (mem_drop_len hk2)) (.row hy hb2 hk2 hk0 hoff2 hn0 hin) (fun e => by rw [e] at hnl; simp at hnl; omega) (by rw [hnl]; exact hm) (by rw [hnl]; exact hby) hf
  rw [hnl] at hM
  subst her; subst hnr
  exact L.make (st := ⟨fr, bx, tk⟩) rfl rfl hlt hM h
theorem s_growRZ (N : Nat) {t t' e : TypeId} {kd kd' : IntKind} {x y : Operand} {m k bytes n id cap mm nr mr : Nat} {j : Int} {bt : TypeId} {es er : List (List IV)} (hlt : Nat.ble (d + 1) c.nt = true) (hx : St.ev ⟨fr, bx, tk⟩ x = .bsl id 0 n cap) (hy : St.ev ⟨fr, bx, tk⟩ y = .iv (.im (.int kd' j))) (hj : j = (m : Int)) [hr : RowTy P t e k bytes] [hd2 : IntTy P t' kd] (hb : bx.lookup id = some ⟨bt, .r es.flatten mm⟩) (hk : ∀ e ∈ es, e.length = k) (hi : n ≤ es.length) (hcap : cap < n + m) (hpos : 0 < m) (hm : n + m ≤ maxLen) (hby : (n + m) * bytes ≤ 140737488355328) (hf : St.fresh N ⟨fr, bx, tk⟩ = true) (her : es.take n = er) (hnr : n + m = nr) (hmr : m * k = mr)
    (h : LW P c ⟨(d, .bsh N 0 nr k) :: fr, (N, ⟨e, .r er.flatten mr⟩) :: bx, tk⟩ ops Q rest) : LW P c ⟨fr, bx, tk⟩ ops Q (⟨some d, .call { callee := .builtin .append, args := #[x, y], argTypes := #[t, t'] }, ty, pos, aft, none⟩ :: rest) := by
  obtain ⟨ht, hk0, i0, z, hi0, hik, hib, hiz, hzk, hz1⟩ := rowOk_run hr.h
  subst her; subst hnr; subst hmr; subst hj
  exact L.make (st := ⟨fr, bx, tk⟩) rfl rfl hlt (.growRZ rfl ht hi0 hik hib hiz hzk hz1 hd2.h hk0 hx hb hk hi hcap hy hpos hm hby hf) h
theorem s_cloneR (N : Nat) {t t' e e' : TypeId} {x y : Operand} {k k2 bytes id off : Nat} {news : List (List IV)} (hlt : Nat.ble (d + 1) c.nt = true) (hx : St.ev ⟨fr, bx, tk⟩ x = .bsl id off 0 0) (hy : (St.ev ⟨fr, bx, tk⟩ y).sl? = some news) [hr : RowTy P t e k bytes] [hs2 : SliceTy P t' e' k2] (hk2 : ∀ e ∈ news, e.length = k) (hne : news ≠ []) (hm : news.length ≤ maxLen) (hby : news.length * bytes ≤ 140737488355328) (hf : St.fresh N ⟨fr, bx, tk⟩ = true)
    (h : LW P c ⟨(d, .bsh N 0 news.length k) :: fr, (N, ⟨e, .r news.flatten 0⟩) :: bx, tk⟩ ops Q rest) : LW P c ⟨fr, bx, tk⟩ ops Q (⟨some d, .call { callee := .builtin .append, args := #[x, y], argTypes := #[t, t'] }, ty, pos, aft, none⟩ :: rest) := by
  obtain ⟨ht, hk0, i0, z, hi0, hik, hib, hiz, hzk, hz1⟩ := rowOk_run hr.h
  exact L.make (st := ⟨fr, bx, tk⟩) rfl rfl hlt (.cloneR rfl ht hi0 hik hib hiz hzk hz1 (sliceOk_run hs2.h).1 (.inl ⟨_, rfl⟩) hk0 hx hk2 (.slice hy hk2 hk0) hne hm hby hf) h
theorem v_capNil {x : Operand} {t e : TypeId} {k : Nat} (hx : St.ev ⟨fr, bx, tk⟩ x = .nils) [hs : SliceTy P t e k] : VV P c ⟨fr, bx, tk⟩ ⟨some d, .call { callee := .builtin .cap, args := #[x], argTypes := #[t] }, ty, pos, aft, none⟩ (aI 0) [] :=
  fun st' kE kL => .capNil rfl hs.h ((kE x (by simp [Op.operands, Call.operands])).trans hx)
theorem v_slNil {x y : Operand} {t e : TypeId} {k : Nat} {kd : IntKind} {j : Int} (hx : St.ev ⟨fr, bx, tk⟩ x = .nils) (hy : St.ev ⟨fr, bx, tk⟩ y = .iv (.im (.int kd j))) [hs : SliceTy P t e k] (h0 : j = 0) : VV P c ⟨fr, bx, tk⟩ ⟨some d, .slice t x none (some y) none, ty, pos, aft, none⟩ (.nils) [] :=
  fun st' kE kL => .slNil rfl ((kE x (by simp [Op.operands, Call.operands])).trans hx) ((kE y (by simp [Op.operands, Call.operands])).trans hy) hs.h h0
theorem v_slBshH {x y : Operand} {t e : TypeId} {k id n n' : Nat} {kd : IntKind} {j : Int} (hx : St.ev ⟨fr, bx, tk⟩ x = .bsh id 0 n k) (hy : St.ev ⟨fr, bx, tk⟩ y = .iv (.im (.int kd j))) [hs : SliceTy P t e k] (h0 : 0 ≤ j) (h1 : j ≤ n) (e2 : j.toNat = n') : VV P c ⟨fr, bx, tk⟩ ⟨some d, .slice t x none (some y) none, ty, pos, aft, none⟩ (.bsh id 0 n' k) [] :=
  fun st' kE kL => e2 ▸ .slBshH rfl ((kE x (by simp [Op.operands, Call.operands])).trans hx) ((kE y (by simp [Op.operands, Call.operands])).trans hy) hs.h h0 h1
theorem s_growNZ (N : Nat) {t t' e : TypeId} {kd kd' : IntKind} {x y : Operand} {m k bytes mr : Nat} {j : Int} (hlt : Nat.ble (d + 1) c.nt = true) (hx : St.ev ⟨fr, bx, tk⟩ x = .nils) (hy : St.ev ⟨fr, bx, tk⟩ y = .iv (.im (.int kd' j))) (hj : j = (m : Int)) [hr : RowTy P t e k bytes] [hd2 : IntTy P t' kd] (hpos : 0 < m) (hm : m ≤ maxLen) (hby : m * bytes ≤ 140737488355328) (hf : St.fresh N ⟨fr, bx, tk⟩ = true) (hmr : m * k = mr)
    (h : LW P c ⟨(d, .bsh N 0 m k) :: fr, (N, ⟨e, .r [] mr⟩) :: bx, tk⟩ ops Q rest) : LW P c ⟨fr, bx, tk⟩ ops Q (⟨some d, .call { callee := .builtin .append, args := #[x, y], argTypes := #[t, t'] }, ty, pos, aft, none⟩ :: rest) := by
  obtain ⟨ht, hk0, i0, z, hi0, hik, hib, hiz, hzk, hz1⟩ := rowOk_run hr.h
  subst hmr; subst hj
  exact L.make (st := ⟨fr, bx, tk⟩) rfl rfl hlt (.growNZ rfl ht hi0 hik hib hiz hzk hz1 hd2.h hk0 hx hy hpos hm hby hf) h
theorem s_mkEmpty {t e : TypeId} {k : Nat} {zs : List Value} (hlt : Nat.ble (d + 1) c.nt = true) [hs : SliceTy P t e k] [hz : ZeroTy P e zs] (h1 : zs.all (·.oneCell') = true) (hzl : zs.length = k) (hnk : Nat.ble 1 k = true) (hfr : St.fresh d ⟨fr, bx, tk⟩ = true)
    (h : LW P c ⟨(d, .bsl d 0 0 0) :: fr, (d, ⟨e, .l []⟩) :: bx, tk⟩ ops Q rest) : LW P c ⟨fr, bx, tk⟩ ops Q (⟨some d, .buildSlice t 0 #[], ty, pos, aft, none⟩ :: rest) :=
  L.make (st := ⟨fr, bx, tk⟩) rfl rfl hlt (.buildBox (cs := []) rfl hs.h hz.h h1 hzl (by simp) (Nat.le_of_ble_eq_true hnk) (by simp [fillA]) (by simp) rfl hfr) h
theorem s_buildR {t e : TypeId} {n k : Nat} {parts : Array (Nat × Operand)} {zs : List Value} {cs : List AV} {es : List (List IV)} (hlt : Nat.ble (d + 1) c.nt = true) [hs : SliceTy P t e k] [hz : ZeroTy P e zs] (h1 : zs.all (·.oneCell') = true) (hzl : zs.length = k) (hn : Nat.ble (n * k) 16777216 = true) (hnk : Nat.ble 1 k = true) (hf : fillA (fun i => some (i * k, k)) ((List.range (n * k)).map fun i => constCell (zs.getD (i % k) undef)) (parts.toList.map fun x => (x.1, St.ev ⟨fr, bx, tk⟩ x.2)) = some cs) (hcs : cs = es.flatten.map AV.iv) (hcl : es.flatten.length = n * k) (hfr : St.fresh d ⟨fr, bx, tk⟩ = true)
    (h : LW P c ⟨(d, .bsl d 0 n n) :: fr, (d, ⟨e, .r es.flatten 0⟩) :: bx, tk⟩ ops Q rest) : LW P c ⟨fr, bx, tk⟩ ops Q (⟨some d, .buildSlice t n parts, ty, pos, aft, none⟩ :: rest) :=
  L.make (st := ⟨fr, bx, tk⟩) rfl rfl hlt (.buildR rfl hs.h hz.h h1 hzl (Nat.le_of_ble_eq_true hn) (Nat.le_of_ble_eq_true hnk) hf hcs hcl hfr) h
theorem s_storeR {t : TypeId} {x y : Operand} {id off k mm i : Nat} {bt : TypeId} {es er : List (List IV)} {e : List IV} {v : AV} {agg : Bool} (hx : St.ev ⟨fr, bx, tk⟩ x = .ptr id off) (hy : St.ev ⟨fr, bx, tk⟩ y = v) [ht : VarTy P t agg k] (hb : bx.lookup id = some ⟨bt, .r es.flatten mm⟩)
    (hv : v.lays = true) (hc : v.cells = e.map AV.iv) (he : e.length = k) (hk : ∀ e ∈ es, e.length = k) (ho : off = i * k) (hi : i < es.length) (her : es.set i e = er)
    (h : LW P c ⟨fr, (id, ⟨bt, .r er.flatten mm⟩) :: bx, tk⟩ ops Q rest) : LW P c ⟨fr, bx, tk⟩ ops Q (⟨none, .store t x y, ty, pos, aft, none⟩ :: rest) := by
  subst her
  exact L.does (st := ⟨fr, bx, tk⟩) rfl rfl (.storeR rfl ht.h hx hb hy hv hc he hk ho hi) h
theorem s_call01 {f : FuncId} {args : Array Operand} {ats : Array TypeId} {as : List AV} {k n : Nat} {bt : TypeId} {xs : List IV} (hlt : Nat.ble (d + 1) c.nt = true) [hok : CallTy P f] (hc : CallA P f as [] [(1000, ⟨bt, .r xs 0⟩)] [] (.bsh 1000 0 n k)) (ha : AV.pub.pubs (args.toList.map (St.ev ⟨fr, bx, tk⟩)) = as) (hm : AV.mentsIn [] as = true) (hf : St.fresh d ⟨fr, bx, tk⟩ = true)
    (h : LW P c ⟨(d, .bsh d 0 n k) :: fr, (d, ⟨bt, .r xs 0⟩) :: bx, tk⟩ ops Q rest) : LW P c ⟨fr, bx, tk⟩ ops Q (⟨some d, .call { callee := .value (.func f), args := args, argTypes := ats }, ty, pos, aft, none⟩ :: rest) :=
  L.call01 (st := ⟨fr, bx, tk⟩) rfl rfl hlt rfl hok.h hc ha hm hf h
theorem s_call02 {f : FuncId} {args : Array Operand} {ats : Array TypeId} {as : List AV} {k n k' n' : Nat} {bt bt' : TypeId} {xs xs' : List IV} (hlt : Nat.ble (d + 1) c.nt = true) [hok : CallTy P f] (hc : CallA P f as [] [(1000, ⟨bt, .r xs 0⟩), (1001, ⟨bt', .r xs' 0⟩)] [] (.agg [.bsh 1000 0 n k, .bsh 1001 0 n' k'])) (ha : AV.pub.pubs (args.toList.map (St.ev ⟨fr, bx, tk⟩)) = as) (hm : AV.mentsIn [] as = true) (hf : St.fresh d ⟨fr, bx, tk⟩ = true) (hf2 : St.fresh (d + 2000) ⟨fr, bx, tk⟩ = true)
    (h : LW P c ⟨(d, .agg [.bsh d 0 n k, .bsh (d + 2000) 0 n' k']) :: fr, (d, ⟨bt, .r xs 0⟩) :: (d + 2000, ⟨bt', .r xs' 0⟩) :: bx, tk⟩ ops Q rest) : LW P c ⟨fr, bx, tk⟩ ops Q (⟨some d, .call { callee := .value (.func f), args := args, argTypes := ats }, ty, pos, aft, none⟩ :: rest) :=
  L.call02 (st := ⟨fr, bx, tk⟩) rfl rfl hlt rfl hok.h hc ha hm hf hf2 h
theorem s_call21 {f : FuncId} {args : Array Operand} {ats : Array TypeId} {i : AV} {a v k n m n' : Nat} {bt bt' : TypeId} {xs vs ys : List IV} (hlt : Nat.ble (d + 1) c.nt = true) [hok : CallTy P f] (hc : CallA P f [.bsh 1000 0 n k, i, .bsl 1001 0 m m] [(1000, ⟨bt, .r xs 0⟩), (1001, ⟨bt', .r vs 0⟩)] [(1002, ⟨bt, .r ys 0⟩), (1000, ⟨bt, .l []⟩), (1001, ⟨bt', .l []⟩)] [] (.bsh 1002 0 n' k)) (ha : AV.pub.pubs (args.toList.map (St.ev ⟨fr, bx, tk⟩)) = [.bsh a 0 n k, i, .bsl v 0 m m])
    (hb : bx.lookup a = some ⟨bt, .r xs 0⟩) (hb2 : bx.lookup v = some ⟨bt', .r vs 0⟩) (hxs : xs ≠ []) (hvs : vs ≠ []) (hav : (a == v) = false) (hm : AV.mentIn [] i = true) (hf : St.fresh d ⟨fr, bx, tk⟩ = true)
    (h : LW P c ⟨(d, .bsh d 0 n' k) :: fr, (d, ⟨bt, .r ys 0⟩) :: (a, ⟨bt, .l []⟩) :: (v, ⟨bt', .l []⟩) :: bx, tk⟩ ops Q rest) : LW P c ⟨fr, bx, tk⟩ ops Q (⟨some d, .call { callee := .value (.func f), args := args, argTypes := ats }, ty, pos, aft, none⟩ :: rest) :=
  L.call21 (st := ⟨fr, bx, tk⟩) rfl rfl hlt rfl hok.h hc ha hb hb2 hxs hvs hav hm hf h
theorem s_eqlNil0 {x y : Operand} {t t' e : TypeId} {k : Nat} (hlt : Nat.ble (d + 1) c.nt = true) (hx : (St.ev ⟨fr, bx, tk⟩ x).sl? = some []) (hy : St.ev ⟨fr, bx, tk⟩ y = .nils) [hs : SliceTy P t e k]
    (h : ∀ b, LW P c ⟨(d, aB b) :: fr, bx, tk⟩ ops Q rest) : LW P c ⟨fr, bx, tk⟩ ops Q (⟨some d, .binOp .eql t x y t', ty, pos, aft, none⟩ :: rest) :=
  L.eqlNil0 (st := ⟨fr, bx, tk⟩) rfl rfl hlt rfl hx hy hs.h h
end
attribute [irreducible] LW VV
end Go.Abs
/- A logic of abstract states, part 12: a region whose order is open. Where every two operations of which one writes what the other reads or writes are ordered, one walk in the order of the text serves every order. Conditions: the rule's own premises; over any program. -/
namespace Go.Abs
set_option linter.unusedVariables false
set_option linter.unusedSimpArgs false
structure Eff where
  val : Option (Nat × AV)
  nb : List (Nat × Box)
  nt : List (Nat × Tok)
  dt : List Nat
  tb : List Nat
  tt : List Nat
  fs : List Nat
def delT : List Nat → List (Nat × Tok) → List (Nat × Tok)
  | [], tk => tk
  | id :: l, tk => delT l (delTok id tk)
def Eff.on (e : Eff) (st : St) : St := ⟨e.val.toList ++ st.fr, e.nb ++ st.bx, e.nt ++ delT e.dt st.tk⟩
def Eff.writes (e : Eff) : List Nat := e.val.toList.map (fun p => 3 * p.1) ++ (e.nb.map (fun p => 3 * p.1 + 1) ++ (e.nt.map (fun p => 3 * p.1 + 2) ++ e.dt.map (fun n => 3 * n + 2)))
def slotsOf (o : Oper) (ops : Array Oper) : List Nat :=
  (o.op.operands.toList.filterMap fun | .tmp t => some (3 * t) | _ => none) ++ (match o.guard with | some (j, _) => ((ops[j]?).bind (·.dst)).toList.map (3 * ·) | none => [])
def Eff.reads (e : Eff) : List Nat := e.tb.map (3 * · + 1) ++ e.tt.map (3 * · + 2)
def St.look (st : St) (κ : Nat) : Option (AV ⊕ Box ⊕ Tok) :=
  if κ % 3 = 0 then (st.fr.lookup (κ / 3)).map .inl else if κ % 3 = 1 then (st.bx.lookup (κ / 3)).map (.inr ∘ .inl) else (st.tk.lookup (κ / 3)).map (.inr ∘ .inr)
theorem St.look0 (st : St) (s : Nat) : st.look (3 * s) = (st.fr.lookup s).map .inl := by
  simp [St.look, Nat.mul_div_cancel_left]
theorem St.look1 (st : St) (s : Nat) : st.look (3 * s + 1) = (st.bx.lookup s).map (.inr ∘ .inl) := by
  have h1 : (3 * s + 1) % 3 = 1 := by omega
  have h2 : (3 * s + 1) / 3 = s := by omega
  simp [St.look, h1, h2]
theorem St.look2 (st : St) (s : Nat) : st.look (3 * s + 2) = (st.tk.lookup s).map (.inr ∘ .inr) := by
  have h1 : (3 * s + 2) % 3 = 2 := by omega
  have h2 : (3 * s + 2) / 3 = s := by omega
  simp [St.look, h1, h2]
theorem lookup_none_of {β : Type} : ∀ {l : List (Nat × β)} {s : Nat}, s ∉ l.map (·.1) → l.lookup s = none
  | [], s, h => rfl
  | (t, u) :: l, s, h => by
    simp only [List.map_cons, List.mem_cons, not_or] at h
    rw [lookup_cons_ne h.1]; exact lookup_none_of h.2
theorem lookup_some_of {β : Type} : ∀ {l : List (Nat × β)} {s : Nat}, s ∈ l.map (·.1) → ∃ v, l.lookup s = some v
  | [], s, h => by simp at h
  | (t, u) :: l, s, h => by
    by_cases e : s = t
    · exact ⟨u, by rw [e]; exact lookup_cons_eq⟩
    · rw [lookup_cons_ne e]; exact lookup_some_of (by simp only [List.map_cons, List.mem_cons] at h; exact h.resolve_left e)
theorem delTok_look (id : Nat) : ∀ (tk : List (Nat × Tok)) (s : Nat), (delTok id tk).lookup s = if s = id then none else tk.lookup s
  | [], s => by simp [delTok]
  | (t, u) :: tk, s => by
    have ih := delTok_look id tk s
    unfold delTok at ih ⊢
    by_cases e : t = id
    · subst e
      simp only [List.filter_cons, bne_self_eq_false, Bool.false_eq_true, if_false]
      rw [ih]
      by_cases h : s = t
      · simp [h]
      · rw [lookup_cons_ne h]
    · have hb : (t != id) = true := by simpa [bne] using e
      simp only [List.filter_cons, hb, if_true]
      by_cases h : s = t
      · subst h; rw [lookup_cons_eq, lookup_cons_eq, if_neg e]
      · rw [lookup_cons_ne h, lookup_cons_ne h, ih]
theorem delT_look : ∀ (l : List Nat) (tk : List (Nat × Tok)) (s : Nat), (delT l tk).lookup s = if l.contains s then none else tk.lookup s
  | [], tk, s => by simp [delT]
  | id :: l, tk, s => by
    rw [delT, delT_look l, delTok_look]
    by_cases h : s = id
    · subst h; simp
    · simp [h]
theorem delT_mem : ∀ (l : List Nat) (tk : List (Nat × Tok)) {p : Nat × Tok}, p ∈ delT l tk → p ∈ tk
  | [], tk, p, h => h
  | id :: l, tk, p, h => by
    have := delT_mem l _ h
    unfold delTok at this
    exact (List.mem_filter.1 this).1
theorem Eff.on_look_ne {e : Eff} {st : St} {κ : Nat} (h : κ ∉ e.writes) : (e.on st).look κ = st.look κ := by
  simp only [Eff.writes, List.mem_append, List.mem_map, not_or, not_exists, not_and] at h
  obtain ⟨h0, h1, h2, h3⟩ := h
  rcases (by omega : κ = 3 * (κ / 3) ∨ κ = 3 * (κ / 3) + 1 ∨ κ = 3 * (κ / 3) + 2) with hk | hk | hk
  · rw [hk, St.look0, St.look0]
    simp only [Eff.on, List.lookup_append]
    rw [lookup_none_of (l := e.val.toList) (fun hm => by
      simp only [List.mem_map] at hm
      obtain ⟨p, hp, he⟩ := hm
      exact h0 p hp (by omega))]
    simp
  · rw [hk, St.look1, St.look1]
    simp only [Eff.on, List.lookup_append]
    rw [lookup_none_of (l := e.nb) (fun hm => by
      simp only [List.mem_map] at hm
      obtain ⟨p, hp, he⟩ := hm
      exact h1 p hp (by omega))]
    simp
  · rw [hk, St.look2, St.look2]
    simp only [Eff.on, List.lookup_append]
    rw [lookup_none_of (l := e.nt) (fun hm => by
      simp only [List.mem_map] at hm
      obtain ⟨p, hp, he⟩ := hm
      exact h2 p hp (by omega)), delT_look, if_neg (fun hm => h3 (κ / 3) (by simpa using hm) (by omega))]
    simp
theorem Eff.on_look_eq {e : Eff} {st st' : St} {κ : Nat} (h : κ ∈ e.writes ∨ st'.look κ = st.look κ) : (e.on st').look κ = (e.on st).look κ := by
  by_cases hw : κ ∈ e.writes
  · clear h
    simp only [Eff.writes, List.mem_append, List.mem_map] at hw
    rcases (by omega : κ = 3 * (κ / 3) ∨ κ = 3 * (κ / 3) + 1 ∨ κ = 3 * (κ / 3) + 2) with hk | hk | hk
    · rw [hk, St.look0, St.look0]
      simp only [Eff.on, List.lookup_append]
      have : κ / 3 ∈ e.val.toList.map (·.1) := by
        rcases hw with ⟨p, hp, he⟩ | ⟨p, hp, he⟩ | ⟨p, hp, he⟩ | ⟨p, hp, he⟩
        · exact List.mem_map.2 ⟨p, hp, by omega⟩
        all_goals omega
      obtain ⟨v, hv⟩ := lookup_some_of this
      rw [hv]; simp
    · rw [hk, St.look1, St.look1]
      simp only [Eff.on, List.lookup_append]
      have : κ / 3 ∈ e.nb.map (·.1) := by
        rcases hw with ⟨p, hp, he⟩ | ⟨p, hp, he⟩ | ⟨p, hp, he⟩ | ⟨p, hp, he⟩
        · omega
        · exact List.mem_map.2 ⟨p, hp, by omega⟩
        all_goals omega
      obtain ⟨v, hv⟩ := lookup_some_of this
      rw [hv]; simp
    · rw [hk, St.look2, St.look2]
      simp only [Eff.on, List.lookup_append, delT_look]
      by_cases hn : κ / 3 ∈ e.nt.map (·.1)
      · obtain ⟨v, hv⟩ := lookup_some_of hn
        rw [hv]; simp
      · have : e.dt.contains (κ / 3) = true := by
          rcases hw with ⟨p, hp, he⟩ | ⟨p, hp, he⟩ | ⟨p, hp, he⟩ | ⟨p, hp, he⟩
          · omega
          · omega
          · exact (hn (List.mem_map.2 ⟨p, hp, by omega⟩)).elim
          · have : p = κ / 3 := by omega
            subst this; simpa using hp
        rw [this]; simp
  · rw [Eff.on_look_ne hw, Eff.on_look_ne hw]; exact h.resolve_left hw
theorem R.look {c : Ctx} {st st' : St} {a : Act} {w : World} (h : R c st a w) (he : ∀ κ, st'.look κ = st.look κ) : R c st' a w := by
  have h0 : ∀ s, st'.fr.lookup s = st.fr.lookup s := fun s => by
    have := he (3 * s); rw [St.look0, St.look0] at this
    exact Option.map_injective (fun _ _ h => by injection h) this
  have h1 : ∀ s, st'.bx.lookup s = st.bx.lookup s := fun s => by
    have := he (3 * s + 1); rw [St.look1, St.look1] at this
    exact Option.map_injective (fun _ _ h => by simpa using h) this
  have h2 : ∀ s, st'.tk.lookup s = st.tk.lookup s := fun s => by
    have := he (3 * s + 2); rw [St.look2, St.look2] at this
    exact Option.map_injective (fun _ _ h => by simpa using h) this
  have hh := h
  obtain ⟨E, hi⟩ := hh
  refine h.wk ⟨fun id hid => by rw [h1]; exact (hi.heap.ins id hid).2.2, fun s v hv => ⟨v, by rw [← h0]; exact hv, Sub.refl _⟩, fun id b hb => ⟨b, by rw [← h1]; exact hb, rfl, Subs.refl _⟩, fun id t ht => by rw [← h2]; exact ht⟩
theorem R.drew {c : Ctx} {st : St} {a : Act} {w : World} (n : Nat) (h : R c st a w) : R c st a { w with drawn := n } := by
  obtain ⟨E, hi⟩ := h
  have hc : ∀ p, ({ w with drawn := n } : World).cell? p = w.cell? p := fun _ => rfl
  have hk : Keeps E.φ w { w with drawn := n } := fun _ _ _ => rfl
  have mono : ∀ (v : AV) (u : Value), RepA E w v u → RepA E { w with drawn := n } v u := fun v u h => h.keep hk
  exact ⟨E, hi.defers, hi.size, fun s v hv => mono v _ (hi.slot s v hv),
    ⟨fun id b hb hn => by
        obtain ⟨h0, arr, ha, hl, h1, hr, hq⟩ := hi.heap.box id b hb hn
        exact ⟨h0, arr, ha, hl, h1, fun i c u h2 h3 => mono _ _ (hr i c u h2 h3), hq⟩,
      fun id t ht => hi.heap.tok id t ht, hi.heap.bb, hi.heap.tt, hi.heap.bt, hi.heap.own, hi.heap.ownt, hi.heap.new, hi.heap.old, hi.heap.ins,
      ⟨hi.heap.kept.os, hi.heap.kept.tape, hi.heap.kept.output, hi.heap.kept.size, hi.heap.kept.block⟩⟩⟩
def onF : (Nat → Bool) → List Eff → St → St
  | _, [], st => st
  | f, e :: r, st => onF (fun j => f (j + 1)) r (if f 0 then e.on st else st)
theorem onF_same {κ : Nat} : ∀ (es : List Eff) (f g : Nat → Bool) (st st' : St), (∀ (i : Nat) (e : Eff), es[i]? = some e → f i = g i ∨ κ ∉ e.writes) → st.look κ = st'.look κ → (onF f es st).look κ = (onF g es st').look κ
  | [], _, _, _, _, _, h => h
  | e :: r, f, g, st, st', h, hs => by
    simp only [onF]
    refine onF_same r _ _ _ _ (fun i e' he => h (i + 1) e' (by simpa using he)) ?_
    rcases h 0 e rfl with hb | hw
    · rw [hb]
      cases g 0
      · exact hs
      · exact Eff.on_look_eq (.inr hs)
    · have h1 : (if f 0 = true then e.on st else st).look κ = st.look κ := by cases f 0; rfl; exact Eff.on_look_ne hw
      have h2 : (if g 0 = true then e.on st' else st').look κ = st'.look κ := by cases g 0; rfl; exact Eff.on_look_ne hw
      rw [h1, h2, hs]
theorem onF_last {κ : Nat} : ∀ (es : List Eff) (f : Nat → Bool) (st X : St) (i : Nat) (e : Eff), es[i]? = some e → f i = true → κ ∈ e.writes → (∀ (j : Nat) (e' : Eff), i < j → es[j]? = some e' → f j = true → κ ∉ e'.writes) → (onF f es st).look κ = (e.on X).look κ
  | [], _, _, _, _, _, h, _, _, _ => by simp at h
  | e0 :: r, f, st, X, 0, e, h, hf, hw, hl => by
    simp only [List.getElem?_cons_zero, Option.some.injEq] at h
    subst h
    simp only [onF, hf, if_true]
    have := onF_same (κ := κ) r (fun j => f (j + 1)) (fun _ => false) (e0.on st) (e0.on X) (fun j e' he => by
      cases hb : f (j + 1)
      · exact .inl rfl
      · exact .inr (hl (j + 1) e' (by omega) (by simpa using he) hb)) (Eff.on_look_eq (.inl hw))
    rw [this]
    exact onF_none r _
  | e0 :: r, f, st, X, i + 1, e, h, hf, hw, hl => by
    simp only [onF]
    exact onF_last r _ _ X i e (by simpa using h) hf hw (fun j e' hj he hb => hl (j + 1) e' (by omega) (by simpa using he) hb)
 where onF_none {κ : Nat} : ∀ (es : List Eff) (st : St), (onF (fun _ => false) es st).look κ = st.look κ
  | [], _ => rfl
  | e :: r, st => by simp only [onF]; exact onF_none r st
theorem onF_false : ∀ (es : List Eff) (st : St), onF (fun _ => false) es st = st
  | [], _ => rfl
  | e :: r, st => by simp only [onF]; exact onF_false r st
def Eff.ment (n : Nat) (e : Eff) : Bool := e.val.toList.any (fun p => AV.ment n p.2) || (e.nb.any (fun p => p.1 == n || p.2.ment n) || e.nt.any (fun p => p.1 == n))
theorem fresh_on {n : Nat} {e : Eff} {st : St} (h : st.fresh n = true) (he : e.ment n = false) : (e.on st).fresh n = true := by
  simp only [St.fresh, Bool.and_eq_true, List.all_eq_true] at h ⊢
  simp only [Eff.ment, Bool.or_eq_false_iff, List.any_eq_false] at he
  obtain ⟨⟨h1, h2⟩, h3⟩ := h
  obtain ⟨e1, e2, e3⟩ := he
  refine ⟨⟨fun p hp => ?_, fun p hp => ?_⟩, fun p hp => ?_⟩
  · simp only [Eff.on, List.mem_append] at hp
    rcases hp with hp | hp
    · simpa using e1 p hp
    · exact h1 p hp
  · simp only [Eff.on, List.mem_append] at hp
    rcases hp with hp | hp
    · have := e2 p hp
      simp only [Bool.or_eq_true, not_or, Bool.not_eq_true] at this
      simp [bne, this.1, this.2]
    · exact h2 p hp
  · simp only [Eff.on, List.mem_append] at hp
    rcases hp with hp | hp
    · have := e3 p hp
      simp only [Bool.not_eq_true] at this
      simp [bne, this]
    · exact h3 p (delT_mem _ _ hp)
theorem fresh_onF {n : Nat} : ∀ (es : List Eff) (f : Nat → Bool) (st : St), st.fresh n = true → (∀ (i : Nat) (e : Eff), es[i]? = some e → f i = true → e.ment n = false) → (onF f es st).fresh n = true
  | [], _, _, h, _ => h
  | e :: r, f, st, h, he => by
    simp only [onF]
    refine fresh_onF r _ _ ?_ (fun i e' h1 h2 => he (i + 1) e' (by simpa using h1) h2)
    cases hf : f 0
    · simpa using h
    · simpa using fresh_on h (he 0 e rfl hf)
def dirs (ops : Array Oper) : List (List Nat) := ops.toList.map fun o => (o.after.toList.filter (Region.binds .any)).map (·.on)
def masks : List (List Nat) → List Nat → List Nat
  | [], acc => acc
  | d :: r, acc => masks r (acc ++ [d.foldl (fun m j => m ||| (acc.getD j 0 ||| 1 <<< j)) 0])
theorem bits_foldl {S : Nat → Prop} (g : Nat → Nat) (hg : ∀ j, S j → ∀ x, (g j).testBit x = true → S x) : ∀ (d : List Nat) (m : Nat), (∀ j ∈ d, S j) → (∀ x, m.testBit x = true → S x) → ∀ x, (d.foldl (fun m j => m ||| (g j ||| 1 <<< j)) m).testBit x = true → S x
  | [], m, _, hm, x, h => hm x h
  | j :: d, m, hd, hm, x, h => by
    refine bits_foldl g hg d _ (fun k hk => hd k (List.mem_cons_of_mem _ hk)) (fun y hy => ?_) x h
    simp only [Nat.testBit_or, Bool.or_eq_true] at hy
    rcases hy with hy | hy | hy
    · exact hm y hy
    · exact hg j (hd j List.mem_cons_self) y hy
    · have : y = j := by
        rw [Nat.one_shiftLeft, Nat.testBit_two_pow] at hy
        simpa [eq_comm] using hy
      subst this; exact hd y List.mem_cons_self
theorem masks_closed {S : Nat → Prop} {ds : List (List Nat)} : ∀ (r : List (List Nat)) (pre : List (List Nat)) (acc : List Nat), ds = pre ++ r → acc.length = pre.length →
    (∀ (i : Nat) (d : List Nat), ds[i]? = some d → S i → ∀ j ∈ d, S j) →
    (∀ i, (∀ (d : List Nat), ds[i]? = some d → ∀ j ∈ d, S j) → ∀ x, (acc.getD i 0).testBit x = true → S x) →
    ∀ i, (∀ (d : List Nat), ds[i]? = some d → ∀ j ∈ d, S j) → ∀ x, ((masks r acc).getD i 0).testBit x = true → S x
  | [], pre, acc, _, _, _, h => h
  | d :: r, pre, acc, hds, hl, hS, h => by
    refine masks_closed r (pre ++ [d]) _ (by simp [hds]) (by simp [hl]) hS (fun i hi x hx => ?_)
    rcases Nat.lt_trichotomy i acc.length with hlt | heq | hgt
    · refine h i hi x ?_
      simpa [List.getD_eq_getElem?_getD, List.getElem?_append, hlt] using hx
    · have hdi : ds[i]? = some d := by rw [hds, heq, hl]; simp
      have hd := hi d hdi
      have hx' : ((d.foldl (fun m j => m ||| (acc.getD j 0 ||| 1 <<< j)) 0)).testBit x = true := by
        rw [heq] at hx
        simpa [List.getD_eq_getElem?_getD, List.getElem?_append] using hx
      exact bits_foldl (fun j => acc.getD j 0) (fun j hj y hy => h j (fun d' hd' => hS j d' hd' hj) y hy) d 0 hd (fun y hy => by simp at hy) x hx'
    · exfalso
      have : ¬ i < acc.length := by omega
      have h2 : i - acc.length ≠ 0 := by omega
      obtain ⟨k, hk⟩ : ∃ k, i - acc.length = k + 1 := ⟨i - acc.length - 1, by omega⟩
      simp [List.getD_eq_getElem?_getD, List.getElem?_append, this, hk] at hx
def clash (l m : List Nat) : Bool := l.any fun x => m.contains x
theorem clash_not {l m : List Nat} (h : clash l m = false) {x : Nat} (hl : x ∈ l) (hm : x ∈ m) : False := by
  simp only [clash, List.any_eq_false] at h
  exact h x hl (by simpa using hm)
structure Row where
  ws : List Nat
  ls : List Nat
  ms : Nat
  e : Eff
def rowsOf (ops : Array Oper) (es : List Eff) : List Row :=
  (((ops.toList.zip es).zip (masks (dirs ops) [])).map fun p => ⟨p.1.2.writes, slotsOf p.1.1 ops ++ (p.1.2.reads ++ p.1.2.writes), p.2, p.1.2⟩)
def pairOk (j : Nat) (x y : Row) : Bool :=
  (y.ms.testBit j || (!(clash x.ws y.ls) && !(clash y.ws x.ls) && x.e.fs.all (fun n => !(y.e.ment n)))) && y.e.fs.all (fun n => !(x.e.ment n))
def ordGo : List Row → List (Nat × Row) → Bool
  | [], _ => true
  | y :: r, acc => acc.all (fun p => pairOk p.1 p.2 y) && ordGo r ((acc.length, y) :: acc)
def backOk : Nat → List (List Nat) → Bool
  | _, [] => true
  | i, d :: r => d.all (fun j => Nat.blt j i) && backOk (i + 1) r
def ordOk (ops : Array Oper) (es : List Eff) (st0 : St) : Bool :=
  backOk 0 (dirs ops) && (ordGo (rowsOf ops es) [] && es.all (fun e => e.fs.all (fun n => st0.fresh n)))
theorem ordGo_get : ∀ (r pre : List Row) (acc : List (Nat × Row)), acc.length = pre.length → (∀ (j : Nat) (x : Row), pre[j]? = some x → (j, x) ∈ acc) → ordGo r acc = true →
    ∀ (i j : Nat) (x y : Row), j < i → pre.length ≤ i → (pre ++ r)[j]? = some x → (pre ++ r)[i]? = some y → pairOk j x y = true
  | [], pre, acc, _, _, _, i, j, x, y, _, hi, _, hy => by
    rw [List.append_nil] at hy
    have := (List.getElem?_eq_some_iff.1 hy).1
    omega
  | z :: r, pre, acc, hl, hacc, h, i, j, x, y, hji, hi, hx, hy => by
    simp only [ordGo, Bool.and_eq_true, List.all_eq_true] at h
    by_cases he : i = pre.length
    · subst he
      have hyz : y = z := by simpa using hy.symm
      subst hyz
      have hx' : pre[j]? = some x := by rw [List.getElem?_append_left hji] at hx; exact hx
      exact h.1 (j, x) (hacc j x hx')
    · refine ordGo_get r (pre ++ [z]) _ (by simp [hl]) (fun k u hu => ?_) h.2 i j x y hji (by simp; omega) (by simpa using hx) (by simpa using hy)
      by_cases hk : k < pre.length
      · rw [List.getElem?_append_left hk] at hu
        exact List.mem_cons_of_mem _ (hacc k u hu)
      · have : k = pre.length := by
          have := (List.getElem?_eq_some_iff.1 hu).1
          simp at this; omega
        subst this
        simp at hu; subst hu; rw [hl]; exact List.mem_cons_self
theorem masks_length : ∀ (r : List (List Nat)) (acc : List Nat), (masks r acc).length = acc.length + r.length
  | [], acc => rfl
  | d :: r, acc => by rw [masks, masks_length r]; simp; omega
theorem backOk_get : ∀ (ds : List (List Nat)) (k : Nat), backOk k ds = true → ∀ (i : Nat) (d : List Nat), ds[i]? = some d → ∀ j ∈ d, j < k + i
  | [], k, _, i, d, h, _, _ => by simp at h
  | d0 :: r, k, h, i, d, hd, j, hj => by
    simp only [backOk, Bool.and_eq_true, List.all_eq_true] at h
    cases i with
    | zero => simp at hd; subst hd; exact Nat.le_of_ble_eq_true (h.1 j hj)
    | succ i => have := backOk_get r (k + 1) h.2 i d (by simpa using hd) j hj; omega
structure Agr (ops : Array Oper) (o : Oper) (e : Eff) (st st' : St) : Prop where
  ev : ∀ x ∈ o.op.operands, st'.ev x = st.ev x
  gd : ∀ (j s : Nat) (b : Bool), o.guard = some (j, b) → (ops[j]?).bind (·.dst) = some s → st'.ev (.tmp s) = st.ev (.tmp s)
  bx : ∀ id ∈ e.tb, st'.bx.lookup id = st.bx.lookup id
  tk : ∀ id ∈ e.tt, st'.tk.lookup id = st.tk.lookup id
  fs : ∀ n ∈ e.fs, st'.fresh n = true
theorem ev_look {st st' : St} {t : Nat} (h : st'.look (3 * t) = st.look (3 * t)) : st'.ev (.tmp t) = st.ev (.tmp t) := by
  rw [St.look0, St.look0] at h
  have h' : st'.fr.lookup t = st.fr.lookup t := Option.map_injective (fun _ _ h => by injection h) h
  simp only [St.ev, h']
theorem Agr.of_look {ops : Array Oper} {o : Oper} {e : Eff} {st st' : St} (h : ∀ κ ∈ slotsOf o ops ++ e.reads, st'.look κ = st.look κ) (hf : ∀ n ∈ e.fs, st'.fresh n = true) : Agr ops o e st st' where
  ev x hx := by
    cases x with
    | tmp t =>
      refine ev_look (h _ (List.mem_append_left _ (List.mem_append_left _ ?_)))
      exact List.mem_filterMap.2 ⟨.tmp t, by simpa using hx, rfl⟩
    | const v => rfl
    | func f => rfl
    | global g => rfl
  gd j s b hg hj := by
    refine ev_look (h _ (List.mem_append_left _ (List.mem_append_right _ ?_)))
    simp [hg, hj]
  bx id hid := by
    have := h (3 * id + 1) (List.mem_append_right _ (List.mem_append_left _ (List.mem_map.2 ⟨id, hid, rfl⟩)))
    rw [St.look1, St.look1] at this
    exact Option.map_injective (fun _ _ h => by simpa using h) this
  tk id hid := by
    have := h (3 * id + 2) (List.mem_append_right _ (List.mem_append_right _ (List.mem_map.2 ⟨id, hid, rfl⟩)))
    rw [St.look2, St.look2] at this
    exact Option.map_injective (fun _ _ h => by simpa using h) this
  fs := hf
def LV (P : Program) (c : Ctx) (ops : Array Oper) (st : St) (o : Oper) (e : Eff) : Prop :=
  ∀ st', Agr ops o e st st' → ∀ Q : Exit → Act → World → Prop, L c (e.on st') (Q .normal) → L c st' (wpList P ops Q [o])
def swapN (K : Act → World → Prop) (Q : Exit → Act → World → Prop) : Exit → Act → World → Prop
  | .normal => K
  | x => Q x
theorem wpOp_of_list {P : Program} {ops : Array Oper} {Q : Exit → Act → World → Prop} {K : Act → World → Prop} {i : Nat} {o : Oper} {a : Act} {w : World} (ho : ops[i]? = some o) (h : wpList P ops (swapN K Q) [o] a w) : wpOp P ops Q i K a w := by
  unfold wpList at h
  unfold wpOp
  simp only [ho]
  have hl : LetsOut (swapN K Q) = LetsOut Q := rfl
  split
  · rename_i hw
    rw [if_pos hw] at h
    rw [hl] at h
    refine h.imp (fun h => ?_) id
    unfold Oper.wp at h ⊢
    have hK : wpList P ops (swapN K Q) [] = K := rfl
    rw [hK] at h
    generalize (execOp a.eval o).run P w = r at h ⊢
    cases r with
    | ok n w' => cases n <;> exact h
    | halt x w' => cases x <;> exact h
  · rename_i hw
    rw [if_neg hw] at h
    exact h
inductive Chain (P : Program) (c : Ctx) (ops : Array Oper) : St → List Oper → List Eff → Prop
  | nil {st : St} : Chain P c ops st [] []
  | cons {st : St} {o : Oper} {e : Eff} {l : List Oper} {es : List Eff} (h : LV P c ops st o e) (t : Chain P c ops (e.on st) l es) : Chain P c ops st (o :: l) (e :: es)
theorem Chain.length {P : Program} {c : Ctx} {ops : Array Oper} {st : St} {l : List Oper} {es : List Eff} (h : Chain P c ops st l es) : es.length = l.length := by
  induction h with
  | nil => rfl
  | cons _ _ ih => simp [ih]
theorem Chain.get {P : Program} {c : Ctx} {ops : Array Oper} {st : St} {l : List Oper} {es : List Eff} (h : Chain P c ops st l es) :
    ∀ (i : Nat) (o : Oper) (e : Eff), l[i]? = some o → es[i]? = some e → LV P c ops (onF (fun j => decide (j < i)) es st) o e := by
  induction h with
  | nil => intro i o e h; simp at h
  | @cons st o0 e0 l es h0 _ ih =>
    intro i o e ho he
    cases i with
    | zero =>
      simp at ho he; subst ho; subst he
      have : (fun j : Nat => decide (j < 0)) = fun _ => false := by funext j; simp
      rw [this, onF_false]; exact h0
    | succ i =>
      have := ih i o e (by simpa using ho) (by simpa using he)
      simpa [onF] using this
def left (f : Nat → Bool) (n : Nat) : Nat := (List.range n).countP fun i => !f i
theorem left_zero {f : Nat → Bool} {n : Nat} (h : left f n = 0) : ∀ i, i < n → f i = true := fun i hi => by
  have := List.countP_eq_zero.1 h i (List.mem_range.2 hi)
  simpa using this
theorem left_set {f g : Nat → Bool} {n i : Nat} (hi : i < n) (hf : f i = false) (hg : ∀ j, g j = if j = i then true else f j) : left f n = left g n + 1 := by
  unfold left
  induction n with
  | zero => omega
  | succ n ih =>
    simp only [List.range_succ, List.countP_append]
    by_cases e : i = n
    · subst e
      have : (List.range i).countP (fun j => !f j) = (List.range i).countP (fun j => !g j) := by
        refine List.countP_congr (fun j hj => ?_)
        have : j ≠ i := by have := List.mem_range.1 hj; omega
        simp [hg, this]
      rw [this]
      simp [hf, hg]
    · have := ih (by omega)
      have hn : n ≠ i := fun h => e h.symm
      rw [this]
      simp [hg, hn]
      omega
theorem dirs_get {ops : Array Oper} {i : Nat} {o : Oper} (h : ops[i]? = some o) : (dirs ops)[i]? = some ((o.after.toList.filter (Region.binds .any)).map (·.on)) := by
  simp [dirs, h]
theorem getD_true {listed : Array Bool} {i : Nat} (h : i < listed.size) : listed.getD i true = listed.getD i false := by
  simp [h]
theorem rows_get {ops : Array Oper} {es : List Eff} (hl : es.length = ops.size) {i : Nat} {o : Oper} {e : Eff} (ho : ops[i]? = some o) (he : es[i]? = some e) :
    (rowsOf ops es)[i]? = some ⟨e.writes, slotsOf o ops ++ (e.reads ++ e.writes), (masks (dirs ops) []).getD i 0, e⟩ := by
  have hi : i < ops.size := (Array.getElem?_eq_some_iff.1 ho).1
  have hm : i < (masks (dirs ops) []).length := by rw [masks_length]; simp [dirs]; exact hi
  have ho' : ops.toList[i]? = some o := by simpa using ho
  simp only [rowsOf, List.getElem?_map]
  have : ((ops.toList.zip es).zip (masks (dirs ops) []))[i]? = some ((o, e), (masks (dirs ops) [])[i]) :=
    List.getElem?_zip_eq_some.2 ⟨List.getElem?_zip_eq_some.2 ⟨ho', he⟩, List.getElem?_eq_getElem hm⟩
  rw [this]
  simp [List.getD_eq_getElem?_getD, List.getElem?_eq_getElem hm]
theorem any_main {P : Program} {c : Ctx} {ops : Array Oper} {Q : Exit → Act → World → Prop} {st0 : St} {es : List Eff} (hch : Chain P c ops st0 ops.toList es) (hok : ordOk ops es st0 = true)
    (hQ : L c (onF (fun _ => true) es st0) (Q .normal)) :
    ∀ (fuel : Nat) (listed : Array Bool), listed.size = ops.size → left (fun i => listed.getD i false) ops.size ≤ fuel →
      (∀ i, listed.getD i false = true → ∀ d, (dirs ops)[i]? = some d → ∀ j ∈ d, listed.getD j false = true) →
      ∀ a w, R c (onF (fun i => listed.getD i false) es st0) a w → wpAny P .any ops Q fuel listed a w := by
  have hlen : es.length = ops.size := by rw [hch.length]; simp
  simp only [ordOk, Bool.and_eq_true, List.all_eq_true] at hok
  obtain ⟨hback, hord, hfb⟩ := hok
  have hback := backOk_get (dirs ops) 0 hback
  have hpair : ∀ (i j : Nat) (o o' : Oper) (e e' : Eff), j < i → ops[j]? = some o → es[j]? = some e → ops[i]? = some o' → es[i]? = some e' →
      (((masks (dirs ops) []).getD i 0).testBit j = true ∨ (clash e.writes (slotsOf o' ops ++ (e'.reads ++ e'.writes)) = false ∧ clash e'.writes (slotsOf o ops ++ (e.reads ++ e.writes)) = false ∧ ∀ n ∈ e.fs, e'.ment n = false)) ∧ ∀ n ∈ e'.fs, e.ment n = false := by
    intro i j o o' e e' hji ho he ho' he'
    have := ordGo_get (rowsOf ops es) [] [] rfl (fun j x h => by simp at h) hord i j _ _ hji (Nat.zero_le _) (by simpa using rows_get hlen ho he) (by simpa using rows_get hlen ho' he')
    simp only [pairOk, Bool.and_eq_true, Bool.or_eq_true, Bool.not_eq_true', List.all_eq_true] at this
    obtain ⟨h1, h2⟩ := this
    exact ⟨h1.imp id (fun h => ⟨h.1.1, h.1.2, h.2⟩), h2⟩
  have hopsget : ∀ i, i < ops.size → ∃ o e, ops[i]? = some o ∧ es[i]? = some e := fun i hi => ⟨_, _, Array.getElem?_eq_getElem hi, List.getElem?_eq_getElem (by rw [hlen]; exact hi)⟩
  intro fuel
  induction fuel with
  | zero =>
    intro listed hsz hleft hcl a w hr
    have hall := left_zero (Nat.le_zero.1 hleft)
    have hr0 : Region.ready .any ops listed = [] := by
      refine List.eq_nil_iff_forall_not_mem.2 (fun i hi => ?_)
      rw [mem_ready] at hi
      obtain ⟨h0, o, ho, _⟩ := hi
      have hlt : i < ops.size := (Array.getElem?_eq_some_iff.1 ho).1
      rw [getD_true (by omega)] at h0
      have := hall i hlt
      rw [h0] at this; cases this
    refine ⟨hr0, hQ a w (hr.look (fun κ => onF_same es _ _ _ _ (fun i e he => .inl ?_) rfl))⟩
    have hlt : i < ops.size := by rw [← hlen]; exact (List.getElem?_eq_some_iff.1 he).1
    exact (hall i hlt).symm
  | succ fuel ih =>
    intro listed hsz hleft hcl a w hr
    refine ⟨fun hr0 => ?_, fun i hi => ?_⟩
    · have hall : ∀ i, i < ops.size → listed.getD i false = true := by
        intro i
        induction i using Nat.strongRecOn with
        | _ i ihi =>
          intro hlt
          cases hb : listed.getD i false
          · exfalso
            obtain ⟨o, e, ho, he⟩ := hopsget i hlt
            have : i ∈ Region.ready .any ops listed := by
              rw [mem_ready]
              refine ⟨by rw [getD_true (by omega)]; exact hb, o, ho, fun x hx hbx => ?_⟩
              have hxd : x.on ∈ (o.after.toList.filter (Region.binds .any)).map (·.on) := List.mem_map.2 ⟨x, List.mem_filter.2 ⟨by simpa using hx, hbx⟩, rfl⟩
              have hlt' := hback i _ (dirs_get ho) _ hxd
              exact ihi x.on (by omega) (by omega)
            rw [hr0] at this; simp at this
          · rfl
      refine hQ a w (hr.look (fun κ => onF_same es _ _ _ _ (fun i e he => .inl ?_) rfl))
      have hlt : i < ops.size := by rw [← hlen]; exact (List.getElem?_eq_some_iff.1 he).1
      exact (hall i hlt).symm
    · rw [mem_ready] at hi
      obtain ⟨h0, o, ho, hdir⟩ := hi
      have hlt : i < ops.size := (Array.getElem?_eq_some_iff.1 ho).1
      rw [getD_true (by omega)] at h0
      obtain ⟨o', e, ho', he⟩ := hopsget i hlt
      obtain rfl : o' = o := by rw [ho] at ho'; cases ho'; rfl
      have hdi : ∀ d, (dirs ops)[i]? = some d → ∀ j ∈ d, listed.getD j false = true := by
        intro d hd j hj
        rw [dirs_get ho] at hd
        cases hd
        obtain ⟨x, hx, rfl⟩ := List.mem_map.1 hj
        obtain ⟨hx1, hx2⟩ := List.mem_filter.1 hx
        exact hdir x (by simpa using hx1) hx2
      have hmask : ∀ k, (∀ d, (dirs ops)[k]? = some d → ∀ j ∈ d, listed.getD j false = true) → ∀ x, ((masks (dirs ops) []).getD k 0).testBit x = true → listed.getD x false = true :=
        masks_closed (S := fun j => listed.getD j false = true) (dirs ops) [] [] rfl rfl (fun k d hd hk j hj => hcl k hk d hd j hj) (fun k _ x hx => by simp at hx)
      -- later ones that are done are apart from i
      have hlate : ∀ (j : Nat) (ej : Eff), i < j → es[j]? = some ej → listed.getD j false = true → clash ej.writes (slotsOf o' ops ++ (e.reads ++ e.writes)) = false ∧ ∀ n ∈ e.fs, ej.ment n = false := by
        intro j ej hij hej hj
        have hjl : j < ops.size := by rw [← hlen]; exact (List.getElem?_eq_some_iff.1 hej).1
        obtain ⟨oj, _, hoj, _⟩ := hopsget j hjl
        rcases (hpair j i o' oj e ej hij ho he hoj hej).1 with h | h
        · have := hmask j (fun d hd => hcl j hj d hd) i h
          rw [h0] at this; cases this
        · exact ⟨h.2.1, h.2.2⟩
      have hearly : ∀ (j : Nat) (ej : Eff), j < i → es[j]? = some ej → listed.getD j false = false → clash ej.writes (slotsOf o' ops ++ (e.reads ++ e.writes)) = false := by
        intro j ej hji hej hj
        have hjl : j < ops.size := by omega
        obtain ⟨oj, _, hoj, _⟩ := hopsget j hjl
        rcases (hpair i j oj o' ej e hji hoj hej ho he).1 with h | h
        · have := hmask i hdi j h
          rw [hj] at this; cases this
        · exact h.1
      have hag : Agr ops o' e (onF (fun j => decide (j < i)) es st0) (onF (fun i => listed.getD i false) es st0) := by
        refine Agr.of_look (fun κ hκ => ?_) (fun n hn => ?_)
        · have hmem : κ ∈ slotsOf o' ops ++ (e.reads ++ e.writes) := by
            rcases List.mem_append.1 hκ with h | h
            · exact List.mem_append_left _ h
            · exact List.mem_append_right _ (List.mem_append_left _ h)
          refine onF_same es _ _ _ _ (fun j ej hej => ?_) rfl
          rcases Nat.lt_trichotomy j i with hji | rfl | hij
          · cases hb : listed.getD j false
            · exact .inr (fun hw => clash_not (hearly j ej hji hej hb) hw hmem)
            · exact .inl (by simp [hji])
          · exact .inl (by simp [h0])
          · cases hb : listed.getD j false
            · exact .inl (by simp; omega)
            · exact .inr (fun hw => clash_not (hlate j ej hij hej hb).1 hw hmem)
        · refine fresh_onF es _ st0 (hfb e (List.mem_of_getElem? he) n hn) (fun j ej hej hj => ?_)
          rcases Nat.lt_trichotomy j i with hji | rfl | hij
          · have hjl : j < ops.size := by omega
            obtain ⟨oj, _, hoj, _⟩ := hopsget j hjl
            exact (hpair i j oj o' ej e hji hoj hej ho he).2 n hn
          · rw [h0] at hj; cases hj
          · exact (hlate j ej hij hej hj).2 n hn
      refine wpOp_of_list ho (hch.get i o' e (by simpa using ho) he _ hag (swapN _ Q) (fun a' w' hr' => ?_) a w hr)
      have hset : ∀ j, (listed.setIfInBounds i true).getD j false = if j = i then true else listed.getD j false := by
        intro j
        by_cases hji : j = i
        · subst hji; simp [hsz, hlt]
        · have : i ≠ j := fun h => hji h.symm
          simp only [hji, if_false]; exact getD_set_ne false this
      refine ih _ (by simpa using hsz) ?_ ?_ a' w' (hr'.look (fun κ => ?_))
      · have := left_set (f := fun i => listed.getD i false) (g := fun j => (listed.setIfInBounds i true).getD j false) (n := ops.size) hlt h0 hset
        omega
      · intro k hk d hd j hj
        simp only [hset] at hk ⊢
        by_cases hji : j = i
        · simp [hji]
        · simp only [hji, if_false]
          by_cases hki : k = i
          · subst hki; exact hdi d hd j hj
          · simp only [hki, if_false] at hk; exact hcl k hk d hd j hj
      · by_cases hw : κ ∈ e.writes
        · refine onF_last es _ st0 _ i e he (by simp only [hset]; simp) hw (fun j ej hij hej hj hwj => ?_)
          simp only [hset] at hj
          have hne : j ≠ i := by omega
          simp only [hne, if_false] at hj
          exact clash_not (hlate j ej hij hej hj).1 hwj (List.mem_append_right _ (List.mem_append_right _ hw))
        · rw [Eff.on_look_ne hw]
          refine onF_same es _ _ _ _ (fun j ej hej => ?_) rfl
          by_cases hji : j = i
          · subst hji; rw [he] at hej; cases hej; exact .inr hw
          · exact .inl (by simp only [hset, hji, if_false])
def DR (P : Program) (c : Ctx) (ops : Array Oper) (Q : Exit → Act → World → Prop) (st0 : St) (done : List Eff) (st : St) (l : List Oper) : Prop :=
  ∃ es : List Eff, Chain P c ops st l es ∧ ordOk ops (done.reverse ++ es) st0 = true ∧ L c (onF (fun _ => true) es st) (Q .normal)
section
variable {P : Program} {c : Ctx} {ops : Array Oper} {Q : Exit → Act → World → Prop} {st0 st : St} {done : List Eff} {rest : List Oper} {o : Oper}
theorem DR.nil (hok : ordOk ops done.reverse st0 = true) (h : L c st (Q .normal)) : DR P c ops Q st0 done st [] := ⟨[], .nil, by simpa using hok, h⟩
theorem DR.cons {e : Eff} (hv : LV P c ops st o e) (h : DR P c ops Q st0 (e :: done) (e.on st) rest) : DR P c ops Q st0 done st (o :: rest) := by
  obtain ⟨es, hc, hok, hl⟩ := h
  exact ⟨e :: es, .cons hv hc, by simpa using hok, hl⟩
theorem DR.region (hm : P.follows .mixedOrders = true) {id : Nat} {l : List Oper} (h : DR P c l.toArray Q st [] st l) : L c st ((Code.region id l.toArray true).wp P Q) := by
  obtain ⟨es, hc, hok, hl⟩ := h
  intro a w hr
  have hc' : Chain P c l.toArray st l.toArray.toList es := by simpa using hc
  have hfalse : (fun i => (Array.replicate l.toArray.size false).getD i false) = fun _ => false := by
    funext i
    simp only [Array.getD_eq_getD_getElem?, Array.getElem?_replicate]
    split <;> rfl
  refine wp_region_any hm (any_main hc' (by simpa using hok) hl _ _ (by simp) ?_ ?_ a _ ?_)
  · rw [hfalse]; exact Nat.le_trans List.countP_le_length (by simp)
  · intro i hi
    have := congrFun hfalse i
    rw [this] at hi; cases hi
  · rw [hfalse, onF_false]; exact hr.drew _
theorem DR.of_plain {dst : Option Tmp} {op : Op} {ty : TypeId} {pos : String} {aft : Array Edge} {g : Option (Nat × Bool)} (hl : ∀ e, LV P c ops st ⟨dst, op, ty, pos, aft, none⟩ e → LV P c ops st ⟨dst, op, ty, pos, aft, g⟩ e)
    (h : DR P c ops Q st0 done st (⟨dst, op, ty, pos, aft, none⟩ :: rest)) : DR P c ops Q st0 done st (⟨dst, op, ty, pos, aft, g⟩ :: rest) := by
  obtain ⟨es, hc, hok, hL⟩ := h
  cases hc with
  | cons hv t => exact ⟨_, .cons (hl _ hv) t, hok, hL⟩
end
attribute [irreducible] DR
end Go.Abs
