/- Several texts in one, each with its own sentence ahead of it. Conditions: each one says its own. -/
import Derived.Test.YthkobnpogigkiaaDoorZPlanKeys2
/- A logic of abstract states, part 23: rows of one's own whose contents are published values: reading, writing, appending, handing over. Conditions: each rule's own premises; over any program. -/
namespace Go.Abs
open Go.RowKit (Below)
set_option linter.unusedVariables false
theorem flat_take {α : Type} {k : Nat} : ∀ (es : List (List α)) (i : Nat), (∀ e ∈ es, e.length = k) → es.flatten.take (i * k) = (es.take i).flatten
  | [], i, _ => by simp
  | e :: es, 0, _ => by simp
  | e :: es, i + 1, h => by
    have he : e.length = k := h e List.mem_cons_self
    rw [List.flatten_cons, List.take_append, List.take_of_length_le (by rw [he, Nat.add_mul]; omega), he, show (i + 1) * k - k = i * k by rw [Nat.add_mul]; omega, flat_take es i (fun e h' => h e (List.mem_cons_of_mem _ h'))]
    simp
theorem flat_drop {α : Type} {k : Nat} : ∀ (es : List (List α)) (i : Nat), (∀ e ∈ es, e.length = k) → es.flatten.drop (i * k) = (es.drop i).flatten
  | [], i, _ => by simp
  | e :: es, 0, _ => by simp
  | e :: es, i + 1, h => by
    have he : e.length = k := h e List.mem_cons_self
    rw [List.flatten_cons, List.drop_append, List.drop_eq_nil_of_le (by rw [he, Nat.add_mul]; omega), he, show (i + 1) * k - k = i * k by rw [Nat.add_mul]; omega, flat_drop es i (fun e h' => h e (List.mem_cons_of_mem _ h'))]
    simp
theorem setA_row {k : Nat} {es news : List (List IV)} {i m : Nat} (hk : ∀ e ∈ es, e.length = k) (hn : ∀ e ∈ news, e.length = k) (hi : i ≤ es.length) :
    setA (es.flatten.map AV.iv ++ List.replicate m AV.any) (i * k) (news.flatten.map AV.iv) = (es.take i ++ (news ++ es.drop (i + news.length))).flatten.map AV.iv ++ List.replicate (m - (i + news.length - es.length) * k) AV.any := by
  have hl := flatten_len es hk
  have hl2 := flatten_len news hn
  have h1 : i * k ≤ es.length * k := Nat.mul_le_mul_right k hi
  unfold setA
  rw [List.take_append_of_le_length (by rw [List.length_map, hl]; exact h1), ← List.map_take, flat_take es i hk, List.length_map, hl2, ← Nat.add_mul, List.drop_append, ← List.map_drop, flat_drop es _ hk, List.drop_replicate, List.length_map, hl, ← Nat.sub_mul]
  simp [List.append_assoc]
theorem mem_take_len {k i : Nat} {es : List (List IV)} (h : ∀ e ∈ es, e.length = k) : ∀ e ∈ es.take i, e.length = k := fun e he => h e (List.mem_of_mem_take he)
theorem mem_drop_len {k i : Nat} {es : List (List IV)} (h : ∀ e ∈ es, e.length = k) : ∀ e ∈ es.drop i, e.length = k := fun e he => h e (List.mem_of_mem_drop he)
theorem chunks_flat {k : Nat} : ∀ (es : List (List IV)), (∀ e ∈ es, e.length = k) → chunks k es.length es.flatten = es
  | [], _ => rfl
  | e :: es, h => by
    have he : e.length = k := h e List.mem_cons_self
    rw [List.length_cons, chunks, List.flatten_cons, List.take_append_of_le_length (by omega), List.drop_append_of_le_length (by omega), List.take_of_length_le (by omega), List.drop_eq_nil_of_le (by omega), List.nil_append, chunks_flat es (fun e h' => h e (List.mem_cons_of_mem _ h'))]
theorem flat_at {α : Type} {k : Nat} : ∀ (es : List (List α)) (i f : Nat) (e : List α) (x : α), (∀ e ∈ es, e.length = k) → es[i]? = some e → e[f]? = some x → es.flatten[i * k + f]? = some x
  | [], i, f, e, x, _, h, _ => by simp at h
  | a :: es, 0, f, e, x, h, h1, h2 => by
    simp at h1; subst h1
    have := (List.getElem?_eq_some_iff.1 h2).1
    rw [Nat.zero_mul, Nat.zero_add, List.flatten_cons, List.getElem?_append_left this]; exact h2
  | a :: es, i + 1, f, e, x, h, h1, h2 => by
    have he : a.length = k := h a List.mem_cons_self
    rw [List.flatten_cons, List.getElem?_append_right (by rw [he, Nat.add_mul]; omega), he, show (i + 1) * k + f - k = i * k + f by rw [Nat.add_mul]; omega]
    exact flat_at es i f e x (fun e h' => h e (List.mem_cons_of_mem _ h')) (by simpa using h1) h2
theorem flat_pick {α : Type} {k : Nat} (es : List (List α)) (i : Nat) (e : List α) (h : ∀ e ∈ es, e.length = k) (h1 : es[i]? = some e) : (es.flatten.drop (i * k)).take k = e := by
  have he : e.length = k := h e (List.mem_of_getElem? h1)
  rw [flat_drop es i h, List.drop_eq_getElem_cons (List.getElem?_eq_some_iff.1 h1).1, (List.getElem?_eq_some_iff.1 h1).2, List.flatten_cons, List.take_append_of_le_length (by omega), List.take_of_length_le (by omega)]
theorem toIs_iv : ∀ xs : List IV, toIs (xs.map AV.iv) = some xs
  | [] => rfl
  | x :: xs => by simp [toIs, AV.toI, toIs_iv xs]
section
variable {P : Program} {c : Ctx} {st : St} {ops : Array Oper} {Q : Exit → Act → World → Prop} {rest : List Oper} {o : Oper}
theorem Inv.recell {E : Env} {a : Act} {w : World} {fr : List (Nat × AV)} {bx : List (Nat × Box)} {tk : List (Nat × Tok)} {id : Nat} {b b' : Box} (h : Inv c E ⟨fr, (id, b) :: bx, tk⟩ a w) (ht : b.ty = b'.ty) (hc : Subs b.cs b'.cs) : Inv c E ⟨fr, (id, b') :: bx, tk⟩ a w := by
  refine ⟨h.defers, h.size, h.slot, HInv.wk (st := ⟨fr, (id, b) :: bx, tk⟩) (st' := ⟨fr, (id, b') :: bx, tk⟩) h.heap ⟨fun i hin => ?_, fun s v hv => ⟨v, hv, Sub.refl _⟩, fun i b1 hi => ?_, fun i t h => h⟩⟩
  · have h3 := (h.heap.ins i hin).2.2
    simp only at h3 ⊢
    by_cases e : i = id
    · subst e; rw [lookup_cons_eq]; rfl
    · rw [lookup_cons_ne e] at h3 ⊢; exact h3
  · simp only at hi ⊢
    by_cases e : i = id
    · subst e; rw [lookup_cons_eq] at hi ⊢; cases hi; exact ⟨b, rfl, ht, hc⟩
    · rw [lookup_cons_ne e] at hi ⊢; exact ⟨b1, hi, rfl, Subs.refl _⟩
theorem Makes.recell {v : AV} {id : Nat} {b b' : Box} {bx : List (Nat × Box)} {tk : List (Nat × Tok)} (h : Makes P c st o v ((id, b) :: bx) tk) (ht : b.ty = b'.ty) (hc : Subs b.cs b'.cs) : Makes P c st o v ((id, b') :: bx) tk := fun E a w hi => by
  obtain ⟨u, E', w', h1, h2, h3⟩ := h E a w hi
  exact ⟨u, E', w', h1, h2.recell ht hc, h3⟩
theorem Does.recell {id : Nat} {b b' : Box} {bx : List (Nat × Box)} {tk : List (Nat × Tok)} (h : Does P c st o ((id, b) :: bx) tk) (ht : b.ty = b'.ty) (hc : Subs b.cs b'.cs) : Does P c st o ((id, b') :: bx) tk := fun E a w hi => by
  obtain ⟨E', w', h1, h2⟩ := h E a w hi
  exact ⟨E', w', h1, h2.recell ht hc⟩
theorem Subs.of_eq {l l' : List AV} (h : l = l') : Subs l l' := h ▸ Subs.refl l
theorem Reads.row {y : Operand} {k id off m cap mm i : Nat} {ty : TypeId} {es : List (List IV)} (hy : st.ev y = .bsl id off m cap) (hb : st.bx.lookup id = some ⟨ty, .r es.flatten mm⟩) (hk : ∀ e ∈ es, e.length = k) (hoff : off = i * k) (hle : (i + m) * k ≤ es.length * k + mm) :
    Reads P c st y k m (((es.flatten.map AV.iv ++ List.replicate mm AV.any).drop off).take (m * k)) := by
  refine Reads.bsl hy hb rfl ?_
  have hl := flatten_len es hk
  simp only [Box.cs_r, List.length_take, List.length_drop, List.length_append, List.length_map, List.length_replicate, hl, hoff]
  rw [Nat.add_mul] at hle
  omega
theorem row_news {k off m cnt mm i : Nat} {es : List (List IV)} (hk : ∀ e ∈ es, e.length = k) (hoff : off = i * k) (hcm : cnt ≤ m) (hin : i + cnt ≤ es.length) :
    (((es.flatten.map AV.iv ++ List.replicate mm AV.any).drop off).take (m * k)).take (cnt * k) = ((es.drop i).take cnt).flatten.map AV.iv := by
  have hl := flatten_len es hk
  have h1 : (i + cnt) * k ≤ es.length * k := Nat.mul_le_mul_right k hin
  have h2 : cnt * k ≤ m * k := Nat.mul_le_mul_right k hcm
  rw [Nat.add_mul] at h1
  rw [List.take_take, Nat.min_eq_left h2, hoff, List.drop_append_of_le_length (by rw [List.length_map, hl]; omega), List.take_append_of_le_length (by rw [List.length_drop, List.length_map, hl]; omega), ← List.map_drop, ← List.map_take, flat_drop es i hk, flat_take _ cnt (mem_drop_len hk)]
theorem Makes.copyRR {t t' e : TypeId} {x y : Operand} {k n cnt id off cap id' off' n' cap' mm mm' i i' : Nat} {bt bt' : TypeId} {es es' : List (List IV)} (ho : o.op = .call { callee := .builtin .copy, args := #[x, y], argTypes := #[t, t'] }) (hs : sliceOk P t e k = true)
    (hx : st.ev x = .bsl id off n cap) (hb : st.bx.lookup id = some ⟨bt, .r es.flatten mm⟩) (hy : st.ev y = .bsl id' off' n' cap') (hb' : st.bx.lookup id' = some ⟨bt', .r es'.flatten mm'⟩) (hk : ∀ e ∈ es, e.length = k) (hk' : ∀ e ∈ es', e.length = k) (hk0 : 0 < k)
    (hoff : off = i * k) (hoff' : off' = i' * k) (hcnt : Nat.min n' n = cnt) (hpos : 0 < cnt) (hle' : (i' + n') * k ≤ es'.length * k + mm') (hin : i' + cnt ≤ es'.length) (hi : i ≤ es.length) (hm : (i + cnt) * k ≤ es.length * k + mm) :
    Makes P c st o (aI cnt) ((id, ⟨bt, .r (es.take i ++ ((es'.drop i').take cnt ++ es.drop (i + cnt))).flatten (mm - (i + cnt - es.length) * k)⟩) :: st.bx) st.tk := by
  have hcm : cnt ≤ n' := by rw [← hcnt]; exact Nat.min_le_left _ _
  have hl := flatten_len es hk
  have hnl : ((es'.drop i').take cnt).length = cnt := by rw [List.length_take, List.length_drop]; omega
  have h := Makes.copyB (c := c) ho hs hx hb (Reads.row hy hb' hk' hoff' hle') hcnt hpos hk0 (by
    rw [Nat.add_mul] at hm
    simp only [Box.cs_r, List.length_append, List.length_map, List.length_replicate, hl, hoff]; omega)
  refine h.recell rfl (Subs.of_eq ?_)
  rw [row_news hk' hoff' hcm hin]
  simp only [Box.cs_l, Box.cs_r]
  have := setA_row (m := mm) hk (mem_take_len (i := cnt) (mem_drop_len (i := i') hk')) hi
  rw [hnl] at this
  rw [hoff]; exact this
theorem Makes.roomRR {t t' e : TypeId} {d : TypeDesc} {x y : Operand} {k n id cap id' off' n' cap' mm mm' i' : Nat} {bt bt' : TypeId} {es es' : List (List IV)} {i : TypeInfo} (ho : o.op = .call { callee := .builtin .append, args := #[x, y], argTypes := #[t, t'] }) (ht : P.underlying t = some (.slice e)) (hi0 : P.info? e = some i) (hik : i.size = k)
    (hd : P.underlying t' = some d) (hn : notInt d) (hx : st.ev x = .bsl id 0 n cap) (hb : st.bx.lookup id = some ⟨bt, .r es.flatten mm⟩) (hbn : (⟨bt, .r es.flatten mm⟩ : Box).cs ≠ []) (hy : st.ev y = .bsl id' off' n' cap') (hb' : st.bx.lookup id' = some ⟨bt', .r es'.flatten mm'⟩) (hk : ∀ e ∈ es, e.length = k) (hk' : ∀ e ∈ es', e.length = k)
    (hoff' : off' = i' * k) (hin : i' + n' ≤ es'.length) (hc0 : 0 < cap) (hroom : n + n' ≤ cap) (hi : n ≤ es.length) (hm : (n + n') * k ≤ es.length * k + mm) :
    Makes P c st o (.bsl id 0 (n + n') cap) ((id, ⟨bt, .r (es.take n ++ ((es'.drop i').take n' ++ es.drop (n + n'))).flatten (mm - (n + n' - es.length) * k)⟩) :: st.bx) st.tk := by
  have hl := flatten_len es hk
  have hnl : ((es'.drop i').take n').length = n' := by rw [List.length_take, List.length_drop]; omega
  have hle' : (i' + n') * k ≤ es'.length * k + mm' := Nat.le_trans (Nat.mul_le_mul_right k hin) (Nat.le_add_right _ _)
  have h := Makes.roomB (c := c) ho ht hi0 hik hd hn hx hb hbn (Reads.row hy hb' hk' hoff' hle') hc0 hroom (by
    simp only [Box.cs_r, List.length_append, List.length_map, List.length_replicate, hl]; exact hm)
  refine h.recell rfl (Subs.of_eq ?_)
  have h2 := row_news (mm := mm') hk' hoff' (Nat.le_refl n') hin
  rw [List.take_of_length_le (by rw [List.length_take]; omega)] at h2
  rw [h2]
  simp only [Box.cs_l, Box.cs_r]
  have := setA_row (m := mm) hk (mem_take_len (i := n') (mem_drop_len (i := i') hk')) hi
  rw [hnl] at this
  exact this
theorem Adds.row {y : Operand} {k id off n cap mm i : Nat} {ty : TypeId} {es : List (List IV)} (hy : st.ev y = .bsl id off n cap) (hb : st.bx.lookup id = some ⟨ty, .r es.flatten mm⟩) (hk : ∀ e ∈ es, e.length = k) (hk0 : 0 < k) (hoff : off = i * k) (hn0 : 0 < n) (hin : i + n ≤ es.length) :
    Adds P c st y k ((es.drop i).take n) := fun E a w hi => by
  have h := hi.ev y; rw [hy] at h
  obtain ⟨o', hq, hn, hm, hoo⟩ := h.bsl_inv
  have hoe := hoo (by omega)
  obtain ⟨arr, rst, _, hra, h1, _, hc⟩ := hi.boxCell hb
  have hl := flatten_len es hk
  have hnl : ((es.drop i).take n).length = n := by rw [List.length_take, List.length_drop]; omega
  have hal : arr.length = es.length * k + mm := by rw [hra.1]; simp only [Box.cs_r, List.length_append, List.length_map, List.length_replicate, hl]
  have h2 : (i + n) * k ≤ es.length * k := Nat.mul_le_mul_right k hin
  rw [Nat.add_mul] at h2
  have hul : ((arr.drop off).take (n * k)).length = n * k := by rw [List.length_take, List.length_drop, hal, hoff]; omega
  refine ⟨(arr.drop off).take (n * k), ?_, by rw [hnl, hul], fun u hu => h1 u (List.mem_of_mem_drop (List.mem_of_mem_take hu)), fun p e j x v h3 h4 h5 => ?_⟩
  · rw [hq, hnl, hoe]
    exact Src.some hul (fun j v hv => by
      have hj := (List.getElem?_eq_some_iff.1 hv).1
      rw [hul] at hj
      rw [List.getElem?_take, if_pos hj, List.getElem?_drop] at hv
      rw [Addr.add_none, hc _ (List.getElem?_eq_some_iff.1 hv).1]; exact hv)
  · have hpl := (List.getElem?_eq_some_iff.1 h3).1
    rw [hnl] at hpl
    rw [List.getElem?_take, if_pos hpl, List.getElem?_drop] at h3
    have hx := flat_at es (i + p) j e x hk h3 h4
    have hek : e.length = k := hk e (List.mem_of_getElem? h3)
    have hjk := (List.getElem?_eq_some_iff.1 h4).1
    have hpj : p * k + j < n * k := by
      have : (p + 1) * k ≤ n * k := Nat.mul_le_mul_right k hpl
      rw [Nat.add_mul] at this; omega
    rw [List.getElem?_take, if_pos hpj, List.getElem?_drop] at h5
    have hidx : off + (p * k + j) = (i + p) * k + j := by rw [hoff, Nat.add_mul]; omega
    rw [hidx] at h5
    have hcs : (⟨ty, .r es.flatten mm⟩ : Box).cs[(i + p) * k + j]? = some (.iv x) := by
      simp only [Box.cs_r]
      rw [List.getElem?_append_left (by rw [List.length_map]; exact (List.getElem?_eq_some_iff.1 hx).1), List.getElem?_map, hx]; rfl
    exact (hra.2 _ _ v hcs h5).iv_inv
theorem Makes.growR {t t' e : TypeId} {d : TypeDesc} {x y : Operand} {id id' k bytes : Nat} {i : TypeInfo} {z : Value} {n cap mm : Nat} {bt : TypeId} {es news : List (List IV)}
    (ho : o.op = .call { callee := .builtin .append, args := #[x, y], argTypes := #[t, t'] }) (ht : P.underlying t = some (.slice e)) (hi0 : P.info? e = some i) (hik : i.size = k) (hib : i.bytes = bytes) (hiz : i.zero = some z) (hzk : z.cells.size = k) (hz1 : ∀ u ∈ z.cells.toList, u.oneCell' = true)
    (hd : P.underlying t' = some d) (hn : notInt d) (hk0 : 0 < k) (hx : st.ev x = .bsl id 0 n cap) (hb : st.bx.lookup id = some ⟨bt, .r es.flatten mm⟩) (hk : ∀ e ∈ es, e.length = k) (hi : n ≤ es.length) (hcap : cap < n + news.length) (hnk : ∀ e ∈ news, e.length = k) (hy : Adds P c st y k news) (hne : news ≠ [])
    (hm : n + news.length ≤ maxLen) (hby : (n + news.length) * bytes ≤ 140737488355328) (hf : st.fresh id' = true) :
    Makes P c st o (.bsh id' 0 (n + news.length) k) ((id', ⟨e, .r (es.take n ++ news).flatten 0⟩) :: st.bx) st.tk := by
  have hl := flatten_len es hk
  have h1 : n * k ≤ es.length * k := Nat.mul_le_mul_right k hi
  have hold : (((⟨bt, .r es.flatten mm⟩ : Box).cs.drop 0).take (n * k)) = (es.take n).flatten.map AV.iv := by
    simp only [Box.cs_r, List.drop_zero]
    rw [List.take_append_of_le_length (by rw [List.length_map, hl]; exact h1), ← List.map_take, flat_take es n hk]
  have h := Makes.growB (c := c) ho ht hi0 hik hib hiz hzk hz1 hd hn hk0 hx hb hold (by rw [List.length_map, flatten_len _ (mem_take_len hk), List.length_take]; congr 1; omega) hcap hnk hy hne hm hby hf rfl (ments_iv _ _) (ments_iv _ _)
  exact h.recell rfl (Subs.of_eq (by simp))
theorem Makes.growRZ {t t' e : TypeId} {kd kd' : IntKind} {x y : Operand} {m : Nat} {id id' k bytes : Nat} {i : TypeInfo} {z : Value} {n cap mm : Nat} {bt : TypeId} {es : List (List IV)}
    (ho : o.op = .call { callee := .builtin .append, args := #[x, y], argTypes := #[t, t'] }) (ht : P.underlying t = some (.slice e)) (hi0 : P.info? e = some i) (hik : i.size = k) (hib : i.bytes = bytes) (hiz : i.zero = some z) (hzk : z.cells.size = k) (hz1 : ∀ u ∈ z.cells.toList, u.oneCell' = true)
    (hd : P.underlying t' = some (.int kd)) (hk0 : 0 < k) (hx : st.ev x = .bsl id 0 n cap) (hb : st.bx.lookup id = some ⟨bt, .r es.flatten mm⟩) (hk : ∀ e ∈ es, e.length = k) (hi : n ≤ es.length) (hcap : cap < n + m) (hy : st.ev y = .iv (.im (.int kd' (m : Int)))) (hpos : 0 < m)
    (hm : n + m ≤ maxLen) (hby : (n + m) * bytes ≤ 140737488355328) (hf : st.fresh id' = true) :
    Makes P c st o (.bsh id' 0 (n + m) k) ((id', ⟨e, .r (es.take n).flatten (m * k)⟩) :: st.bx) st.tk := by
  have hl := flatten_len es hk
  have h1 : n * k ≤ es.length * k := Nat.mul_le_mul_right k hi
  have hold : (((⟨bt, .r es.flatten mm⟩ : Box).cs.drop 0).take (n * k)) = (es.take n).flatten.map AV.iv := by
    simp only [Box.cs_r, List.drop_zero]
    rw [List.take_append_of_le_length (by rw [List.length_map, hl]; exact h1), ← List.map_take, flat_take es n hk]
  have h := Makes.growZ (c := c) ho ht hi0 hik hib hiz hzk hz1 hd hk0 hx hb hold (by rw [List.length_map, flatten_len _ (mem_take_len hk), List.length_take]; congr 1; omega) hcap hy hpos hm hby hf (ments_iv _ _)
  exact h.recell rfl (Subs.of_eq (by simp))
theorem Makes.cloneR {t t' e : TypeId} {d : TypeDesc} {x y : Operand} {id id' k off bytes : Nat} {i : TypeInfo} {z : Value} {news : List (List IV)}
    (ho : o.op = .call { callee := .builtin .append, args := #[x, y], argTypes := #[t, t'] }) (ht : P.underlying t = some (.slice e)) (hi0 : P.info? e = some i) (hik : i.size = k) (hib : i.bytes = bytes) (hiz : i.zero = some z) (hzk : z.cells.size = k) (hz1 : ∀ u ∈ z.cells.toList, u.oneCell' = true)
    (hd : P.underlying t' = some d) (hn : notInt d) (hk0 : 0 < k) (hx : st.ev x = .bsl id off 0 0) (hnk : ∀ e ∈ news, e.length = k) (hy : Adds P c st y k news) (hne : news ≠ [])
    (hm : news.length ≤ maxLen) (hby : news.length * bytes ≤ 140737488355328) (hf : st.fresh id' = true) :
    Makes P c st o (.bsh id' 0 news.length k) ((id', ⟨e, .r news.flatten 0⟩) :: st.bx) st.tk :=
  (Makes.cloneB (c := c) ho ht hi0 hik hib hiz hzk hz1 hd hn hk0 hx hnk hy hne hm hby hf rfl (ments_iv _ _)).recell rfl (Subs.of_eq (by simp))
theorem Yields.app0 {t t' e e' : TypeId} {k k' : Nat} {x y : Operand} (ho : o.op = .call { callee := .builtin .append, args := #[x, y], argTypes := #[t, t'] }) (hs : sliceOk P t e k = true) (hs' : sliceOk P t' e' k' = true) (hx : (st.ev x).sl? = some []) (hy : (st.ev y).sl? = some []) : Yields P c st o (.iv (.sl [])) := fun E a w hi => by
  obtain ⟨hu, inf, hinf, hsz⟩ := sliceOk_run hs
  obtain ⟨hu', _⟩ := sliceOk_run hs'
  have h1 : RepI E.φ w (.sl []) (a.eval x) := (hi.ev x).sl hx
  have h2 : RepI E.φ w (.sl []) (a.eval y) := (hi.ev y).sl hy
  have hy2 : (Builtin.lenOf (a.eval y)).run P w = .ok 0 w ∧ (Builtin.firstCells inf.size 0 (a.eval y)).run P w = .ok #[] w := by
    generalize a.eval y = uy at h2
    rcases h2.sl_inv with ⟨hq, _⟩ | ⟨ad, cap, hq, _, _, _⟩ | ⟨b, o', cap, k', f, hq, hc, _⟩
    · rw [hq]; exact ⟨rfl, by simp [Builtin.firstCells]⟩
    · rw [hq]; exact ⟨rfl, by simp [Builtin.firstCells, loadCells, loadCellsFrom]⟩
    · rw [hq]; exact ⟨rfl, by simp [Builtin.firstCells, loadCells, loadCellsFrom]⟩
  have hap : (Builtin.append_ #[t, t'] o.type #[a.eval x, a.eval y]).run P w = .ok (a.eval x) w := by
    rcases h1.sl_inv with ⟨hq, _⟩ | ⟨ad, cap, hq, _, _, _⟩ | ⟨b, o', cap, k', f, hq, hc, _⟩
    · rw [hq]; simp [Builtin.append_, run_underlying hu, run_underlying hu', sizeOf, typeInfo, hinf, hy2.1, hy2.2]
    · rw [hq]; cases ad <;> simp [Builtin.append_, run_underlying hu, run_underlying hu', sizeOf, typeInfo, hinf, hy2.1, hy2.2, storeCells]
    · rw [hq]; simp [Builtin.append_, run_underlying hu, run_underlying hu', sizeOf, typeInfo, hinf, hy2.1, hy2.2, storeCells]
  exact ⟨a.eval x, by simp [execOp, ho, resolve, invoke, builtin, hap], .iv h1⟩
end
end Go.Abs
/- A logic of abstract states, part 24: rows of one's own: storing, loading, clearing, literals, publishing; calls that are handed rows. Conditions: each rule's own premises; over any program. -/
namespace Go.Abs
open Go.RowKit (Below)
set_option linter.unusedVariables false
set_option linter.unusedSimpArgs false
theorem row_ne {bt : TypeId} {xs : List IV} {mm : Nat} (h : xs ≠ [] ∨ 0 < mm) : (⟨bt, .r xs mm⟩ : Box).cs ≠ [] := fun e => by
  simp only [Box.cs_r, List.append_eq_nil_iff, List.map_eq_nil_iff, List.replicate_eq_nil_iff] at e
  rcases h with h | h
  · exact h e.1
  · omega
theorem Sub.bsl0 (id off cap : Nat) : Sub (.bsl id off 0 cap) (.iv (.sl [])) := fun E w u h => by
  obtain ⟨o, rfl, hn, hm, _⟩ := h.bsl_inv
  exact .iv (.emp (fun h => by cases h) hm)
section
variable {P : Program} {c : Ctx} {st : St} {ops : Array Oper} {Q : Exit → Act → World → Prop} {rest : List Oper} {o : Oper}
theorem Does.storeR {t : TypeId} {x y : Operand} {id off k mm i : Nat} {ty : TypeId} {es : List (List IV)} {e : List IV} {v : AV} {agg : Bool} (ho : o.op = .store t x y) (ht : varOk P t agg k = true) (hx : st.ev x = .ptr id off) (hb : st.bx.lookup id = some ⟨ty, .r es.flatten mm⟩)
    (hy : st.ev y = v) (hv : v.lays = true) (hc : v.cells = e.map .iv) (he : e.length = k) (hk : ∀ e ∈ es, e.length = k) (hoff : off = i * k) (hi : i < es.length) : Does P c st o ((id, ⟨ty, .r (es.set i e).flatten mm⟩) :: st.bx) st.tk := by
  have hl := flatten_len es hk
  have h1 : (i + 1) * k ≤ es.length * k := Nat.mul_le_mul_right k hi
  rw [Nat.add_mul] at h1
  have h := Does.store (c := c) ho ht hx hb hy hv (by rw [hc, List.length_map, he]) (by simp only [Box.cs_r, List.length_append, List.length_map, List.length_replicate, hl, hoff]; omega)
  refine h.recell rfl (Subs.of_eq ?_)
  have := setA_row (m := mm) (news := [e]) (i := i) hk (by simpa using he) (by omega)
  have hz : i + 1 - es.length = 0 := by omega
  simp only [List.flatten_cons, List.flatten_nil, List.append_nil, List.length_cons, List.length_nil, Nat.zero_add, hz, Nat.zero_mul, Nat.sub_zero] at this
  simp only [Box.cs_l, Box.cs_r, hc, hoff]
  rw [this, List.set_eq_take_append_cons_drop, if_pos hi]
  simp
theorem Yields.load1R {t : TypeId} {x : Operand} {id off k mm i f : Nat} {ty : TypeId} {es : List (List IV)} {e : List IV} {y : IV} (ho : o.op = .load t x) (ht : varOk P t false 1 = true) (hx : st.ev x = .ptr id off) (hb : st.bx.lookup id = some ⟨ty, .r es.flatten mm⟩)
    (hk : ∀ e ∈ es, e.length = k) (hoff : off = i * k + f) (he : es[i]? = some e) (hf : e[f]? = some y) : Yields P c st o (.iv y) := by
  refine Yields.load1P ho ht hx hb ?_
  have hx := flat_at es i f e y hk he hf
  simp only [Box.cs_r, hoff]
  rw [List.getElem?_append_left (by rw [List.length_map]; exact (List.getElem?_eq_some_iff.1 hx).1), List.getElem?_map, hx]; rfl
theorem Yields.loadAR {t : TypeId} {x : Operand} {id off k mm i : Nat} {ty : TypeId} {es : List (List IV)} {e : List IV} {vs : List AV} (ho : o.op = .load t x) (ht : varOk P t true k = true) (hx : st.ev x = .ptr id off) (hb : st.bx.lookup id = some ⟨ty, .r es.flatten mm⟩)
    (hk : ∀ e ∈ es, e.length = k) (hoff : off = i * k) (he : es[i]? = some e) (hv : e.map AV.iv = vs) : Yields P c st o (.agg vs) := by
  have hl := flatten_len es hk
  have hi : i < es.length := (List.getElem?_eq_some_iff.1 he).1
  have h1 : (i + 1) * k ≤ es.length * k := Nat.mul_le_mul_right k hi
  rw [Nat.add_mul] at h1
  have hp : (((⟨ty, .r es.flatten mm⟩ : Box).cs.drop off).take k) = vs := by
    simp only [Box.cs_r, hoff]
    rw [List.drop_append_of_le_length (by rw [List.length_map, hl]; omega), List.take_append_of_le_length (by rw [List.length_drop, List.length_map, hl]; omega), ← List.map_drop, ← List.map_take, flat_pick es i e hk he, hv]
  have := Yields.loadAP (c := c) ho ht hx hb (k := k) (by rw [hp, ← hv, List.length_map]; exact hk e (List.mem_of_getElem? he))
  rw [hp] at this; exact this
theorem Yields.slB3 {x y z u : Operand} {t e : TypeId} {k id off n cap : Nat} {kd kd' kd'' : IntKind} {i j m : Int} (ho : o.op = .slice t x (some y) (some z) (some u)) (hx : st.ev x = .bsl id off n cap) (hy : st.ev y = .iv (.im (.int kd i))) (hz' : st.ev z = .iv (.im (.int kd' j))) (hu' : st.ev u = .iv (.im (.int kd'' m)))
    (hs : sliceOk P t e k = true) (h0 : 0 ≤ i) (h1 : i ≤ j) (h2 : j ≤ m) (h3 : m ≤ cap) : Yields P c st o (.bsl id (off + i.toNat * k) (j.toNat - i.toNat) (m.toNat - i.toNat)) := fun E a w hi => by
  obtain ⟨hu, hz⟩ := sl_facts hs w
  have h := hi.ev x; rw [hx] at h
  obtain ⟨o', hq, hn, hm, hoo⟩ := h.bsl_inv
  refine ⟨_, ?_, sliced_bsl (E := E) (w := w) (id := id) (s := k) (by omega : i.toNat ≤ j.toNat) (by omega : j.toNat ≤ m.toNat) (by omega : m.toNat ≤ cap) hm hoo⟩
  have := run_slice_lhm (P := P) w t (some ⟨E.ρ id, o', none⟩) n cap hu kd kd' kd'' i j m h0 h1 h2 h3
  simp [execOp, ho, hq, hi.im hy, hi.im hz', hi.im hu', run_sliceAt_slice w t _ _ _ _ hu, this, hz, Result.andThen]
theorem L.clearR {t e : TypeId} {x : Operand} {k n id off cap mm j : Nat} {i : TypeInfo} {z : Value} {bt : TypeId} {es : List (List IV)} (hg : o.guard = none) (hd : o.dst = none) (ho : o.op = .call { callee := .builtin .clear, args := #[x], argTypes := #[t] }) (ht : P.underlying t = some (.slice e))
    (hi0 : P.info? e = some i) (hiz : i.zero = some z) (hzk : z.cells.size = k) (hz1 : ∀ u ∈ z.cells.toList, u.oneCell' = true) (hk0 : 0 < k) (hx : st.ev x = .bsl id off n cap) (hb : st.bx.lookup id = some ⟨bt, .r es.flatten mm⟩) (hk : ∀ e ∈ es, e.length = k) (hoff : off = j * k) (hj : j ≤ es.length) (hn0 : 0 < n) (hle : (j + n) * k ≤ es.length * k + mm)
    (h : L c ⟨st.fr, (id, ⟨bt, .r (es.take j).flatten (es.length * k + mm - j * k)⟩) :: st.bx, st.tk⟩ (wpList P ops Q rest)) : L c st (wpList P ops Q (o :: rest)) := by
  have hl := flatten_len es hk
  have h1 : j * k ≤ es.length * k := Nat.mul_le_mul_right k hj
  rw [Nat.add_mul] at hle
  refine L.clearB hg hd ho ht hi0 hiz hzk hz1 hk0 hx hb hn0 (by simp only [Box.cs_r, List.length_append, List.length_map, List.length_replicate, hl, hoff]; exact hle) ?_
  rintro a w ⟨E, hi⟩
  refine h a w ⟨E, hi.recell rfl ?_⟩
  simp only [Box.cs_l, Box.cs_r, hoff]
  have htk : (List.map AV.iv es.flatten ++ List.replicate mm AV.any).take (j * k) = (es.take j).flatten.map AV.iv := by
    rw [List.take_append_of_le_length (by rw [List.length_map, hl]; exact h1), ← List.map_take, flat_take es j hk]
  unfold setA
  rw [htk]
  have hjl : (es.take j).flatten.length = j * k := by rw [flatten_len _ (mem_take_len hk), List.length_take]; congr 1; omega
  refine ⟨by simp only [List.length_append, List.length_map, List.length_replicate, List.length_drop, hl, hjl]; omega, fun i x y hx hy => ?_⟩
  rw [List.getElem?_append] at hx hy
  split at hx
  · rename_i hlt
    rw [if_pos hlt] at hy
    rw [hx] at hy; cases hy; exact Sub.refl _
  · rename_i hlt
    rw [if_neg hlt] at hy
    simp only [List.getElem?_replicate] at hy
    split at hy
    · cases hy; exact Sub.any _
    · cases hy
theorem Makes.buildR {t e : TypeId} {n k id : Nat} {parts : Array (Nat × Operand)} {zs : List Value} {cs : List AV} {es : List (List IV)} (ho : o.op = .buildSlice t n parts) (hs : sliceOk P t e k = true)
    (hz : zeroCellsOf P e = some zs) (h1 : zs.all (·.oneCell') = true) (hzl : zs.length = k) (hn : n * k ≤ 16777216) (hnk : 0 < k)
    (hf : fillA (fun i => some (i * k, k)) ((List.range (n * k)).map fun i => constCell (zs.getD (i % k) undef)) (parts.toList.map fun x => (x.1, st.ev x.2)) = some cs)
    (hcs : cs = es.flatten.map .iv) (hcl : es.flatten.length = n * k) (hfr : st.fresh id = true) : Makes P c st o (.bsl id 0 n n) ((id, ⟨e, .r es.flatten 0⟩) :: st.bx) st.tk :=
  (Makes.buildBox (c := c) ho hs hz h1 hzl hn hnk hf (by rw [hcs, List.length_map, hcl]) (by rw [hcs]; exact ments_iv _ _) hfr).recell rfl (Subs.of_eq (by simp [hcs]))
theorem Yields.overlapsR {f : FuncId} {x y : Operand} {ats : Array TypeId} {t tr e : TypeId} {k i j offi n cap offj m capj mm mm' : Nat} {bt bt' : TypeId} {xs ys : List IV} (ho : o.op = .call { callee := .value (.func f), args := #[x, y], argTypes := ats })
    (hok : extOk P f (Extern.SlicesOverlaps.overlaps #[t, t] #[tr])) (hs : sliceOk P t e k = true) (hx : st.ev x = .bsl i offi n cap) (hy : st.ev y = .bsl j offj m capj) (hij : i ≠ j) (hb : st.bx.lookup i = some ⟨bt, .r xs mm⟩) (hb' : st.bx.lookup j = some ⟨bt', .r ys mm'⟩)
    (hoff : cap ≠ 0) (hin : offi < xs.length) (hne : ys ≠ []) : Yields P c st o (aB false) :=
  Yields.overlapsB (c := c) ho hok hs hx hy hij hb hb' (fun e => by simp only [Box.cs_r, List.append_eq_nil_iff, List.map_eq_nil_iff] at e; rw [e.1] at hin; simp at hin)
    (fun e => by simp only [Box.cs_r, List.append_eq_nil_iff, List.map_eq_nil_iff] at e; exact hne e.1) hoff (by simp only [Box.cs_r, List.length_append, List.length_map]; omega)
theorem L.pubS (K s : Nat) {X : Act → World → Prop} {k n : Nat} {ty : TypeId} {es : List (List IV)} {v v' : AV} (hin : c.ins = []) (hb : st.bx.lookup K = some ⟨ty, .r es.flatten 0⟩) (hk : ∀ e ∈ es, e.length = k) (hk0 : 0 < k) (hne : es ≠ []) (hn : es.length = n)
    (hs : st.fr.lookup s = some v) (hp : Pub K n k (.sl es) v v') (h : L c ⟨(s, v') :: st.fr, (K, ⟨ty, .l []⟩) :: st.bx, st.tk⟩ X) : L c st X := by
  subst hn
  refine L.publishS K s hin hb (xs := es.flatten) (n := es.length) (k := k) ?_ ?_ hk0 (List.length_pos_iff.2 hne) hs ?_ h
  · simp only [Box.cs_r, List.replicate_zero, List.append_nil]; exact toIs_iv _
  · simp only [Box.cs_r, List.replicate_zero, List.append_nil, List.length_map]; exact flatten_len es hk
  · rw [chunks_flat es hk]; exact hp
theorem L.pubB (K j : Nat) {X : Act → World → Prop} {k n : Nat} {ty : TypeId} {es : List (List IV)} {bj : Box} {cs : List AV} (hin : c.ins = []) (hb : st.bx.lookup K = some ⟨ty, .r es.flatten 0⟩) (hk : ∀ e ∈ es, e.length = k) (hk0 : 0 < k) (hne : es ≠ []) (hn : es.length = n)
    (hj : st.bx.lookup j = some bj) (hjn : bj.cs ≠ []) (hjk : (j == K) = false) (hp : Pubs K n k (.sl es) bj.cs cs) (h : L c ⟨st.fr, (j, ⟨bj.ty, .l cs⟩) :: (K, ⟨ty, .l []⟩) :: st.bx, st.tk⟩ X) : L c st X := by
  subst hn
  refine L.publishB K j hin hb (xs := es.flatten) (n := es.length) (k := k) ?_ ?_ hk0 (List.length_pos_iff.2 hne) hj hjn hjk ?_ h
  · simp only [Box.cs_r, List.replicate_zero, List.append_nil]; exact toIs_iv _
  · simp only [Box.cs_r, List.replicate_zero, List.append_nil, List.length_map]; exact flatten_len es hk
  · rw [chunks_flat es hk]; exact hp
theorem L.renameR (s N : Nat) {id cap m k : Nat} {n : Nat} {ty : TypeId} {es : List (List IV)} {X : Act → World → Prop} (hs : st.fr.lookup s = some (.bsl id 0 n cap)) (hb : st.bx.lookup id = some ⟨ty, .r es.flatten m⟩) (hf : st.fresh N = true) (hk : ∀ e ∈ es, e.length = k) (hn : es.length = n) (h0 : 0 < n * k) (hcap : cap * k ≤ n * k + m)
    (h : L c ⟨(s, .bsh N 0 n k) :: st.fr, (N, ⟨ty, .r es.flatten 0⟩) :: (id, ⟨ty, .l []⟩) :: st.bx, st.tk⟩ X) : L c st X := by
  have hl : es.flatten.length = n * k := by rw [flatten_len es hk, hn]
  refine L.rename s N k hs hb hf (.inl (fun e => by rw [e] at hl; simp at hl; omega)) (by rw [hl]; exact hcap) ?_
  rw [List.take_of_length_le (by rw [hl]; exact Nat.le_refl _)]; exact h
theorem AV.mentsIn_iv (l : List Nat) : ∀ xs : List IV, AV.mentsIn l (xs.map .iv) = true
  | [] => rfl
  | x :: xs => by simp [AV.mentsIn, AV.mentIn, mentsIn_iv l xs]
theorem AV.mentsIn_any (l : List Nat) : ∀ m : Nat, AV.mentsIn l (List.replicate m .any) = true
  | 0 => rfl
  | m + 1 => by simp [List.replicate_succ, AV.mentsIn, AV.mentIn, mentsIn_any l m]
theorem AV.mentsIn_app (l : List Nat) : ∀ (a b : List AV), AV.mentsIn l (a ++ b) = (AV.mentsIn l a && AV.mentsIn l b)
  | [], b => by simp [AV.mentsIn]
  | x :: a, b => by simp [AV.mentsIn, mentsIn_app l a b, Bool.and_assoc]
theorem fresh_ne {id d : Nat} {b : Box} (hf : st.fresh d = true) (hb : st.bx.lookup id = some b) : id ≠ d := (St.fresh_bx hf hb).1
theorem L.call01 {f : FuncId} {args : Array Operand} {ats : Array TypeId} {as : List AV} {d k n : Nat} {ty : TypeId} {xs : List IV} (hg : o.guard = none) (hd : o.dst = some d) (hlt : Nat.ble (d + 1) c.nt = true) (ho : o.op = .call { callee := .value (.func f), args := args, argTypes := ats }) (hok : callOk P f = true)
    (hc : CallA P f as [] [(1000, ⟨ty, .r xs 0⟩)] [] (.bsh 1000 0 n k)) (ha : AV.pub.pubs (args.toList.map st.ev) = as) (hm : AV.mentsIn [] as = true) (hf : st.fresh d = true)
    (h : L c ⟨(d, .bsh d 0 n k) :: st.fr, (d, ⟨ty, .r xs 0⟩) :: st.bx, st.tk⟩ (wpList P ops Q rest)) : L c st (wpList P ops Q (o :: rest)) := by
  have hs : Abs.sws [(1000, d)] 1000 = d := by simp [Abs.sws, sw]
  have h2 := hc.sws [(1000, d)] (AV.rens_id as hm) (bx2 := []) (bx2' := [(d, ⟨ty, .r xs 0⟩)]) (tk2' := []) (res2 := .bsh d 0 n k) rfl (by simp [renB, hs, Box.ren]) rfl (by simp [AV.ren, hs])
  exact L.callN (bxi := []) [d] hg hd hlt ho hok h2 (.of_pub ha) .nil (by simp [hf]) (by simp [boOk, keys]) rfl (by simp [AV.mentsIn_iv]) (by simp [AV.mentIn]) h
theorem L.call02 {f : FuncId} {args : Array Operand} {ats : Array TypeId} {as : List AV} {d k n k' n' : Nat} {ty ty' : TypeId} {xs xs' : List IV} (hg : o.guard = none) (hd : o.dst = some d) (hlt : Nat.ble (d + 1) c.nt = true) (ho : o.op = .call { callee := .value (.func f), args := args, argTypes := ats }) (hok : callOk P f = true)
    (hc : CallA P f as [] [(1000, ⟨ty, .r xs 0⟩), (1001, ⟨ty', .r xs' 0⟩)] [] (.agg [.bsh 1000 0 n k, .bsh 1001 0 n' k'])) (ha : AV.pub.pubs (args.toList.map st.ev) = as) (hm : AV.mentsIn [] as = true) (hf : st.fresh d = true) (hf' : st.fresh (d + 2000) = true)
    (h : L c ⟨(d, .agg [.bsh d 0 n k, .bsh (d + 2000) 0 n' k']) :: st.fr, (d, ⟨ty, .r xs 0⟩) :: (d + 2000, ⟨ty', .r xs' 0⟩) :: st.bx, st.tk⟩ (wpList P ops Q rest)) : L c st (wpList P ops Q (o :: rest)) := by
  have hs : Abs.sws [(1001, d + 2000), (1000, d)] 1000 = d := sws_tl (by decide) (sws_hd _ _ _) (by omega)
  have hs' : Abs.sws [(1001, d + 2000), (1000, d)] 1001 = d + 2000 := sws_hd _ _ _
  have h2 := hc.sws [(1001, d + 2000), (1000, d)] (AV.rens_id as hm) (bx2 := []) (bx2' := [(d, ⟨ty, .r xs 0⟩), (d + 2000, ⟨ty', .r xs' 0⟩)]) (tk2' := []) (res2 := .agg [.bsh d 0 n k, .bsh (d + 2000) 0 n' k']) rfl (by simp [renB, hs, hs', Box.ren]) rfl (by simp [AV.ren, AV.rens, hs, hs'])
  exact L.callN (bxi := []) [d, d + 2000] hg hd hlt ho hok h2 (.of_pub ha) .nil (by simp [hf, hf']) (by simp [boOk, keys]) rfl (by simp [AV.mentsIn_iv]) (by simp [AV.mentIn, AV.mentsIn]) h
theorem L.call11 {f : FuncId} {args : Array Operand} {ats : Array TypeId} {as : List AV} {d a k n n' : Nat} {ty : TypeId} {xs ys : List IV} (hg : o.guard = none) (hd : o.dst = some d) (hlt : Nat.ble (d + 1) c.nt = true) (ho : o.op = .call { callee := .value (.func f), args := args, argTypes := ats }) (hok : callOk P f = true)
    (hc : CallA P f (.bsh 1000 0 n k :: as) [(1000, ⟨ty, .r xs 0⟩)] [(1001, ⟨ty, .r ys 0⟩), (1000, ⟨ty, .l []⟩)] [] (.bsh 1001 0 n' k)) (ha : AV.pub.pubs (args.toList.map st.ev) = .bsh a 0 n k :: as) (hb : st.bx.lookup a = some ⟨ty, .r xs 0⟩) (hx : xs ≠ []) (hm : AV.mentsIn [] as = true) (hf : st.fresh d = true)
    (h : L c ⟨(d, .bsh d 0 n' k) :: st.fr, (d, ⟨ty, .r ys 0⟩) :: (a, ⟨ty, .l []⟩) :: st.bx, st.tk⟩ (wpList P ops Q rest)) : L c st (wpList P ops Q (o :: rest)) := by
  have hne := fresh_ne hf hb
  have hs : Abs.sws [(1001, d), (1000, a)] 1000 = a := sws_tl (by decide) (sws_hd _ _ _) hne
  have hs' : Abs.sws [(1001, d), (1000, a)] 1001 = d := sws_hd _ _ _
  have h2 := hc.sws [(1001, d), (1000, a)] (args2 := .bsh a 0 n k :: as) (bx2 := [(a, ⟨ty, .r xs 0⟩)]) (bx2' := [(d, ⟨ty, .r ys 0⟩), (a, ⟨ty, .l []⟩)]) (tk2' := []) (res2 := .bsh d 0 n' k) (by simp [AV.rens, AV.ren, hs, AV.rens_id as hm]) (by simp [renB, hs, Box.ren]) (by simp [renB, hs, hs', Box.ren, AV.rens]) rfl (by simp [AV.ren, hs'])
  have hn : ¬ (xs = [] ∧ True) := fun h => hx h.1
  exact L.callN (bxi := [(a, ⟨ty, .r xs 0⟩)]) [d] hg hd hlt ho hok h2 (.of_pub ha) (.cons hb rfl (Subs.refl _) .nil) (by simp [hf]) (by simp [boOk, keys, hx]) rfl (by simp [AV.mentsIn_iv, AV.mentsIn]) (by simp [AV.mentIn]) h
theorem L.call10 {f : FuncId} {args : Array Operand} {ats : Array TypeId} {as : List AV} {d a k n : Nat} {ty : TypeId} {xs : List IV} {res : IV} (hg : o.guard = none) (hd : o.dst = some d) (hlt : Nat.ble (d + 1) c.nt = true) (ho : o.op = .call { callee := .value (.func f), args := args, argTypes := ats }) (hok : callOk P f = true)
    (hc : CallA P f (.bsh 1000 0 n k :: as) [(1000, ⟨ty, .r xs 0⟩)] [(1000, ⟨ty, .l []⟩)] [] (.iv res)) (ha : AV.pub.pubs (args.toList.map st.ev) = .bsh a 0 n k :: as) (hb : st.bx.lookup a = some ⟨ty, .r xs 0⟩) (hx : xs ≠ []) (hm : AV.mentsIn [] as = true)
    (h : L c ⟨(d, .iv res) :: st.fr, (a, ⟨ty, .l []⟩) :: st.bx, st.tk⟩ (wpList P ops Q rest)) : L c st (wpList P ops Q (o :: rest)) := by
  have hs : Abs.sws [(1000, a)] 1000 = a := by simp [Abs.sws, sw]
  have h2 := hc.sws [(1000, a)] (args2 := .bsh a 0 n k :: as) (bx2 := [(a, ⟨ty, .r xs 0⟩)]) (bx2' := [(a, ⟨ty, .l []⟩)]) (tk2' := []) (res2 := .iv res) (by simp [AV.rens, AV.ren, hs, AV.rens_id as hm]) (by simp [renB, hs, Box.ren]) (by simp [renB, hs, Box.ren, AV.rens]) rfl rfl
  exact L.callN (bxi := [(a, ⟨ty, .r xs 0⟩)]) [] hg hd hlt ho hok h2 (.of_pub ha) (.cons hb rfl (Subs.refl _) .nil) rfl (by simp [boOk, keys, hx]) rfl (by simp [AV.mentsIn]) (by simp [AV.mentIn]) h
theorem L.call21 {f : FuncId} {args : Array Operand} {ats : Array TypeId} {i : AV} {d a v k n m n' : Nat} {ty ty' : TypeId} {xs vs ys : List IV} (hg : o.guard = none) (hd : o.dst = some d) (hlt : Nat.ble (d + 1) c.nt = true) (ho : o.op = .call { callee := .value (.func f), args := args, argTypes := ats }) (hok : callOk P f = true)
    (hc : CallA P f [.bsh 1000 0 n k, i, .bsl 1001 0 m m] [(1000, ⟨ty, .r xs 0⟩), (1001, ⟨ty', .r vs 0⟩)] [(1002, ⟨ty, .r ys 0⟩), (1000, ⟨ty, .l []⟩), (1001, ⟨ty', .l []⟩)] [] (.bsh 1002 0 n' k)) (ha : AV.pub.pubs (args.toList.map st.ev) = [.bsh a 0 n k, i, .bsl v 0 m m])
    (hb : st.bx.lookup a = some ⟨ty, .r xs 0⟩) (hb' : st.bx.lookup v = some ⟨ty', .r vs 0⟩) (hx : xs ≠ []) (hv : vs ≠ []) (hav : (a == v) = false) (hm : AV.mentIn [] i = true) (hf : st.fresh d = true)
    (h : L c ⟨(d, .bsh d 0 n' k) :: st.fr, (d, ⟨ty, .r ys 0⟩) :: (a, ⟨ty, .l []⟩) :: (v, ⟨ty', .l []⟩) :: st.bx, st.tk⟩ (wpList P ops Q rest)) : L c st (wpList P ops Q (o :: rest)) := by
  have hne := fresh_ne hf hb
  have hne' := fresh_ne hf hb'
  have hav' : a ≠ v := by simpa using hav
  have hs : Abs.sws [(1002, d), (1001, v), (1000, a)] 1000 = a := sws_tl (by decide) (sws_tl (by decide) (sws_hd _ _ _) hav') hne
  have hs1 : Abs.sws [(1002, d), (1001, v), (1000, a)] 1001 = v := sws_tl (by decide) (sws_hd _ _ _) hne'
  have hs2 : Abs.sws [(1002, d), (1001, v), (1000, a)] 1002 = d := sws_hd _ _ _
  have h2 := hc.sws [(1002, d), (1001, v), (1000, a)] (args2 := [.bsh a 0 n k, i, .bsl v 0 m m]) (bx2 := [(a, ⟨ty, .r xs 0⟩), (v, ⟨ty', .r vs 0⟩)]) (bx2' := [(d, ⟨ty, .r ys 0⟩), (a, ⟨ty, .l []⟩), (v, ⟨ty', .l []⟩)]) (tk2' := []) (res2 := .bsh d 0 n' k)
    (by simp [AV.rens, AV.ren, hs, hs1, AV.ren_id i hm]) (by simp [renB, hs, hs1, Box.ren]) (by simp [renB, hs, hs1, hs2, Box.ren, AV.rens]) rfl (by simp [AV.ren, hs2])
  exact L.callN (bxi := [(a, ⟨ty, .r xs 0⟩), (v, ⟨ty', .r vs 0⟩)]) [d] hg hd hlt ho hok h2 (.of_pub ha) (.cons hb rfl (Subs.refl _) (.cons hb' rfl (Subs.refl _) .nil)) (by simp [hf]) (by simp [boOk, keys, hx, hv]) rfl (by simp [AV.mentsIn_iv, AV.mentsIn]) (by simp [AV.mentIn]) h
end
end Go.Abs
/- A logic of abstract states, part 25: an append that uses its row up; loops unrolled; nil slices with room to come. Conditions: each rule's own premises; over any program. -/
namespace Go.Abs
open Go.RowKit (Below)
set_option linter.unusedVariables false
set_option linter.unusedSimpArgs false
mutual
theorem mentIn_mono {l : List Nat} : ∀ (v : AV), AV.mentIn [] v = true → AV.mentIn l v = true
  | .any, _ => rfl
  | .iv _, _ => rfl
  | .nils, _ => rfl
  | .el _, _ => rfl
  | .row i _, h => by simp [AV.mentIn] at h
  | .ptr i _, h => by simp [AV.mentIn] at h
  | .bsl i _ _ _, h => by simp [AV.mentIn] at h
  | .bsh i _ _ _, h => by simp [AV.mentIn] at h
  | .agg cs, h => by simp only [AV.mentIn] at h ⊢; exact mentsIn_mono cs h
  | .tup cs, h => by simp only [AV.mentIn] at h ⊢; exact mentsIn_mono cs h
  | .fn _ cs, h => by simp only [AV.mentIn] at h ⊢; exact mentsIn_mono cs h
  | .opt _ v, h => by simp only [AV.mentIn] at h ⊢; exact mentIn_mono v h
theorem mentsIn_mono {l : List Nat} : ∀ (vs : List AV), AV.mentsIn [] vs = true → AV.mentsIn l vs = true
  | [], _ => rfl
  | v :: vs, h => by
    simp only [AV.mentsIn, Bool.and_eq_true] at h ⊢
    exact ⟨mentIn_mono v h.1, mentsIn_mono vs h.2⟩
end
section
variable {P : Program} {c : Ctx} {st : St} {ops : Array Oper} {Q : Exit → Act → World → Prop} {rest : List Oper} {o : Oper}
theorem Yields.capNil {t : TypeId} {x : Operand} (ho : o.op = .call { callee := .builtin .cap, args := #[x], argTypes := #[t] }) {e : TypeId} {k : Nat} (hs : sliceOk P t e k = true) (hx : st.ev x = .nils) : Yields P c st o (aI 0) :=
  .im rfl fun E a w hi => by
    obtain ⟨hu, _⟩ := sliceOk_run hs
    have h := hi.ev x; rw [hx] at h
    have hq : a.eval x = .slice none 0 0 := by generalize a.eval x = u at h; cases h; rfl
    simp [execOp, ho, resolve, invoke, builtin, hq, Builtin.cap_, run_underlying hu, goInt]
theorem Yields.slNil {x y : Operand} {t e : TypeId} {k : Nat} {kd : IntKind} {j : Int} (ho : o.op = .slice t x none (some y) none) (hx : st.ev x = .nils) (hy : st.ev y = .iv (.im (.int kd j))) (hs : sliceOk P t e k = true) (h0 : j = 0) : Yields P c st o .nils := fun E a w hi => by
  obtain ⟨hu, hz⟩ := sl_facts hs w
  have h := hi.ev x; rw [hx] at h
  have hq : a.eval x = .slice none 0 0 := by generalize a.eval x = u at h; cases h; rfl
  refine ⟨_, ?_, .nils⟩
  subst h0
  have := run_slice_h (P := P) w t none 0 0 hu kd 0 (by omega) (by omega)
  simp [execOp, ho, hq, hi.im hy, run_sliceAt_slice w t _ _ _ _ hu, this, hz, Result.andThen, sliced]
theorem Yields.slBshH {x y : Operand} {t e : TypeId} {k id n : Nat} {kd : IntKind} {j : Int} (ho : o.op = .slice t x none (some y) none) (hx : st.ev x = .bsh id 0 n k) (hy : st.ev y = .iv (.im (.int kd j))) (hs : sliceOk P t e k = true)
    (h0 : 0 ≤ j) (h1 : j ≤ n) : Yields P c st o (.bsh id 0 j.toNat k) := fun E a w hi => by
  obtain ⟨hu, hz⟩ := sl_facts hs w
  have h := hi.ev x; rw [hx] at h
  obtain ⟨cap, o', hq, hn, hm, he, hoo⟩ := h.bsh_inv
  simp only [Nat.sub_zero, Nat.zero_mul, Nat.zero_add] at hq hn hoo
  have := run_slice_h (P := P) w t (some ⟨E.ρ id, o', none⟩) n cap hu kd j h0 (by omega)
  have hs2 : sliced (some ⟨E.ρ id, o', none⟩) 0 j.toNat cap k = .slice (some ⟨E.ρ id, o', none⟩) j.toNat cap := by
    unfold sliced
    by_cases e : cap = 0
    · rw [if_pos e]
      have : j.toNat = 0 := by omega
      simp [this, e]
    · rw [if_neg e]; simp [Addr.add_none]
  refine ⟨.slice (some ⟨E.ρ id, o', none⟩) j.toNat cap, ?_, .bsh (cap := cap) (o := o') (by omega) hm he (fun h => by simpa using hoo (by omega)) (by simp)⟩
  simp [execOp, ho, hq, hi.im hy, run_sliceAt_slice w t _ _ _ _ hu, this, hz, Result.andThen, hs2]
theorem Makes.growNZ {t t' e : TypeId} {kd kd' : IntKind} {x y : Operand} {m : Nat} {id' k bytes : Nat} {i : TypeInfo} {z : Value}
    (ho : o.op = .call { callee := .builtin .append, args := #[x, y], argTypes := #[t, t'] }) (ht : P.underlying t = some (.slice e)) (hi0 : P.info? e = some i) (hik : i.size = k) (hib : i.bytes = bytes) (hiz : i.zero = some z) (hzk : z.cells.size = k) (hz1 : ∀ u ∈ z.cells.toList, u.oneCell' = true)
    (hd : P.underlying t' = some (.int kd)) (hk0 : 0 < k) (hx : st.ev x = .nils) (hy : st.ev y = .iv (.im (.int kd' (m : Int)))) (hpos : 0 < m)
    (hm : m ≤ maxLen) (hby : m * bytes ≤ 140737488355328) (hf : st.fresh id' = true) :
    Makes P c st o (.bsh id' 0 m k) ((id', ⟨e, .r [] (m * k)⟩) :: st.bx) st.tk := fun E a w hi => by
  subst hik; subst hib
  have hyq := hi.im hy
  have h := hi.ev x; rw [hx] at h
  have hq : a.eval x = .slice none 0 0 := by generalize a.eval x = u at h; cases h; rfl
  have hexec : (execOp a.eval o).run P w = ((Builtin.append_ #[t, t'] o.type #[a.eval x, a.eval y]).run P w).andThen fun v w' => .ok (.value v) w' := by
    simp [execOp, ho, resolve, invoke, builtin]
  have hrun := Lib.run_append_grow_zeros w t t' o.type e i z kd' kd ht hd hi0 hiz none 0 0 [] (by simp [Builtin.firstCells]) m hpos hk0 (by omega) (by simp only [maxLen] at hm; omega) (by omega) (growslice_fits (by omega) (by simpa using hby))
  simp only [Nat.zero_add] at hrun
  have hge : m ≤ grownCap w m 0 e := grownCap_ge _ _ _ _
  have hcm := grownCap_le_maxLen w m 0 e hm
  have hlen : ((Builtin.zeroCells z.cells m).toList ++ (Builtin.zeroCells z.cells (grownCap w m 0 e - m)).toList).length = grownCap w m 0 e * i.size := by
    simp only [List.length_append, Array.length_toList, size_zeroCells, hzk]
    rw [← Nat.add_mul]; congr 1; omega
  have hul : (Builtin.zeroCells z.cells m).toList.length = m * i.size := by rw [Array.length_toList, size_zeroCells, hzk]
  have hz0 : ∀ (q : Nat) (u : Value), u ∈ (Builtin.zeroCells z.cells q).toList → u.oneCell' = true := fun q u hu => by
    simp only [Builtin.zeroCells, Array.toList_map, Array.toList_range, List.mem_map, List.mem_range] at hu
    obtain ⟨p, _, rfl⟩ := hu
    have hlt : p % z.cells.size < z.cells.size := Nat.mod_lt _ (by rw [hzk]; exact hk0)
    rw [getElem!_pos z.cells _ hlt]
    exact hz1 _ (by simp)
  have hi' := hi.drew.newRoom hf (ty := e) (cs := List.replicate (m * i.size) AV.any) (us := (Builtin.zeroCells z.cells m).toList ++ (Builtin.zeroCells z.cells (grownCap w m 0 e - m)).toList) (capV i.size (grownCap w m 0 e))
    (by rw [hlen, List.length_replicate]; exact Nat.mul_le_mul_right _ hge)
    (fun p x u hx hu => by
      simp only [List.getElem?_replicate] at hx
      split at hx
      · cases hx; exact .any
      · cases hx)
    (fun u hu => by
      rcases List.mem_append.1 hu with hu | hu
      · exact hz0 _ u hu
      · exact hz0 _ u hu)
    (ments_any _ _) (fun k' cap' he => by
      obtain ⟨rfl, rfl⟩ := capV_inj he
      exact Nat.le_of_eq hlen.symm)
  refine ⟨_, _, _, ?_, hi'.recell (b' := ⟨e, .r [] (m * i.size)⟩) rfl (Subs.of_eq (by simp)), .bsh (cap := grownCap w m 0 e) (o := 0) (by omega) hcm (by simp [Env.upd]) (fun _ => by simp) rfl⟩
  rw [hexec, hq, hyq, hrun]
  simp [Env.upd]
  congr 2
  apply Array.ext'
  simp
theorem L.appendH (N : Nat) {t t' e : TypeId} {dd : TypeDesc} {x y : Operand} {id k bytes d : Nat} {i : TypeInfo} {z : Value} {n mm : Nat} {es news : List (List IV)} (hg : o.guard = none) (hdst : o.dst = some d) (hlt : Nat.ble (d + 1) c.nt = true)
    (ho : o.op = .call { callee := .builtin .append, args := #[x, y], argTypes := #[t, t'] }) (ht : P.underlying t = some (.slice e)) (hi0 : P.info? e = some i) (hik : i.size = k) (hib : i.bytes = bytes) (hiz : i.zero = some z) (hzk : z.cells.size = k) (hz1 : ∀ u ∈ z.cells.toList, u.oneCell' = true)
    (hd : P.underlying t' = some dd) (hn : notInt dd) (hk0 : 0 < k) (hx : st.ev x = .bsh id 0 n k) (hb : st.bx.lookup id = some ⟨e, .r es.flatten mm⟩) (hbn : es.flatten ≠ [] ∨ 0 < mm) (hk : ∀ e ∈ es, e.length = k) (hnle : n ≤ es.length) (hnk : ∀ e ∈ news, e.length = k) (hy : Adds P c st y k news) (hne : news ≠ [])
    (hm : n + news.length ≤ maxLen) (hby : (n + news.length) * bytes ≤ 140737488355328) (hf : st.fresh N = true)
    (h : L c ⟨(d, .bsh N 0 (n + news.length) k) :: st.fr, (N, ⟨e, .r (es.take n ++ news).flatten 0⟩) :: (id, ⟨e, .l []⟩) :: st.bx, st.tk⟩ (wpList P ops Q rest)) : L c st (wpList P ops Q (o :: rest)) := by
  subst hik; subst hib
  rintro a w ⟨E, hi⟩
  have hbn' := row_ne (bt := e) hbn
  have hne' : id ≠ N := (St.fresh_bx hf hb).1
  have hv := hi.ev x; rw [hx] at hv
  obtain ⟨cap, o', hq, hn1, hmx, he, hoo⟩ := hv.bsh_inv
  simp only [Nat.sub_zero, Nat.zero_mul, Nat.zero_add] at hq hn1 hoo
  have hfl := flatten_len es hk
  have hnl := flatten_len news hnk
  have hpos : 0 < news.length := List.length_pos_iff.2 hne
  have htl : ((es.take n).flatten).length = n * i.size := by rw [flatten_len _ (mem_take_len hk), List.length_take]; congr 1; omega
  have hkr : ∀ e ∈ es.take n ++ news, e.length = i.size := fun e he => by
    rcases List.mem_append.1 he with h | h
    · exact hk e (List.mem_of_mem_take h)
    · exact hnk e h
  have hrl : (es.take n ++ news).length = n + news.length := by simp; omega
  have hrf : (es.take n ++ news).flatten.length = (n + news.length) * i.size := by rw [flatten_len _ hkr, hrl]
  by_cases hroom : n + news.length ≤ cap
  · -- in place
    have hoe : o' = 0 := hoo (by omega)
    subst hoe
    obtain ⟨us, hsrc, hul, h1u, hur⟩ := hy E a w hi
    obtain ⟨h0, arr, ha, hla, h1, hra, hη⟩ := hi.heap.box id _ hb hbn'
    have hcap := hη i.size cap he
    have hmul : (n + news.length) * i.size ≤ cap * i.size := Nat.mul_le_mul_right _ hroom
    rw [Nat.add_mul] at hmul
    have hap := app_room2 (ty := o.type) ht hd hn hi0 hsrc.1 hsrc.2.1 ha h1u hroom (n := n) (by rw [hul]; simp; omega)
    have hrun : (execOp a.eval o).run P w = .ok (.value (.slice (some ⟨E.ρ id, 0, none⟩) (n + news.length) cap)) (w.setRow (E.ρ id) ((arr.take (n * i.size) ++ us ++ arr.drop (n * i.size + us.length)).toArray)) := by
      simp [execOp, ho, resolve, invoke, builtin, hq, hap]
    have hrel : RelL E w ((es.take n ++ news).flatten.map .iv ++ List.replicate (arr.length - (n + news.length) * i.size) .any) (arr.take (n * i.size) ++ us ++ arr.drop (n * i.size + us.length)) := by
      refine ⟨by simp only [List.length_append, List.length_map, List.length_replicate, List.length_take, List.length_drop, hrf, hul, Nat.add_mul]; omega, fun p x u hxp hup => ?_⟩
      rw [List.getElem?_append] at hxp
      split at hxp
      · rename_i hlt'
        rw [List.length_map, hrf, Nat.add_mul] at hlt'
        rw [List.getElem?_map, Option.map_eq_some_iff] at hxp
        obtain ⟨y0, hy0, rfl⟩ := hxp
        rw [List.flatten_append, List.getElem?_append, htl] at hy0
        rw [List.append_assoc, List.getElem?_append, List.length_take] at hup
        by_cases hp : p < n * i.size
        · rw [if_pos hp] at hy0
          rw [if_pos (by omega), List.getElem?_take, if_pos hp] at hup
          refine hra p _ u ?_ hup
          rw [← flat_take es n hk, List.getElem?_take, if_pos hp] at hy0
          simp only [Box.cs_r]
          rw [List.getElem?_append_left (by rw [List.length_map]; exact (List.getElem?_eq_some_iff.1 hy0).1), List.getElem?_map, hy0]; rfl
        · rw [if_neg hp] at hy0
          rw [if_neg (by omega)] at hup
          have : min (n * i.size) arr.length = n * i.size := by omega
          rw [this, List.getElem?_append_left (by rw [hul]; omega)] at hup
          obtain ⟨e', h2, h3⟩ := flatten_get hk0 news _ y0 hnk hy0
          have hpp : (p - n * i.size) / i.size * i.size + (p - n * i.size) % i.size = p - n * i.size := by rw [Nat.mul_comm]; exact Nat.div_add_mod _ _
          exact .iv (hur _ e' _ y0 u h2 h3 (by rw [hpp]; exact hup))
      · simp only [List.getElem?_replicate] at hxp
        split at hxp
        · cases hxp; exact .any
        · cases hxp
    have hus1 : ∀ u ∈ arr.take (n * i.size) ++ us ++ arr.drop (n * i.size + us.length), u.oneCell' = true := fun u hu => by
      rcases List.mem_append.1 hu with hu | hu
      · rcases List.mem_append.1 hu with hu | hu
        · exact h1 u (List.mem_of_mem_take hu)
        · exact h1u u hu
      · exact h1 u (List.mem_of_mem_drop hu)
    have husl : (arr.take (n * i.size) ++ us ++ arr.drop (n * i.size + us.length)).length = arr.length := by
      simp only [List.length_append, List.length_take, List.length_drop, hul]; omega
    have hi2 := (hi.setBox hb hbn' (arr := arr) (rest := []) (by simpa using ha) (by simp) husl hrel hus1).recell (b' := ⟨e, .r (es.take n ++ news).flatten (arr.length - (n + news.length) * i.size)⟩) rfl (Subs.of_eq rfl)
    rw [List.append_nil] at hi2
    refine wpList_plain hg (fun K hK => Oper.wp_value hrun (hK _ _ ?_))
    rw [hdst]
    have hXn : (es.take n ++ news).flatten ≠ [] := fun e0 => by
      rw [e0] at hrf
      have : 0 < (n + news.length) * i.size := Nat.mul_pos (by omega) hk0
      simp at hrf; omega
    have hL : L c ⟨(d, .bsl id 0 (n + news.length) cap) :: st.fr, (id, ⟨e, .r (es.take n ++ news).flatten (arr.length - (n + news.length) * i.size)⟩) :: st.bx, st.tk⟩ (wpList P ops Q rest) := by
      refine L.rename d N i.size lookup_cons_eq lookup_cons_eq ?_ (.inl hXn) (by rw [hrf, Nat.add_mul]; omega) ?_
      · simp only [St.fresh, List.all_cons, AV.ment, Box.ment] at hf ⊢
        simp only [Bool.and_eq_true] at hf ⊢
        have e1 : (id == N) = false := by simpa using hne'
        have e2 : (id != N) = true := by simpa using hne'
        simp [e1, e2, hf.1.1, hf.1.2, hf.2]
      refine L.wk (st' := ⟨(d, .bsh N 0 (n + news.length) i.size) :: st.fr, (N, ⟨e, .r (es.take n ++ news).flatten 0⟩) :: (id, ⟨e, .l []⟩) :: st.bx, st.tk⟩) ⟨fun i hin => ?_, fun s v hs => ?_, fun i b hi => ?_, fun i t h => h⟩ h
      · have h3 := (hi2.heap.ins i hin).2.2
        simp only at h3 ⊢
        by_cases e1 : i = N
        · subst e1; rw [lookup_cons_eq]; rfl
        · rw [lookup_cons_ne e1]
          by_cases e2 : i = id
          · subst e2; rw [lookup_cons_eq]; rfl
          · rw [lookup_cons_ne e2] at h3 ⊢; exact h3
      · simp only at hs ⊢
        by_cases e1 : s = d
        · subst e1; rw [lookup_cons_eq] at hs ⊢; exact ⟨v, hs, Sub.refl _⟩
        · rw [lookup_cons_ne e1] at hs; rw [lookup_cons_ne e1, lookup_cons_ne e1]; exact ⟨v, hs, Sub.refl _⟩
      · simp only at hi ⊢
        by_cases e1 : i = N
        · subst e1; rw [lookup_cons_eq] at hi ⊢; cases hi
          exact ⟨_, rfl, rfl, Subs.of_eq (by rw [Box.cs_r, Box.cs_r, List.take_of_length_le (by rw [hrf]; exact Nat.le_refl _)])⟩
        · rw [lookup_cons_ne e1] at hi ⊢
          by_cases e2 : i = id
          · subst e2; rw [lookup_cons_eq] at hi ⊢; exact ⟨b, hi, rfl, Subs.refl _⟩
          · rw [lookup_cons_ne e2] at hi; rw [lookup_cons_ne e2, lookup_cons_ne e2]; exact ⟨b, hi, rfl, Subs.refl _⟩
    exact hL _ _ ⟨E, hi2.put (st := ⟨st.fr, _, st.tk⟩) (Nat.le_of_ble_eq_true hlt) (.bsl (o := 0) hroom hmx (fun _ => rfl) rfl)⟩
  · -- in a new block
    have hold : (((⟨e, .r es.flatten mm⟩ : Box).cs.drop 0).take (n * i.size)) = (es.take n).flatten.map AV.iv := by
      simp only [Box.cs_r, List.drop_zero]
      have : n * i.size ≤ es.length * i.size := Nat.mul_le_mul_right _ hnle
      rw [List.take_append_of_le_length (by rw [List.length_map, hfl]; exact this), ← List.map_take, flat_take es n hk]
    obtain ⟨u, E', w', hrun, hi2, hu⟩ := growB_core (c := c) hi ho ht hi0 rfl rfl hiz hzk hz1 hd hn hk0 hq hoo hn1 hb hold (by rw [List.length_map, htl]) (by omega) hnk hy hne hm hby hf rfl (ments_iv _ _) (ments_iv _ _)
    have hi3 := hi2.recell (b' := ⟨e, .r (es.take n ++ news).flatten 0⟩) rfl (Subs.of_eq (by simp))
    refine wpList_plain hg (fun K hK => Oper.wp_value hrun (hK _ _ ?_))
    rw [hdst]
    have hL : L c ⟨(d, .bsh N 0 (n + news.length) i.size) :: st.fr, (N, ⟨e, .r (es.take n ++ news).flatten 0⟩) :: st.bx, st.tk⟩ (wpList P ops Q rest) := by
      refine L.kill id (b := ⟨e, .r es.flatten mm⟩) (by simp only; rw [lookup_cons_ne hne']; exact hb) hbn' ?_
      refine L.wk (st' := ⟨(d, .bsh N 0 (n + news.length) i.size) :: st.fr, (N, ⟨e, .r (es.take n ++ news).flatten 0⟩) :: (id, ⟨e, .l []⟩) :: st.bx, st.tk⟩) ⟨fun i hin => ?_, fun s v hs => ⟨v, hs, Sub.refl _⟩, fun i b hi => ?_, fun i t h => h⟩ h
      · have h3 := (hi3.heap.ins i hin).2.2
        simp only at h3 ⊢
        by_cases e1 : i = N
        · subst e1; rw [lookup_cons_eq]; rfl
        · rw [lookup_cons_ne e1] at h3 ⊢
          by_cases e2 : i = id
          · subst e2; rw [lookup_cons_eq]; rfl
          · rw [lookup_cons_ne e2]; exact h3
      · simp only at hi ⊢
        by_cases e1 : i = N
        · subst e1; rw [lookup_cons_eq] at hi; rw [lookup_cons_ne (Ne.symm hne'), lookup_cons_eq]; exact ⟨b, hi, rfl, Subs.refl _⟩
        · rw [lookup_cons_ne e1] at hi
          by_cases e2 : i = id
          · subst e2; rw [lookup_cons_eq] at hi ⊢; exact ⟨b, hi, rfl, Subs.refl _⟩
          · rw [lookup_cons_ne e2] at hi; rw [lookup_cons_ne e2, lookup_cons_ne e1]; exact ⟨b, hi, rfl, Subs.refl _⟩
    exact hL _ _ ⟨E', hi3.put (st := ⟨st.fr, _, st.tk⟩) (Nat.le_of_ble_eq_true hlt) hu⟩
def unr (P : Program) (x : Code) (Q : Exit → Act → World → Prop) : Nat → Act → World → Prop
  | 0 => fun _ _ => False
  | n + 1 => x.wp P (Exit.then (unr P x Q n) Q)
theorem L.unrS {x : Code} {n : Nat} (h : L c st (x.wp P (Exit.then (unr P x Q n) Q))) : L c st (unr P x Q (n + 1)) := h
theorem L.unroll (n : Nat) {x : Code} (h : L c st (unr P x Q n)) : L c st ((Code.loop x).wp P Q) := by
  have key : ∀ (n : Nat) (a : Act) (w : World), unr P x Q n a w → ∀ (b : Frame) (k : List Item) (cs : List Frame),
      ∃ e a' w', Q e a' w' ∧ Arrives P (lone (b.at a (.code x :: .inLoop x :: k)) cs w) b k cs e a' w' := by
    intro n
    induction n with
    | zero => intro a w h; exact h.elim
    | succ n ih =>
      intro a w hr b k cs
      obtain ⟨e, a₁, w₁, hq, harr⟩ := hr b (.inLoop x :: k) cs
      cases e with
      | normal =>
        obtain ⟨e₂, a₂, w₂, hq₂, harr₂⟩ := ih a₁ w₁ hq b k cs
        exact ⟨e₂, a₂, w₂, hq₂, .of_steps (Steps.trans harr (.one step_inLoop)) harr₂⟩
      | exit id => exact ⟨_, a₁, w₁, hq, .pass (x := .inLoop x) rfl (fun _ _ => .inl (by simp)) harr⟩
      | goto l => exact ⟨_, a₁, w₁, hq, .pass (x := .inLoop x) rfl (fun _ _ => .inl (by simp)) harr⟩
      | ret => exact ⟨_, a₁, w₁, hq, .pass (x := .inLoop x) rfl (fun _ _ => .inl (by simp)) harr⟩
      | panic ch => exact ⟨_, a₁, w₁, hq, .pass (x := .inLoop x) rfl (fun _ _ => .inl (by simp)) harr⟩
      | outgrown => exact ⟨_, a₁, w₁, hq, .pass (x := .inLoop x) rfl (fun _ _ => .inl (by simp)) harr⟩
  intro a w hr b k cs
  obtain ⟨e, a', w', hq, harr⟩ := key n a w (h a w hr) b k cs
  exact ⟨e, a', w', hq, .of_steps (.one step_loop) harr⟩
theorem L.call01N {f : FuncId} {args : Array Operand} {ats : Array TypeId} {as : List AV} {d k n m : Nat} {ty : TypeId} {xs : List IV} (hg : o.guard = none) (hd : o.dst = some d) (hlt : Nat.ble (d + 1) c.nt = true) (ho : o.op = .call { callee := .value (.func f), args := args, argTypes := ats }) (hok : callOk P f = true)
    (hc : CallA P f as [] [(1000, ⟨ty, .r xs m⟩)] [] (.bsh 1000 0 n k)) (ha : args.toList.map st.ev = as) (hm : AV.mentsIn [] as = true) (hf : st.fresh d = true)
    (h : L c ⟨(d, .bsh d 0 n k) :: st.fr, (d, ⟨ty, .r xs m⟩) :: st.bx, st.tk⟩ (wpList P ops Q rest)) : L c st (wpList P ops Q (o :: rest)) := by
  have hs : Abs.sws [(1000, d)] 1000 = d := sws_hd _ _ _
  have h2 := hc.sws [(1000, d)] (AV.rens_id as hm) (bx2 := []) (bx2' := [(d, ⟨ty, .r xs m⟩)]) (tk2' := []) (res2 := .bsh d 0 n k) rfl (by simp [renB, hs, Box.ren]) rfl (by simp [AV.ren, hs])
  exact L.callN (bxi := []) [d] hg hd hlt ho hok h2 (ha ▸ Subs.refl _) .nil (by simp [hf]) (by simp [boOk, keys]) rfl (by simp [AV.mentsIn_iv, AV.mentsIn_app, AV.mentsIn_any]) (by simp [AV.mentIn]) h
theorem L.callJ (N : Nat) {f : FuncId} {args : Array Operand} {ats : Array TypeId} {as : List AV} {d q a k n n' : Nat} {t1 t2 : TypeId} {xs ys : List IV} {res : AV} (hg : o.guard = none) (hd : o.dst = some d) (hlt : Nat.ble (d + 1) c.nt = true) (ho : o.op = .call { callee := .value (.func f), args := args, argTypes := ats }) (hok : callOk P f = true)
    (hc : CallA P f (.ptr 1000 0 :: as) [(1000, ⟨t1, .l [.bsh 1001 0 n k]⟩), (1001, ⟨t2, .r xs 0⟩)] [(1000, ⟨t1, .l [.bsh 1002 0 n' k]⟩), (1002, ⟨t2, .r ys 0⟩), (1001, ⟨t2, .l []⟩)] [] res)
    (ha : AV.pub.pubs (args.toList.map st.ev) = .ptr q 0 :: as) (hb : st.bx.lookup q = some ⟨t1, .l [.bsh a 0 n k]⟩) (hb2 : st.bx.lookup a = some ⟨t2, .r xs 0⟩) (hx : xs ≠ []) (hqa : (q == a) = false) (hm : AV.mentsIn [] as = true) (hr : AV.mentIn [] res = true) (hf : st.fresh N = true)
    (h : L c ⟨(d, res) :: st.fr, (q, ⟨t1, .l [.bsh N 0 n' k]⟩) :: (N, ⟨t2, .r ys 0⟩) :: (a, ⟨t2, .l []⟩) :: st.bx, st.tk⟩ (wpList P ops Q rest)) : L c st (wpList P ops Q (o :: rest)) := by
  have hne := fresh_ne hf hb
  have hne2 := fresh_ne hf hb2
  have hqa' : q ≠ a := by simpa using hqa
  have hs : Abs.sws [(1002, N), (1001, a), (1000, q)] 1000 = q := sws_tl (by decide) (sws_tl (by decide) (sws_hd _ _ _) hqa') hne
  have hs1 : Abs.sws [(1002, N), (1001, a), (1000, q)] 1001 = a := sws_tl (by decide) (sws_hd _ _ _) hne2
  have hs2 : Abs.sws [(1002, N), (1001, a), (1000, q)] 1002 = N := sws_hd _ _ _
  have h2 := hc.sws [(1002, N), (1001, a), (1000, q)] (args2 := .ptr q 0 :: as) (bx2 := [(q, ⟨t1, .l [.bsh a 0 n k]⟩), (a, ⟨t2, .r xs 0⟩)]) (bx2' := [(q, ⟨t1, .l [.bsh N 0 n' k]⟩), (N, ⟨t2, .r ys 0⟩), (a, ⟨t2, .l []⟩)]) (tk2' := []) (res2 := res)
    (by simp [AV.rens, AV.ren, hs, AV.rens_id as hm]) (by simp [renB, hs, hs1, Box.ren, AV.rens, AV.ren]) (by simp [renB, hs, hs1, hs2, Box.ren, AV.rens, AV.ren]) rfl (AV.ren_id res hr)
  exact L.callN (bxi := [(q, ⟨t1, .l [.bsh a 0 n k]⟩), (a, ⟨t2, .r xs 0⟩)]) [N] hg hd hlt ho hok h2 (.of_pub ha) (.cons hb rfl (Subs.refl _) (.cons hb2 rfl (Subs.refl _) .nil)) (by simp [hf]) (by simp [boOk, keys, hx]) rfl (by simp [AV.mentsIn_iv, AV.mentsIn, AV.mentIn, keys]) (mentIn_mono res hr) h
end
end Go.Abs
/- A logic of abstract states, part 26: rows that grow in the cells of a box. Conditions: each rule's own premises; over any program. -/
namespace Go.Abs
open Go.RowKit (Below)
set_option linter.unusedVariables false
set_option linter.unusedSimpArgs false
variable {P : Program} {c : Ctx} {st : St}
theorem Box.ren_id {π : Nat → Nat} {b : Box} (h : AV.mentsIn [] b.cs = true) : b.ren π = b := by
  obtain ⟨ty, cc⟩ := b
  cases cc with
  | l cs => simp only [Box.cs_l] at h; simp only [Box.ren]; rw [AV.rens_id cs h]
  | r xs m => rfl
theorem L.callGN {gs : Globs} (N : List Nat) {o : Oper} {ops : Array Oper} {rest : List Oper} {Q : Exit → Act → World → Prop} {f : FuncId} {args : Array Operand} {ats : Array TypeId} {as : List AV} {bxi bxo : List (Nat × Box)} {tko : List (Nat × Tok)} {res : AV} {d : Nat} (hg : o.guard = none) (hd : o.dst = some d) (hlt : Nat.ble (d + 1) c.nt = true) (hG : Glob gs c.E0 c.w0)
    (ho : o.op = .call { callee := .value (.func f), args := args, argTypes := ats }) (hok : callOk P f = true) (hc : CallG gs P f as bxi bxo tko res) (ha : Subs (args.toList.map st.ev) as) (hbi : WkB st.bx bxi)
    (hN : N.all (fun id => st.fresh id) = true) (hbo : boOk N bxi bxo = true) (hto : (keys tko).all (fun id => N.contains id) = true)
    (hmb : bxo.all (fun p => AV.mentsIn (N ++ keys bxi) p.2.cs) = true) (hmr : AV.mentIn (N ++ keys bxi) res = true)
    (h : L c ⟨(d, res) :: st.fr, bxo ++ st.bx, tko ++ st.tk⟩ (wpList P ops Q rest)) : L c st (wpList P ops Q (o :: rest)) :=
  L.enterG N hg hd hlt hG (fun E a w hi => ⟨args.toList.map a.eval, by
    have hargs : (args.toList.map a.eval).toArray = args.map a.eval := by apply Array.ext'; simp
    rw [hargs]
    simp [execOp, ho, resolve, Deferred.ofValue, Act.eval, invoke, run_callOk hok], (hi.evs args).sub ha⟩) hc hbi hN hbo hto hmb hmr h
theorem CallG.at1 {gs : Globs} {f : FuncId} {as1 as : List AV} {q : Nat} {b b' : Box} {res : AV} (hc : CallG gs P f as1 [(1000, b)] [(1000, b')] [] res) (h1 : AV.rens (Abs.sws [(1000, q)]) as1 = as) (hm : AV.mentsIn [] b.cs = true) (hm' : AV.mentsIn [] b'.cs = true) (hr : AV.mentIn [] res = true) :
    CallG gs P f as [(q, b)] [(q, b')] [] res := by
  have hs : Abs.sws [(1000, q)] 1000 = q := sws_hd _ _ _
  exact hc.sws [(1000, q)] h1 (by simp [renB, hs, Box.ren_id hm]) (by simp [renB, hs, Box.ren_id hm']) rfl (AV.ren_id res hr)
theorem L.callQ1 {gs : Globs} {o : Oper} {ops : Array Oper} {rest : List Oper} {Q : Exit → Act → World → Prop} {f : FuncId} {args : Array Operand} {ats : Array TypeId} {as : List AV} {d q : Nat} {b b' : Box} {res : AV} (hg : o.guard = none) (hd : o.dst = some d) (hlt : Nat.ble (d + 1) c.nt = true) (ho : o.op = .call { callee := .value (.func f), args := args, argTypes := ats }) (hok : callOk P f = true)
    (hG : Glob gs c.E0 c.w0) (hc : CallG gs P f as [(q, b)] [(q, b')] [] res) (ha : AV.pub.pubs (args.toList.map st.ev) = as) (hb : st.bx.lookup q = some b) (hbn : b.cs.isEmpty = false) (hm' : AV.mentsIn [] b'.cs = true) (hr : AV.mentIn [] res = true)
    (h : L c ⟨(d, res) :: st.fr, (q, b') :: st.bx, st.tk⟩ (wpList P ops Q rest)) : L c st (wpList P ops Q (o :: rest)) :=
  L.callGN (bxi := [(q, b)]) [] hg hd hlt hG ho hok hc (.of_pub ha) (.cons hb rfl (Subs.refl _) .nil) rfl (by simp [boOk, keys, hbn]) rfl (by simp [mentsIn_mono _ hm']) (mentIn_mono _ hr) h
theorem Wk.mkX {fr : List (Nat × AV)} {bx : List (Nat × Box)} {tk : List (Nat × Tok)} (h0 : ∀ id ∈ c.ins, (bx.lookup id).isSome = true) (h1 : WkF st.fr fr) (h2 : ∀ s v, bx.lookup s = some v → st.bx.lookup s = some v) (h3 : WkT st.tk tk) : Wk c st ⟨fr, bx, tk⟩ :=
  ⟨h0, h1.get, fun s v hv => ⟨v, h2 s v hv, rfl, Subs.refl _⟩, h3.get⟩
theorem keys_some {bx : List (Nat × Box)} : ∀ id ∈ keys bx, (bx.lookup id).isSome = true := fun id hid => by
  obtain ⟨b, hb⟩ := mem_keys hid; rw [hb]; rfl
theorem lookup_app {bx : List (Nat × Box)} {bx' : List (Nat × Box)} {s : Nat} {v : Box} (h : bx.lookup s = some v) : (bx ++ bx').lookup s = some v := by
  rw [List.lookup_append, h]; rfl
end Go.Abs
/- A logic of abstract states, part 11: the rules of parts 3 to 10 in the form in which a walk uses them: over an operation that is written out; closed facts on types come as instances. Conditions: each rule's own premises; over any program. -/
namespace Go.Abs
set_option linter.unusedVariables false
class VarTy (P : Program) (t : TypeId) (agg : outParam Bool) (k : outParam Nat) : Prop where
  h : varOk P t agg k = true
class FieldTy (P : Program) (s : TypeId) (f : Nat) (fo : outParam Nat) : Prop where
  h : fieldOk P s f fo = true
class SliceTy (P : Program) (t : TypeId) (e : outParam TypeId) (k : outParam Nat) : Prop where
  h : sliceOk P t e k = true
class StrTy (P : Program) (t : TypeId) : Prop where
  h : P.underlying t = some .string
class IntTy (P : Program) (t : TypeId) (k : outParam IntKind) : Prop where
  h : P.underlying t = some (.int k)
class ZeroTy (P : Program) (t : TypeId) (zs : outParam (List Value)) : Prop where
  h : zeroCellsOf P t = some zs
class PlacesTy (P : Program) (t : TypeId) (pl : outParam (List (Nat × Nat))) : Prop where
  h : placesOf P t = some pl
class CallTy (P : Program) (f : FuncId) : Prop where
  h : callOk P f = true
class EqTy (P : Program) (t : TypeId) (ks : outParam (List Nat)) : Prop where
  h : eqOk P t ks = true
class MixTy (P : Program) : Prop where
  h : P.follows .mixedOrders = true
def appOk (P : Program) (t : TypeId) (e : TypeId) (k bytes : Nat) : Bool :=
  sliceOk P t e k && (match P.info? e with | some i => i.bytes == bytes && (match i.zero with | some z => z.cells.size == k | none => false) | none => false) && (Nat.ble 1 k && Nat.ble bytes 100000)
class AppTy (P : Program) (t : TypeId) (e : outParam TypeId) (k bytes : outParam Nat) : Prop where
  h : appOk P t e k bytes = true
theorem appOk_run {P : Program} {t e : TypeId} {k bytes : Nat} (h : appOk P t e k bytes = true) :
    P.underlying t = some (.slice e) ∧ 0 < k ∧ ∃ (i : TypeInfo) (z : Value), P.info? e = some i ∧ i.size = k ∧ i.bytes = bytes ∧ i.zero = some z ∧ z.cells.size = k ∧ bytes ≤ 100000 := by
  unfold appOk at h
  simp only [Bool.and_eq_true] at h
  obtain ⟨⟨h1, h2⟩, h3, h6⟩ := h
  obtain ⟨hu, i, hi, hs⟩ := sliceOk_run h1
  rw [hi] at h2
  simp only [Bool.and_eq_true, beq_iff_eq] at h2
  obtain ⟨h4, h5⟩ := h2
  cases hz : i.zero with
  | none => rw [hz] at h5; simp at h5
  | some z => rw [hz] at h5; exact ⟨hu, Nat.le_of_ble_eq_true h3, i, z, hi, hs, h4, hz, by simpa using h5, Nat.le_of_ble_eq_true h6⟩
theorem zero_alloc {P : Program} {t : TypeId} {zs : List Value} (h : zeroCellsOf P t = some zs) : ∃ z, (P.info? t).bind (·.zero) = some z ∧ z.cells.toList = zs := by
  unfold zeroCellsOf at h
  exact Option.map_eq_some_iff.1 h
def LW (P : Program) (c : Ctx) (st : St) (ops : Array Oper) (Q : Exit → Act → World → Prop) (l : List Oper) : Prop := L c st (wpList P ops Q l)
section
variable {P : Program} {c : Ctx} {fr : List (Nat × AV)} {bx : List (Nat × Box)} {tk : List (Nat × Tok)} {ops : Array Oper} {Q : Exit → Act → World → Prop} {rest : List Oper}
  {d : Nat} {ty : TypeId} {pos : String} {aft : Array Edge}
theorem s_mvIv {x : Operand} {y : IV} (hlt : Nat.ble (d + 1) c.nt = true) (hx : St.ev ⟨fr, bx, tk⟩ x = .iv y)
    (h : LW P c ⟨(d, .iv y) :: fr, bx, tk⟩ ops Q rest) : LW P c ⟨fr, bx, tk⟩ ops Q (⟨some d, .move x, ty, pos, aft, none⟩ :: rest) :=
  L.val (st := ⟨fr, bx, tk⟩) rfl rfl hlt (hx ▸ .move rfl) h
theorem s_mvRow {x : Operand} {id : Nat} {es : List (List IV)} (hlt : Nat.ble (d + 1) c.nt = true) (hx : St.ev ⟨fr, bx, tk⟩ x = .row id es)
    (h : LW P c ⟨(d, .row id es) :: fr, bx, tk⟩ ops Q rest) : LW P c ⟨fr, bx, tk⟩ ops Q (⟨some d, .move x, ty, pos, aft, none⟩ :: rest) :=
  L.val (st := ⟨fr, bx, tk⟩) rfl rfl hlt (hx ▸ .move rfl) h
theorem s_mvPtr {x : Operand} {id off : Nat} (hlt : Nat.ble (d + 1) c.nt = true) (hx : St.ev ⟨fr, bx, tk⟩ x = .ptr id off)
    (h : LW P c ⟨(d, .ptr id off) :: fr, bx, tk⟩ ops Q rest) : LW P c ⟨fr, bx, tk⟩ ops Q (⟨some d, .move x, ty, pos, aft, none⟩ :: rest) :=
  L.val (st := ⟨fr, bx, tk⟩) rfl rfl hlt (hx ▸ .move rfl) h
theorem s_mvNil {x : Operand}  (hlt : Nat.ble (d + 1) c.nt = true) (hx : St.ev ⟨fr, bx, tk⟩ x = .nils)
    (h : LW P c ⟨(d, .nils) :: fr, bx, tk⟩ ops Q rest) : LW P c ⟨fr, bx, tk⟩ ops Q (⟨some d, .move x, ty, pos, aft, none⟩ :: rest) :=
  L.val (st := ⟨fr, bx, tk⟩) rfl rfl hlt (hx ▸ .move rfl) h
theorem s_mvTup {x : Operand} {vs : List AV} (hlt : Nat.ble (d + 1) c.nt = true) (hx : St.ev ⟨fr, bx, tk⟩ x = .tup vs)
    (h : LW P c ⟨(d, .tup vs) :: fr, bx, tk⟩ ops Q rest) : LW P c ⟨fr, bx, tk⟩ ops Q (⟨some d, .move x, ty, pos, aft, none⟩ :: rest) :=
  L.val (st := ⟨fr, bx, tk⟩) rfl rfl hlt (hx ▸ .move rfl) h
theorem s_mvFn {x : Operand} {f : FuncId} {cs : List AV} (hlt : Nat.ble (d + 1) c.nt = true) (hx : St.ev ⟨fr, bx, tk⟩ x = .fn f cs)
    (h : LW P c ⟨(d, .fn f cs) :: fr, bx, tk⟩ ops Q rest) : LW P c ⟨fr, bx, tk⟩ ops Q (⟨some d, .move x, ty, pos, aft, none⟩ :: rest) :=
  L.val (st := ⟨fr, bx, tk⟩) rfl rfl hlt (hx ▸ .move rfl) h
theorem s_asIv {x : Operand} {y : IV} (hlt : Nat.ble (d + 1) c.nt = true) (hx : St.ev ⟨fr, bx, tk⟩ x = .iv y)
    (h : LW P c ⟨(d, .iv y) :: fr, bx, tk⟩ ops Q rest) : LW P c ⟨fr, bx, tk⟩ ops Q (⟨some d, .assign x, ty, pos, aft, none⟩ :: rest) :=
  L.val (st := ⟨fr, bx, tk⟩) rfl rfl hlt (hx ▸ .assign rfl) h
theorem s_asRow {x : Operand} {id : Nat} {es : List (List IV)} (hlt : Nat.ble (d + 1) c.nt = true) (hx : St.ev ⟨fr, bx, tk⟩ x = .row id es)
    (h : LW P c ⟨(d, .row id es) :: fr, bx, tk⟩ ops Q rest) : LW P c ⟨fr, bx, tk⟩ ops Q (⟨some d, .assign x, ty, pos, aft, none⟩ :: rest) :=
  L.val (st := ⟨fr, bx, tk⟩) rfl rfl hlt (hx ▸ .assign rfl) h
theorem s_asNil {x : Operand}  (hlt : Nat.ble (d + 1) c.nt = true) (hx : St.ev ⟨fr, bx, tk⟩ x = .nils)
    (h : LW P c ⟨(d, .nils) :: fr, bx, tk⟩ ops Q rest) : LW P c ⟨fr, bx, tk⟩ ops Q (⟨some d, .assign x, ty, pos, aft, none⟩ :: rest) :=
  L.val (st := ⟨fr, bx, tk⟩) rfl rfl hlt (hx ▸ .assign rfl) h
theorem s_addI {x y : Operand} {t t' : TypeId} {m n : Int} (hlt : Nat.ble (d + 1) c.nt = true) (hx : St.ev ⟨fr, bx, tk⟩ x = aI m) (hy : St.ev ⟨fr, bx, tk⟩ y = aI n) (hlo : -9223372036854775808 ≤ m + n) (hhi : m + n ≤ 9223372036854775807)
    (h : LW P c ⟨(d, aI (m + n)) :: fr, bx, tk⟩ ops Q rest) : LW P c ⟨fr, bx, tk⟩ ops Q (⟨some d, .binOp .add t x y t', ty, pos, aft, none⟩ :: rest) :=
  L.val (st := ⟨fr, bx, tk⟩) rfl rfl hlt (.addI rfl hx hy hlo hhi) h
theorem s_subI {x y : Operand} {t t' : TypeId} {m n : Int} (hlt : Nat.ble (d + 1) c.nt = true) (hx : St.ev ⟨fr, bx, tk⟩ x = aI m) (hy : St.ev ⟨fr, bx, tk⟩ y = aI n) (hlo : -9223372036854775808 ≤ m - n) (hhi : m - n ≤ 9223372036854775807)
    (h : LW P c ⟨(d, aI (m - n)) :: fr, bx, tk⟩ ops Q rest) : LW P c ⟨fr, bx, tk⟩ ops Q (⟨some d, .binOp .sub t x y t', ty, pos, aft, none⟩ :: rest) :=
  L.val (st := ⟨fr, bx, tk⟩) rfl rfl hlt (.subI rfl hx hy hlo hhi) h
theorem s_eqlI {x y : Operand} {t t' : TypeId} {k : IntKind} {m n : Int} (hlt : Nat.ble (d + 1) c.nt = true) (hx : St.ev ⟨fr, bx, tk⟩ x = .iv (.im (.int k m))) (hy : St.ev ⟨fr, bx, tk⟩ y = .iv (.im (.int k n)))
    (h : LW P c ⟨(d, aB (m == n)) :: fr, bx, tk⟩ ops Q rest) : LW P c ⟨fr, bx, tk⟩ ops Q (⟨some d, .binOp .eql t x y t', ty, pos, aft, none⟩ :: rest) :=
  L.val (st := ⟨fr, bx, tk⟩) rfl rfl hlt (.eqlI rfl hx hy) h
theorem s_neqI {x y : Operand} {t t' : TypeId} {k : IntKind} {m n : Int} (hlt : Nat.ble (d + 1) c.nt = true) (hx : St.ev ⟨fr, bx, tk⟩ x = .iv (.im (.int k m))) (hy : St.ev ⟨fr, bx, tk⟩ y = .iv (.im (.int k n)))
    (h : LW P c ⟨(d, aB (m != n)) :: fr, bx, tk⟩ ops Q rest) : LW P c ⟨fr, bx, tk⟩ ops Q (⟨some d, .binOp .neq t x y t', ty, pos, aft, none⟩ :: rest) :=
  L.val (st := ⟨fr, bx, tk⟩) rfl rfl hlt (.neqI rfl hx hy) h
theorem s_lssI {x y : Operand} {t t' : TypeId} {k : IntKind} {m n : Int} (hlt : Nat.ble (d + 1) c.nt = true) (hx : St.ev ⟨fr, bx, tk⟩ x = .iv (.im (.int k m))) (hy : St.ev ⟨fr, bx, tk⟩ y = .iv (.im (.int k n)))
    (h : LW P c ⟨(d, aB (decide (m < n))) :: fr, bx, tk⟩ ops Q rest) : LW P c ⟨fr, bx, tk⟩ ops Q (⟨some d, .binOp .lss t x y t', ty, pos, aft, none⟩ :: rest) :=
  L.val (st := ⟨fr, bx, tk⟩) rfl rfl hlt (.lssI rfl hx hy) h
theorem s_leqI {x y : Operand} {t t' : TypeId} {k : IntKind} {m n : Int} (hlt : Nat.ble (d + 1) c.nt = true) (hx : St.ev ⟨fr, bx, tk⟩ x = .iv (.im (.int k m))) (hy : St.ev ⟨fr, bx, tk⟩ y = .iv (.im (.int k n)))
    (h : LW P c ⟨(d, aB (decide (m ≤ n))) :: fr, bx, tk⟩ ops Q rest) : LW P c ⟨fr, bx, tk⟩ ops Q (⟨some d, .binOp .leq t x y t', ty, pos, aft, none⟩ :: rest) :=
  L.val (st := ⟨fr, bx, tk⟩) rfl rfl hlt (.leqI rfl hx hy) h
theorem s_gtrI {x y : Operand} {t t' : TypeId} {k : IntKind} {m n : Int} (hlt : Nat.ble (d + 1) c.nt = true) (hx : St.ev ⟨fr, bx, tk⟩ x = .iv (.im (.int k m))) (hy : St.ev ⟨fr, bx, tk⟩ y = .iv (.im (.int k n)))
    (h : LW P c ⟨(d, aB (decide (n < m))) :: fr, bx, tk⟩ ops Q rest) : LW P c ⟨fr, bx, tk⟩ ops Q (⟨some d, .binOp .gtr t x y t', ty, pos, aft, none⟩ :: rest) :=
  L.val (st := ⟨fr, bx, tk⟩) rfl rfl hlt (.gtrI rfl hx hy) h
theorem s_geqI {x y : Operand} {t t' : TypeId} {k : IntKind} {m n : Int} (hlt : Nat.ble (d + 1) c.nt = true) (hx : St.ev ⟨fr, bx, tk⟩ x = .iv (.im (.int k m))) (hy : St.ev ⟨fr, bx, tk⟩ y = .iv (.im (.int k n)))
    (h : LW P c ⟨(d, aB (decide (n ≤ m))) :: fr, bx, tk⟩ ops Q rest) : LW P c ⟨fr, bx, tk⟩ ops Q (⟨some d, .binOp .geq t x y t', ty, pos, aft, none⟩ :: rest) :=
  L.val (st := ⟨fr, bx, tk⟩) rfl rfl hlt (.geqI rfl hx hy) h
theorem s_eqlS {x y : Operand} {t t' : TypeId} {m n : List UInt8} (hlt : Nat.ble (d + 1) c.nt = true) (hx : St.ev ⟨fr, bx, tk⟩ x = aS m) (hy : St.ev ⟨fr, bx, tk⟩ y = aS n)
    (h : LW P c ⟨(d, aB (m == n)) :: fr, bx, tk⟩ ops Q rest) : LW P c ⟨fr, bx, tk⟩ ops Q (⟨some d, .binOp .eql t x y t', ty, pos, aft, none⟩ :: rest) :=
  L.val (st := ⟨fr, bx, tk⟩) rfl rfl hlt (.eqlS rfl hx hy) h
theorem s_neqS {x y : Operand} {t t' : TypeId} {m n : List UInt8} (hlt : Nat.ble (d + 1) c.nt = true) (hx : St.ev ⟨fr, bx, tk⟩ x = aS m) (hy : St.ev ⟨fr, bx, tk⟩ y = aS n)
    (h : LW P c ⟨(d, aB (!(m == n))) :: fr, bx, tk⟩ ops Q rest) : LW P c ⟨fr, bx, tk⟩ ops Q (⟨some d, .binOp .neq t x y t', ty, pos, aft, none⟩ :: rest) :=
  L.val (st := ⟨fr, bx, tk⟩) rfl rfl hlt (.neqS rfl hx hy) h
theorem s_lssS {x y : Operand} {t t' : TypeId} {m n : List UInt8} (hlt : Nat.ble (d + 1) c.nt = true) (hx : St.ev ⟨fr, bx, tk⟩ x = aS m) (hy : St.ev ⟨fr, bx, tk⟩ y = aS n)
    (h : LW P c ⟨(d, aB (Op.bytesLess m n)) :: fr, bx, tk⟩ ops Q rest) : LW P c ⟨fr, bx, tk⟩ ops Q (⟨some d, .binOp .lss t x y t', ty, pos, aft, none⟩ :: rest) :=
  L.val (st := ⟨fr, bx, tk⟩) rfl rfl hlt (.lssS rfl hx hy) h
theorem s_leqS {x y : Operand} {t t' : TypeId} {m n : List UInt8} (hlt : Nat.ble (d + 1) c.nt = true) (hx : St.ev ⟨fr, bx, tk⟩ x = aS m) (hy : St.ev ⟨fr, bx, tk⟩ y = aS n)
    (h : LW P c ⟨(d, aB (Op.bytesLess m n || m == n)) :: fr, bx, tk⟩ ops Q rest) : LW P c ⟨fr, bx, tk⟩ ops Q (⟨some d, .binOp .leq t x y t', ty, pos, aft, none⟩ :: rest) :=
  L.val (st := ⟨fr, bx, tk⟩) rfl rfl hlt (.leqS rfl hx hy) h
theorem s_gtrS {x y : Operand} {t t' : TypeId} {m n : List UInt8} (hlt : Nat.ble (d + 1) c.nt = true) (hx : St.ev ⟨fr, bx, tk⟩ x = aS m) (hy : St.ev ⟨fr, bx, tk⟩ y = aS n)
    (h : LW P c ⟨(d, aB (!(Op.bytesLess m n || m == n))) :: fr, bx, tk⟩ ops Q rest) : LW P c ⟨fr, bx, tk⟩ ops Q (⟨some d, .binOp .gtr t x y t', ty, pos, aft, none⟩ :: rest) :=
  L.val (st := ⟨fr, bx, tk⟩) rfl rfl hlt (.gtrS rfl hx hy) h
theorem s_geqS {x y : Operand} {t t' : TypeId} {m n : List UInt8} (hlt : Nat.ble (d + 1) c.nt = true) (hx : St.ev ⟨fr, bx, tk⟩ x = aS m) (hy : St.ev ⟨fr, bx, tk⟩ y = aS n)
    (h : LW P c ⟨(d, aB (!(Op.bytesLess m n))) :: fr, bx, tk⟩ ops Q rest) : LW P c ⟨fr, bx, tk⟩ ops Q (⟨some d, .binOp .geq t x y t', ty, pos, aft, none⟩ :: rest) :=
  L.val (st := ⟨fr, bx, tk⟩) rfl rfl hlt (.geqS rfl hx hy) h
theorem s_addS {x y : Operand} {t t' : TypeId} {m n : List UInt8} (hlt : Nat.ble (d + 1) c.nt = true) (hx : St.ev ⟨fr, bx, tk⟩ x = aS m) (hy : St.ev ⟨fr, bx, tk⟩ y = aS n) (hl : m.length + n.length ≤ 9223372036854775807)
    (h : LW P c ⟨(d, aS (m ++ n)) :: fr, bx, tk⟩ ops Q rest) : LW P c ⟨fr, bx, tk⟩ ops Q (⟨some d, .binOp .add t x y t', ty, pos, aft, none⟩ :: rest) :=
  L.val (st := ⟨fr, bx, tk⟩) rfl rfl hlt (.addS rfl hx hy hl) h
theorem s_not {x : Operand} {t : TypeId} {b : Bool} (hlt : Nat.ble (d + 1) c.nt = true) (hx : St.ev ⟨fr, bx, tk⟩ x = aB b)
    (h : LW P c ⟨(d, aB (!b)) :: fr, bx, tk⟩ ops Q rest) : LW P c ⟨fr, bx, tk⟩ ops Q (⟨some d, .unOp .not t x, ty, pos, aft, none⟩ :: rest) :=
  L.val (st := ⟨fr, bx, tk⟩) rfl rfl hlt (.not rfl hx) h
theorem s_conv {x : Operand} {s t : TypeId} {k k0 k' : IntKind} {m : Int} (hlt : Nat.ble (d + 1) c.nt = true) (hx : St.ev ⟨fr, bx, tk⟩ x = .iv (.im (.int k m))) [ht : IntTy P t k'] [hs : IntTy P s k0]
    (h : LW P c ⟨(d, .iv (.im (.int k' (k'.wrap m)))) :: fr, bx, tk⟩ ops Q rest) : LW P c ⟨fr, bx, tk⟩ ops Q (⟨some d, .convert s t x, ty, pos, aft, none⟩ :: rest) :=
  L.val (st := ⟨fr, bx, tk⟩) rfl rfl hlt (.conv rfl hx ht.h (by rw [hs.h]; rfl)) h
theorem s_lenS {x : Operand} {t : TypeId} {m : List UInt8} (hlt : Nat.ble (d + 1) c.nt = true) (hx : St.ev ⟨fr, bx, tk⟩ x = aS m) [ht : StrTy P t]
    (h : LW P c ⟨(d, aI m.length) :: fr, bx, tk⟩ ops Q rest) : LW P c ⟨fr, bx, tk⟩ ops Q (⟨some d, .call { callee := .builtin .len, args := #[x], argTypes := #[t] }, ty, pos, aft, none⟩ :: rest) :=
  L.val (st := ⟨fr, bx, tk⟩) rfl rfl hlt (.lenS rfl hx ht.h) h
theorem s_lenSl {x : Operand} {t e : TypeId} {k : Nat} {es : List (List IV)} (hlt : Nat.ble (d + 1) c.nt = true) (hx : (St.ev ⟨fr, bx, tk⟩ x).sl? = some es) [hs : SliceTy P t e k]
    (h : LW P c ⟨(d, aI es.length) :: fr, bx, tk⟩ ops Q rest) : LW P c ⟨fr, bx, tk⟩ ops Q (⟨some d, .call { callee := .builtin .len, args := #[x], argTypes := #[t] }, ty, pos, aft, none⟩ :: rest) :=
  L.val (st := ⟨fr, bx, tk⟩) rfl rfl hlt (.lenSl rfl hs.h hx) h
theorem s_indexS {x i : Operand} {t : TypeId} {m : List UInt8} {k : IntKind} {n : Int} {b : UInt8} (hlt : Nat.ble (d + 1) c.nt = true) (hx : St.ev ⟨fr, bx, tk⟩ x = aS m) (hn : St.ev ⟨fr, bx, tk⟩ i = .iv (.im (.int k n))) [ht : StrTy P t] (h0 : 0 ≤ n) (hb : m[n.toNat]? = some b)
    (h : LW P c ⟨(d, .iv (.im (.int .u8 b.toNat))) :: fr, bx, tk⟩ ops Q rest) : LW P c ⟨fr, bx, tk⟩ ops Q (⟨some d, .index t x i, ty, pos, aft, none⟩ :: rest) :=
  L.val (st := ⟨fr, bx, tk⟩) rfl rfl hlt (.indexS rfl hx hn ht.h h0 hb) h
theorem s_fieldP {s : TypeId} {x : Operand} {f fo id off off' : Nat} (hlt : Nat.ble (d + 1) c.nt = true) (hx : St.ev ⟨fr, bx, tk⟩ x = .ptr id off) [hf : FieldTy P s f fo] (ho : off + fo = off')
    (h : LW P c ⟨(d, .ptr id off') :: fr, bx, tk⟩ ops Q rest) : LW P c ⟨fr, bx, tk⟩ ops Q (⟨some d, .fieldAddr s x f, ty, pos, aft, none⟩ :: rest) :=
  L.val (st := ⟨fr, bx, tk⟩) rfl rfl hlt (ho ▸ .fieldP rfl hx hf.h) h
theorem s_fieldE {s : TypeId} {x : Operand} {f fo : Nat} {cs cs' : List IV} (hlt : Nat.ble (d + 1) c.nt = true) (hx : St.ev ⟨fr, bx, tk⟩ x = .el cs) [hf : FieldTy P s f fo] (hc : cs.drop fo = cs')
    (h : LW P c ⟨(d, .el cs') :: fr, bx, tk⟩ ops Q rest) : LW P c ⟨fr, bx, tk⟩ ops Q (⟨some d, .fieldAddr s x f, ty, pos, aft, none⟩ :: rest) :=
  L.val (st := ⟨fr, bx, tk⟩) rfl rfl hlt (hc ▸ .fieldE rfl hx hf.h) h
theorem s_indexA {t e : TypeId} {x i : Operand} {k : Nat} {kd : IntKind} {n : Int} {es : List (List IV)} {cs : List IV} (hlt : Nat.ble (d + 1) c.nt = true) (hx : (St.ev ⟨fr, bx, tk⟩ x).sl? = some es) (hn : St.ev ⟨fr, bx, tk⟩ i = .iv (.im (.int kd n))) [hs : SliceTy P t e k] (h0 : 0 ≤ n) (hc : es[n.toNat]? = some cs) (hl : cs.length = k)
    (h : LW P c ⟨(d, .el cs) :: fr, bx, tk⟩ ops Q rest) : LW P c ⟨fr, bx, tk⟩ ops Q (⟨some d, .indexAddr t x i, ty, pos, aft, none⟩ :: rest) :=
  L.val (st := ⟨fr, bx, tk⟩) rfl rfl hlt (.indexAddr rfl hs.h hx hn h0 hc hl) h
theorem s_load1P {t : TypeId} {x : Operand} {id off : Nat} {b : Box} {v : AV} (hlt : Nat.ble (d + 1) c.nt = true) (hx : St.ev ⟨fr, bx, tk⟩ x = .ptr id off) [ht : VarTy P t false 1] (hb : bx.lookup id = some b) (hv : b.cs[off]? = some v)
    (h : LW P c ⟨(d, v) :: fr, bx, tk⟩ ops Q rest) : LW P c ⟨fr, bx, tk⟩ ops Q (⟨some d, .load t x, ty, pos, aft, none⟩ :: rest) :=
  L.val (st := ⟨fr, bx, tk⟩) rfl rfl hlt (.load1P rfl ht.h hx hb hv) h
theorem s_loadAP {t : TypeId} {x : Operand} {id off k : Nat} {b : Box} {cs : List AV} (hlt : Nat.ble (d + 1) c.nt = true) (hx : St.ev ⟨fr, bx, tk⟩ x = .ptr id off) [ht : VarTy P t true k] (hb : bx.lookup id = some b) (hc : (b.cs.drop off).take k = cs) (hk : cs.length = k)
    (h : LW P c ⟨(d, .agg cs) :: fr, bx, tk⟩ ops Q rest) : LW P c ⟨fr, bx, tk⟩ ops Q (⟨some d, .load t x, ty, pos, aft, none⟩ :: rest) :=
  L.val (st := ⟨fr, bx, tk⟩) rfl rfl hlt (hc ▸ .loadAP rfl ht.h hx hb (hc.symm ▸ hk)) h
theorem s_load1E {t : TypeId} {x : Operand} {y : IV} {cs : List IV} (hlt : Nat.ble (d + 1) c.nt = true) (hx : St.ev ⟨fr, bx, tk⟩ x = .el cs) [ht : VarTy P t false 1] (hy : cs[0]? = some y)
    (h : LW P c ⟨(d, .iv y) :: fr, bx, tk⟩ ops Q rest) : LW P c ⟨fr, bx, tk⟩ ops Q (⟨some d, .load t x, ty, pos, aft, none⟩ :: rest) :=
  L.val (st := ⟨fr, bx, tk⟩) rfl rfl hlt (.load1E rfl ht.h hx hy) h
theorem s_loadAE {t : TypeId} {x : Operand} {k : Nat} {cs : List IV} {vs : List AV} (hlt : Nat.ble (d + 1) c.nt = true) (hx : St.ev ⟨fr, bx, tk⟩ x = .el cs) [ht : VarTy P t true k] (hc : (cs.take k).map AV.iv = vs) (hk : vs.length = k)
    (h : LW P c ⟨(d, .agg vs) :: fr, bx, tk⟩ ops Q rest) : LW P c ⟨fr, bx, tk⟩ ops Q (⟨some d, .load t x, ty, pos, aft, none⟩ :: rest) :=
  L.val (st := ⟨fr, bx, tk⟩) rfl rfl hlt (hc ▸ .loadAE rfl ht.h hx (by rw [← List.length_map (f := AV.iv), hc]; exact hk)) h
theorem s_extract {x : Operand} {i : Nat} {vs : List AV} {v : AV} (hlt : Nat.ble (d + 1) c.nt = true) (hx : St.ev ⟨fr, bx, tk⟩ x = .tup vs) (hv : vs[i]? = some v)
    (h : LW P c ⟨(d, v) :: fr, bx, tk⟩ ops Q rest) : LW P c ⟨fr, bx, tk⟩ ops Q (⟨some d, .extract x i, ty, pos, aft, none⟩ :: rest) :=
  L.val (st := ⟨fr, bx, tk⟩) rfl rfl hlt (.extract rfl hx hv) h
theorem s_nilP {x : Operand} {id off : Nat} (hlt : Nat.ble (d + 1) c.nt = true) (hx : St.ev ⟨fr, bx, tk⟩ x = .ptr id off)
    (h : LW P c ⟨(d, .ptr id off) :: fr, bx, tk⟩ ops Q rest) : LW P c ⟨fr, bx, tk⟩ ops Q (⟨some d, .nilCheck x, ty, pos, aft, none⟩ :: rest) :=
  L.val (st := ⟨fr, bx, tk⟩) rfl rfl hlt (.nilCheckP rfl hx) h
theorem s_build {t : TypeId} {parts : Array (Nat × Operand)} {zs : List Value} {pl : List (Nat × Nat)} {cs : List AV} (hlt : Nat.ble (d + 1) c.nt = true) [hz : ZeroTy P t zs] (h1 : zs.all (·.oneCell') = true) [hp : PlacesTy P t pl] (hf : fillA (pl[·]?) (zs.map constCell) (parts.toList.map fun x => (x.1, St.ev ⟨fr, bx, tk⟩ x.2)) = some cs)
    (h : LW P c ⟨(d, .agg cs) :: fr, bx, tk⟩ ops Q rest) : LW P c ⟨fr, bx, tk⟩ ops Q (⟨some d, .build t parts, ty, pos, aft, none⟩ :: rest) :=
  L.val (st := ⟨fr, bx, tk⟩) rfl rfl hlt (.build rfl hz.h h1 hp.h hf) h
theorem s_eqlAgg {x y : Operand} {t t' : TypeId} {cs ds : List AV} {ks : List Nat} {b : Bool} (hlt : Nat.ble (d + 1) c.nt = true) (hx : St.ev ⟨fr, bx, tk⟩ x = .agg cs) (hy : St.ev ⟨fr, bx, tk⟩ y = .agg ds) [hok : EqTy P t ks] (hn : cs.map vKind = ks) (hb : eqVs cs ds = some b)
    (h : LW P c ⟨(d, aB (b)) :: fr, bx, tk⟩ ops Q rest) : LW P c ⟨fr, bx, tk⟩ ops Q (⟨some d, .binOp .eql t x y t', ty, pos, aft, none⟩ :: rest) :=
  L.val (st := ⟨fr, bx, tk⟩) rfl rfl hlt (.eqlAgg rfl hx hy hok.h hn hb) h
theorem s_neqAgg {x y : Operand} {t t' : TypeId} {cs ds : List AV} {ks : List Nat} {b : Bool} (hlt : Nat.ble (d + 1) c.nt = true) (hx : St.ev ⟨fr, bx, tk⟩ x = .agg cs) (hy : St.ev ⟨fr, bx, tk⟩ y = .agg ds) [hok : EqTy P t ks] (hn : cs.map vKind = ks) (hb : eqVs cs ds = some b)
    (h : LW P c ⟨(d, aB (!b)) :: fr, bx, tk⟩ ops Q rest) : LW P c ⟨fr, bx, tk⟩ ops Q (⟨some d, .binOp .neq t x y t', ty, pos, aft, none⟩ :: rest) :=
  L.val (st := ⟨fr, bx, tk⟩) rfl rfl hlt (.neqAgg rfl hx hy hok.h hn hb) h
theorem s_shrI {x y : Operand} {t t' : TypeId} {k k' : IntKind} {m n : Int} (hlt : Nat.ble (d + 1) c.nt = true) (hx : St.ev ⟨fr, bx, tk⟩ x = .iv (.im (.int k m))) (hy : St.ev ⟨fr, bx, tk⟩ y = .iv (.im (.int k' n))) (h0 : 0 ≤ n)
    (h : LW P c ⟨(d, .iv (.im (.int k (m.fdiv (2 ^ min n.toNat k.bits))))) :: fr, bx, tk⟩ ops Q rest) : LW P c ⟨fr, bx, tk⟩ ops Q (⟨some d, .binOp .shr t x y t', ty, pos, aft, none⟩ :: rest) :=
  L.val (st := ⟨fr, bx, tk⟩) rfl rfl hlt (.shrI rfl hx hy h0) h
theorem s_orA {x y : Operand} {t t' : TypeId} {m n a p : Int} (i : Nat) (hlt : Nat.ble (d + 1) c.nt = true) (hx : St.ev ⟨fr, bx, tk⟩ x = aI m) (hy : St.ev ⟨fr, bx, tk⟩ y = aI n) (hp : (2 : Int) ^ i = p) (hm : m = a * p) (ha : 0 ≤ a) (h1 : a * p + p ≤ 9223372036854775807) (hn : 0 ≤ n) (h2 : n < p)
    (h : LW P c ⟨(d, aI (m + n)) :: fr, bx, tk⟩ ops Q rest) : LW P c ⟨fr, bx, tk⟩ ops Q (⟨some d, .binOp .or t x y t', ty, pos, aft, none⟩ :: rest) :=
  L.val (st := ⟨fr, bx, tk⟩) rfl rfl hlt (.orA i rfl hx hy hp hm ha h1 hn h2) h
theorem s_shlA {x y : Operand} {t t' : TypeId} {k' : IntKind} {m n p : Int} (hlt : Nat.ble (d + 1) c.nt = true) (hx : St.ev ⟨fr, bx, tk⟩ x = aI m) (hy : St.ev ⟨fr, bx, tk⟩ y = .iv (.im (.int k' n))) (h0 : 0 ≤ n) (hp : (2 : Int) ^ min n.toNat 64 = p) (hlo : -9223372036854775808 ≤ m * p) (hhi : m * p ≤ 9223372036854775807)
    (h : LW P c ⟨(d, aI (m * p)) :: fr, bx, tk⟩ ops Q rest) : LW P c ⟨fr, bx, tk⟩ ops Q (⟨some d, .binOp .shl t x y t', ty, pos, aft, none⟩ :: rest) :=
  L.val (st := ⟨fr, bx, tk⟩) rfl rfl hlt (.shlA rfl hx hy h0 hp hlo hhi) h
theorem s_convU8 {x : Operand} {s t : TypeId} {k0 : IntKind} {b : UInt8} (hlt : Nat.ble (d + 1) c.nt = true) (hx : St.ev ⟨fr, bx, tk⟩ x = .iv (.im (.int .u8 (b.toNat : Int)))) [ht : IntTy P t .i64] [hs : IntTy P s k0]
    (h : LW P c ⟨(d, aI (b.toNat : Int)) :: fr, bx, tk⟩ ops Q rest) : LW P c ⟨fr, bx, tk⟩ ops Q (⟨some d, .convert s t x, ty, pos, aft, none⟩ :: rest) :=
  L.val (st := ⟨fr, bx, tk⟩) rfl rfl hlt (.convU8 rfl hx ht.h (by rw [hs.h]; rfl)) h
theorem s_quoI {x y : Operand} {t t' : TypeId} {m n : Int} (hlt : Nat.ble (d + 1) c.nt = true) (hx : St.ev ⟨fr, bx, tk⟩ x = aI m) (hy : St.ev ⟨fr, bx, tk⟩ y = aI n) (hn : 0 < n) (hlo : -9223372036854775808 ≤ m) (hhi : m ≤ 9223372036854775807)
    (h : LW P c ⟨(d, aI (m.tdiv n)) :: fr, bx, tk⟩ ops Q rest) : LW P c ⟨fr, bx, tk⟩ ops Q (⟨some d, .binOp .quo t x y t', ty, pos, aft, none⟩ :: rest) :=
  L.val (st := ⟨fr, bx, tk⟩) rfl rfl hlt (.quoI rfl hx hy hn hlo hhi) h
theorem s_remI {x y : Operand} {t t' : TypeId} {k : IntKind} {m n : Int} (hlt : Nat.ble (d + 1) c.nt = true) (hx : St.ev ⟨fr, bx, tk⟩ x = .iv (.im (.int k m))) (hy : St.ev ⟨fr, bx, tk⟩ y = .iv (.im (.int k n))) (hn : 0 < n)
    (h : LW P c ⟨(d, .iv (.im (.int k (m.tmod n)))) :: fr, bx, tk⟩ ops Q rest) : LW P c ⟨fr, bx, tk⟩ ops Q (⟨some d, .binOp .rem t x y t', ty, pos, aft, none⟩ :: rest) :=
  L.val (st := ⟨fr, bx, tk⟩) rfl rfl hlt (.remI rfl hx hy hn) h
theorem s_sliceSl {x y : Operand} {t : TypeId} {m m' : List UInt8} {k : IntKind} {n : Int} (hlt : Nat.ble (d + 1) c.nt = true) (hx : St.ev ⟨fr, bx, tk⟩ x = aS m) (hy : St.ev ⟨fr, bx, tk⟩ y = .iv (.im (.int k n))) [ht : StrTy P t] (h0 : 0 ≤ n) (h1 : n ≤ m.length) (hm : m.drop n.toNat = m')
    (h : LW P c ⟨(d, aS m') :: fr, bx, tk⟩ ops Q rest) : LW P c ⟨fr, bx, tk⟩ ops Q (⟨some d, .slice t x (some y) none none, ty, pos, aft, none⟩ :: rest) :=
  L.val (st := ⟨fr, bx, tk⟩) rfl rfl hlt (hm ▸ .sliceSl rfl hx hy ht.h h0 h1) h
theorem s_sliceSh {x y : Operand} {t : TypeId} {m m' : List UInt8} {k : IntKind} {n : Int} (hlt : Nat.ble (d + 1) c.nt = true) (hx : St.ev ⟨fr, bx, tk⟩ x = aS m) (hy : St.ev ⟨fr, bx, tk⟩ y = .iv (.im (.int k n))) [ht : StrTy P t] (h0 : 0 ≤ n) (h1 : n ≤ m.length) (hm : m.take n.toNat = m')
    (h : LW P c ⟨(d, aS m') :: fr, bx, tk⟩ ops Q rest) : LW P c ⟨fr, bx, tk⟩ ops Q (⟨some d, .slice t x none (some y) none, ty, pos, aft, none⟩ :: rest) :=
  L.val (st := ⟨fr, bx, tk⟩) rfl rfl hlt (hm ▸ .sliceSh rfl hx hy ht.h h0 h1) h
theorem s_sliceVl {x y : Operand} {t e : TypeId} {k : Nat} {es es' : List (List IV)} {kd : IntKind} {n : Int} (hlt : Nat.ble (d + 1) c.nt = true) (hx : (St.ev ⟨fr, bx, tk⟩ x).sl? = some es) (hy : St.ev ⟨fr, bx, tk⟩ y = .iv (.im (.int kd n))) [hs : SliceTy P t e k] (hk : ∀ e ∈ es, e.length = k) (h0 : 0 ≤ n) (h1 : n ≤ es.length) (hm : es.drop n.toNat = es')
    (h : LW P c ⟨(d, .iv (.sl es')) :: fr, bx, tk⟩ ops Q rest) : LW P c ⟨fr, bx, tk⟩ ops Q (⟨some d, .slice t x (some y) none none, ty, pos, aft, none⟩ :: rest) :=
  L.val (st := ⟨fr, bx, tk⟩) rfl rfl hlt (hm ▸ .sliceVl rfl hx hy hs.h hk h0 h1) h
theorem s_sliceVh {x y : Operand} {t e : TypeId} {k : Nat} {es es' : List (List IV)} {kd : IntKind} {n : Int} (hlt : Nat.ble (d + 1) c.nt = true) (hx : (St.ev ⟨fr, bx, tk⟩ x).sl? = some es) (hy : St.ev ⟨fr, bx, tk⟩ y = .iv (.im (.int kd n))) [hs : SliceTy P t e k] (hk : ∀ e ∈ es, e.length = k) (h0 : 0 ≤ n) (h1 : n ≤ es.length) (hm : es.take n.toNat = es')
    (h : LW P c ⟨(d, .iv (.sl es')) :: fr, bx, tk⟩ ops Q rest) : LW P c ⟨fr, bx, tk⟩ ops Q (⟨some d, .slice t x none (some y) none, ty, pos, aft, none⟩ :: rest) :=
  L.val (st := ⟨fr, bx, tk⟩) rfl rfl hlt (hm ▸ .sliceVh rfl hx hy hs.h hk h0 h1) h
theorem s_bytesS {x : Operand} {s t e : TypeId} {bs : List UInt8} (hlt : Nat.ble (d + 1) c.nt = true) (hx : (St.ev ⟨fr, bx, tk⟩ x).sl? = some (bs.map cB)) [hs : SliceTy P s e 1] [he : IntTy P e .u8] [ht : StrTy P t]
    (h : LW P c ⟨(d, aS bs) :: fr, bx, tk⟩ ops Q rest) : LW P c ⟨fr, bx, tk⟩ ops Q (⟨some d, .convert s t x, ty, pos, aft, none⟩ :: rest) :=
  L.val (st := ⟨fr, bx, tk⟩) rfl rfl hlt (.bytesS rfl hx hs.h he.h ht.h) h
theorem s_box {t : TypeId} {x : Operand} {v : AV} {cs : List AV} (hlt : Nat.ble (d + 1) c.nt = true) (hx : St.ev ⟨fr, bx, tk⟩ x = v) (hv : v.lays = true) (hc : v.cells = cs) (hf : St.fresh d ⟨fr, bx, tk⟩ = true) (hm : AV.ments d cs = false)
    (h : LW P c ⟨(d, .ptr d 0) :: fr, (d, ⟨t, cs⟩) :: bx, tk⟩ ops Q rest) : LW P c ⟨fr, bx, tk⟩ ops Q (⟨some d, .box t x, ty, pos, aft, none⟩ :: rest) :=
  L.make (st := ⟨fr, bx, tk⟩) rfl rfl hlt (hc ▸ .box rfl hx hv hf (hc.symm ▸ hm)) h
theorem s_strBytes {s t e : TypeId} {x : Operand} {bs : List UInt8} (hlt : Nat.ble (d + 1) c.nt = true) (hx : St.ev ⟨fr, bx, tk⟩ x = aS bs) [hs : StrTy P s] [ht : SliceTy P t e 1] [he : IntTy P e .u8] (hf : St.fresh d ⟨fr, bx, tk⟩ = true) (hl : bs.length ≤ 9223372036854775807)
    (h : LW P c ⟨(d, .iv (.sl (bs.map cB))) :: fr, bx, tk⟩ ops Q rest) : LW P c ⟨fr, bx, tk⟩ ops Q (⟨some d, .convert s t x, ty, pos, aft, none⟩ :: rest) :=
  L.make (st := ⟨fr, bx, tk⟩) rfl rfl hlt (.strBytes rfl hx hs.h (sliceOk_run ht.h).1 he.h hf hl) h
theorem s_min2 {x y : Operand} {t t' : TypeId} {m n : Int} (hlt : Nat.ble (d + 1) c.nt = true) (hx : St.ev ⟨fr, bx, tk⟩ x = aI m) (hy : St.ev ⟨fr, bx, tk⟩ y = aI n)
    (h : LW P c ⟨(d, aI (if n < m then n else m)) :: fr, bx, tk⟩ ops Q rest) : LW P c ⟨fr, bx, tk⟩ ops Q (⟨some d, .call { callee := .builtin .min, args := #[x, y], argTypes := #[t, t'] }, ty, pos, aft, none⟩ :: rest) :=
  L.val (st := ⟨fr, bx, tk⟩) rfl rfl hlt (.min2 rfl hx hy) h
theorem s_callQ1 {gs : Globs} {f : FuncId} {args : Array Operand} {ats : Array TypeId} {as : List AV} {q : Nat} {b b' : Box} {res : AV} (hlt : Nat.ble (d + 1) c.nt = true) [hok : CallTy P f] (hG : Glob gs c.E0 c.w0) (hc : CallG gs P f as [(q, b)] [(q, b')] [] res) (ha : AV.pub.pubs (args.toList.map (St.ev ⟨fr, bx, tk⟩)) = as) (hb : bx.lookup q = some b) (hbn : b.cs.isEmpty = false) (hm' : AV.mentsIn [] b'.cs = true) (hr : AV.mentIn [] res = true)
    (h : LW P c ⟨(d, res) :: fr, (q, b') :: bx, tk⟩ ops Q rest) : LW P c ⟨fr, bx, tk⟩ ops Q (⟨some d, .call { callee := .value (.func f), args := args, argTypes := ats }, ty, pos, aft, none⟩ :: rest) :=
  L.callQ1 (st := ⟨fr, bx, tk⟩) rfl rfl hlt rfl hok.h hG hc ha hb hbn hm' hr h
theorem s_callG {gs : Globs} {f : FuncId} {args : Array Operand} {ats : Array TypeId} {as : List AV} {res : AV} (hlt : Nat.ble (d + 1) c.nt = true) [hok : CallTy P f] (hG : Glob gs c.E0 c.w0) (hc : CallG gs P f as [] [] [] res) (ha : AV.pub.pubs (args.toList.map (St.ev ⟨fr, bx, tk⟩)) = as)
    (hmr : AV.mentIn [] res = true) (h : LW P c ⟨(d, res) :: fr, bx, tk⟩ ops Q rest) :
    LW P c ⟨fr, bx, tk⟩ ops Q (⟨some d, .call { callee := .value (.func f), args := args, argTypes := ats }, ty, pos, aft, none⟩ :: rest) :=
  L.callG0 (st := ⟨fr, bx, tk⟩) rfl rfl hlt hG rfl hok.h hc (.of_pub ha) hmr h
theorem s_makeFunc {f : FuncId} {caps : Array Operand} {cs : List AV} (hlt : Nat.ble (d + 1) c.nt = true) (hc : caps.toList.map (St.ev ⟨fr, bx, tk⟩) = cs)
    (h : LW P c ⟨(d, .fn f cs) :: fr, bx, tk⟩ ops Q rest) : LW P c ⟨fr, bx, tk⟩ ops Q (⟨some d, .makeFunc (.func f) #[] caps, ty, pos, aft, none⟩ :: rest) :=
  L.val (st := ⟨fr, bx, tk⟩) rfl rfl hlt (hc ▸ .makeFunc rfl) h
theorem s_callFn {gs : Globs} {f : FuncId} {x : Operand} {args : Array Operand} {ats : Array TypeId} {avs caps : List AV} {bxi : List (Nat × Box)} {res : AV} (hlt : Nat.ble (d + 1) c.nt = true) (hG : Glob gs c.E0 c.w0) (hx : St.ev ⟨fr, bx, tk⟩ x = .fn f caps) [hok : CallTy P f]
    (hc : CallG gs P f (avs ++ caps) bxi bxi [] res) (ha : AV.pub.pubs (args.toList.map (St.ev ⟨fr, bx, tk⟩)) = avs) (hbi : WkB bx bxi) (hmb : bxi.all (fun p => !p.2.cs.isEmpty && AV.mentsIn (keys bxi) p.2.cs) = true) (hmr : AV.mentIn (keys bxi) res = true)
    (h : LW P c ⟨(d, res) :: fr, bxi ++ bx, tk⟩ ops Q rest) :
    LW P c ⟨fr, bx, tk⟩ ops Q (⟨some d, .call { callee := .value x, args := args, argTypes := ats }, ty, pos, aft, none⟩ :: rest) :=
  L.callFnG (st := ⟨fr, bx, tk⟩) rfl rfl hlt hG rfl hx hok.h hc (.of_pub ha) hbi hmb hmr h
theorem s_alloc {t : TypeId} {zs : List Value} {cs : List AV} (hlt : Nat.ble (d + 1) c.nt = true) [hz : ZeroTy P t zs] (h1 : zs.all (·.oneCell') = true) (hc : zs.map constCell = cs) (hf : St.fresh d ⟨fr, bx, tk⟩ = true) (hm : AV.ments d cs = false)
    (h : LW P c ⟨(d, .ptr d 0) :: fr, (d, ⟨t, cs⟩) :: bx, tk⟩ ops Q rest) : LW P c ⟨fr, bx, tk⟩ ops Q (⟨some d, .alloc t, ty, pos, aft, none⟩ :: rest) := by
  obtain ⟨z, h2, h3⟩ := zero_alloc hz.h
  subst h3; subst hc
  exact L.make (st := ⟨fr, bx, tk⟩) rfl rfl hlt (.alloc (i := default) rfl h2 h1 hf hm) h
theorem s_bslice {t e : TypeId} {n k : Nat} {parts : Array (Nat × Operand)} {zs : List Value} {cs : List AV} {xs : List IV} {es : List (List IV)} (hlt : Nat.ble (d + 1) c.nt = true) [hs : SliceTy P t e k] [hz : ZeroTy P e zs] (h1 : zs.all (·.oneCell') = true) (hzl : zs.length = k) (hn : Nat.ble (n * k) 16777216 = true) (hnk : Nat.ble 1 k = true) (hf : fillA (fun i => some (i * k, k)) ((List.range (n * k)).map fun i => constCell (zs.getD (i % k) undef)) (parts.toList.map fun x => (x.1, St.ev ⟨fr, bx, tk⟩ x.2)) = some cs) (hx : toIs cs = some xs) (hcl : cs.length = n * k) (he : chunks k n xs = es) (hfr : St.fresh d ⟨fr, bx, tk⟩ = true)
    (h : LW P c ⟨(d, .row d es) :: fr, bx, (d, ⟨e, k⟩) :: tk⟩ ops Q rest) : LW P c ⟨fr, bx, tk⟩ ops Q (⟨some d, .buildSlice t n parts, ty, pos, aft, none⟩ :: rest) :=
  L.make (st := ⟨fr, bx, tk⟩) rfl rfl hlt (he ▸ .buildSlice rfl hs.h hz.h h1 hzl (Nat.le_of_ble_eq_true hn) (Nat.le_of_ble_eq_true hnk) hf hx hcl hfr) h
theorem s_store {t : TypeId} {x y : Operand} {id off k : Nat} {b : Box} {v : AV} {agg : Bool} {cs : List AV} (hx : St.ev ⟨fr, bx, tk⟩ x = .ptr id off) (hy : St.ev ⟨fr, bx, tk⟩ y = v) [ht : VarTy P t agg k] (hb : bx.lookup id = some b)
    (hv : v.lays = true) (hk : v.cells.length = k) (hle : Nat.ble (off + k) b.cs.length = true) (hc : setA b.cs off v.cells = cs)
    (h : LW P c ⟨fr, (id, ⟨b.ty, cs⟩) :: bx, tk⟩ ops Q rest) : LW P c ⟨fr, bx, tk⟩ ops Q (⟨none, .store t x y, ty, pos, aft, none⟩ :: rest) := by
  subst hc
  exact L.does (st := ⟨fr, bx, tk⟩) rfl rfl (.store rfl ht.h hx hb hy hv hk (Nat.le_of_ble_eq_true hle)) h
theorem s_append {t t' e : TypeId} {x y : Operand} {id k bytes : Nat} {es news es' : List (List IV)} (hlt : Nat.ble (d + 1) c.nt = true)
    (hx : St.ev ⟨fr, bx, tk⟩ x = .row id es) (htk : tk.lookup id = some ⟨e, k⟩) (hy : (St.ev ⟨fr, bx, tk⟩ y).sl? = some news) [ha : AppTy P t e k bytes] [hs : SliceTy P t' e k] (hes : ∀ e ∈ es, e.length = k) (hnk : ∀ e ∈ news, e.length = k)
    (hm : es.length + news.length ≤ maxLen) (hby : (es.length + news.length) * bytes ≤ 225000000000000) (hf : St.fresh d ⟨fr, bx, tk⟩ = true) (he : es ++ news = es')
    (h : LW P c ⟨(d, .row d es') :: fr, bx, (d, ⟨e, k⟩) :: delTok id tk⟩ ops Q rest) :
    LW P c ⟨fr, bx, tk⟩ ops Q (⟨some d, .call { callee := .builtin .append, args := #[x, y], argTypes := #[t, t'] }, ty, pos, aft, none⟩ :: rest) := by
  obtain ⟨ht, hk0, i, z, hi0, hik, hib, hiz, hzk, hbs⟩ := appOk_run ha.h
  subst he
  exact L.make (st := ⟨fr, bx, tk⟩) rfl rfl hlt (.append rfl ht hi0 hik hib hiz hzk (sliceOk_run hs.h).1 (.inl ⟨_, rfl⟩) hk0 (.inl ⟨hx, htk⟩) hes hnk (.slice hy hnk hk0) hm hby hbs hf) h
theorem s_appendS {t t' e : TypeId} {x y : Operand} {id bytes : Nat} {es es' : List (List IV)} {s : List UInt8} (hlt : Nat.ble (d + 1) c.nt = true)
    (hx : St.ev ⟨fr, bx, tk⟩ x = .row id es) (htk : tk.lookup id = some ⟨e, 1⟩) (hy : St.ev ⟨fr, bx, tk⟩ y = aS s) [ha : AppTy P t e 1 bytes] [hs : StrTy P t'] (hes : ∀ e ∈ es, e.length = 1)
    (hm : es.length + s.length ≤ maxLen) (hby : (es.length + s.length) * bytes ≤ 225000000000000) (hf : St.fresh d ⟨fr, bx, tk⟩ = true) (he : (es ++ s.map fun b => [IV.im (.int .u8 b.toNat)]) = es')
    (h : LW P c ⟨(d, .row d es') :: fr, bx, (d, ⟨e, 1⟩) :: delTok id tk⟩ ops Q rest) :
    LW P c ⟨fr, bx, tk⟩ ops Q (⟨some d, .call { callee := .builtin .append, args := #[x, y], argTypes := #[t, t'] }, ty, pos, aft, none⟩ :: rest) := by
  obtain ⟨ht, hk0, i, z, hi0, hik, hib, hiz, hzk, hbs⟩ := appOk_run ha.h
  subst he
  exact L.make (st := ⟨fr, bx, tk⟩) rfl rfl hlt (.append rfl ht hi0 hik hib hiz hzk hs.h (.inr rfl) hk0 (.inl ⟨hx, htk⟩) hes (fun e he => by simp only [List.mem_map] at he; obtain ⟨b, _, rfl⟩ := he; rfl) (.string hy) (by simpa using hm) (by simpa using hby) hbs hf) h
theorem s_call0 {f : FuncId} {args : Array Operand} {ats : Array TypeId} {as : List AV} {res : AV} (hlt : Nat.ble (d + 1) c.nt = true) [hok : CallTy P f] (hc : CallA P f as [] [] [] res) (ha : AV.pub.pubs (args.toList.map (St.ev ⟨fr, bx, tk⟩)) = as)
    (hmr : AV.mentIn [] res = true) (h : LW P c ⟨(d, res) :: fr, bx, tk⟩ ops Q rest) :
    LW P c ⟨fr, bx, tk⟩ ops Q (⟨some d, .call { callee := .value (.func f), args := args, argTypes := ats }, ty, pos, aft, none⟩ :: rest) :=
  L.call0 (st := ⟨fr, bx, tk⟩) rfl rfl hlt rfl hok.h hc (.of_pub ha) hmr h
theorem s_gdo {dst : Option Tmp} {op : Op} {st : St} {j s : Nat} {b b' : Bool} (hj : (ops[j]?).bind (·.dst) = some s) (hb : st.ev (.tmp s) = aB b') (he : b' = b)
    (h : LW P c st ops Q (⟨dst, op, ty, pos, aft, none⟩ :: rest)) : LW P c st ops Q (⟨dst, op, ty, pos, aft, some (j, b)⟩ :: rest) := L.guardDo hj (he ▸ hb) h
theorem s_gskipT {op : Op} {j s : Nat} {b' : Bool} (hlt : Nat.ble (d + 1) c.nt = true) (hj : (ops[j]?).bind (·.dst) = some s) (hb : St.ev ⟨fr, bx, tk⟩ (.tmp s) = aB b') (he : b' = false)
    (h : LW P c ⟨(d, .opt false .any) :: fr, bx, tk⟩ ops Q rest) : LW P c ⟨fr, bx, tk⟩ ops Q (⟨some d, op, ty, pos, aft, some (j, true)⟩ :: rest) := L.guardSkip (st := ⟨fr, bx, tk⟩) hlt hj hb (by rw [he]; simp) h
theorem s_gskipF {op : Op} {j s : Nat} {b' : Bool} (hlt : Nat.ble (d + 1) c.nt = true) (hj : (ops[j]?).bind (·.dst) = some s) (hb : St.ev ⟨fr, bx, tk⟩ (.tmp s) = aB b') (he : b' = true)
    (h : LW P c ⟨(d, .opt false .any) :: fr, bx, tk⟩ ops Q rest) : LW P c ⟨fr, bx, tk⟩ ops Q (⟨some d, op, ty, pos, aft, some (j, false)⟩ :: rest) := L.guardSkip (st := ⟨fr, bx, tk⟩) hlt hj hb (by rw [he]; simp) h
theorem s_gskipU {op : Op} {j s : Nat} {b : Bool} (hlt : Nat.ble (d + 1) c.nt = true) (hj : (ops[j]?).bind (·.dst) = some s) (hb : St.ev ⟨fr, bx, tk⟩ (.tmp s) = .opt false .any)
    (h : LW P c ⟨(d, .opt false .any) :: fr, bx, tk⟩ ops Q rest) : LW P c ⟨fr, bx, tk⟩ ops Q (⟨some d, op, ty, pos, aft, some (j, b)⟩ :: rest) := L.guardSkipU (st := ⟨fr, bx, tk⟩) hlt hj hb h
theorem s_gsplit {o : Oper} {st : St} {j s : Nat} {b b' : Bool} (hj : (ops[j]?).bind (·.dst) = some s) (hg : o.guard = some (j, b)) (hb : st.ev (.tmp s) = aB b') (hT : b' = true → LW P c st ops Q (o :: rest)) (hF : b' = false → LW P c st ops Q (o :: rest)) : LW P c st ops Q (o :: rest) := by
  cases b'
  · exact hF rfl
  · exact hT rfl
theorem s_pickTIv {x y z : Operand} {y1 : IV} {b : Bool} (hlt : Nat.ble (d + 1) c.nt = true) (hx : St.ev ⟨fr, bx, tk⟩ x = aB b) (hb : b = true) (hy : St.ev ⟨fr, bx, tk⟩ y = .iv y1)
    (h : LW P c ⟨(d, .iv y1) :: fr, bx, tk⟩ ops Q rest) : LW P c ⟨fr, bx, tk⟩ ops Q (⟨some d, .pick x y z, ty, pos, aft, none⟩ :: rest) := L.val (st := ⟨fr, bx, tk⟩) rfl rfl hlt (hy ▸ .pickT rfl (hb ▸ hx)) h
theorem s_pickFIv {x y z : Operand} {y1 : IV} {b : Bool} (hlt : Nat.ble (d + 1) c.nt = true) (hx : St.ev ⟨fr, bx, tk⟩ x = aB b) (hb : b = false) (hy : St.ev ⟨fr, bx, tk⟩ z = .iv y1)
    (h : LW P c ⟨(d, .iv y1) :: fr, bx, tk⟩ ops Q rest) : LW P c ⟨fr, bx, tk⟩ ops Q (⟨some d, .pick x y z, ty, pos, aft, none⟩ :: rest) := L.val (st := ⟨fr, bx, tk⟩) rfl rfl hlt (hy ▸ .pickF rfl (hb ▸ hx)) h
theorem c_seq {st : St} {x y : Code} (h : L c st (x.wp P (Exit.then (y.wp P Q) Q))) : L c st ((Code.seq x y).wp P Q) := fun a w hr => wp_seq (h a w hr)
theorem c_condT {st : St} {x : Operand} {b : Bool} {y z : Code} (hx : st.ev x = aB b) (hb : b = true) (h : L c st (y.wp P Q)) : L c st ((Code.cond x y z).wp P Q) := L.condT (hb ▸ hx) h
theorem c_condF {st : St} {x : Operand} {b : Bool} {y z : Code} (hx : st.ev x = aB b) (hb : b = false) (h : L c st (z.wp P Q)) : L c st ((Code.cond x y z).wp P Q) := L.condF (hb ▸ hx) h
theorem Sub.of_eq {v v' : AV} (h : v = v') : Sub v v' := h ▸ Sub.refl v
theorem Wk.none {st : St} (hi : c.ins = []) : Wk c st ⟨[], [], []⟩ := Wk.mk' (by rw [hi]; intro id h; cases h) .nil .nil .nil
theorem s_region {st : St} {id : Nat} {l : List Oper} (h : LW P c st l.toArray Q l) : L c st ((Code.region id l.toArray false).wp P Q) := L.region h
theorem s_nil {st : St} (h : L c st (Q .normal)) : LW P c st ops Q [] := h
end
def rowOk (P : Program) (t : TypeId) (e : TypeId) (k bytes : Nat) : Bool :=
  appOk P t e k bytes && (match P.info? e with | some i => (match i.zero with | some z => z.cells.toList.all (·.oneCell') | none => false) | none => false)
theorem rowOk_run {P : Program} {t e : TypeId} {k bytes : Nat} (h : rowOk P t e k bytes = true) :
    P.underlying t = some (.slice e) ∧ 0 < k ∧ ∃ (i : TypeInfo) (z : Value), P.info? e = some i ∧ i.size = k ∧ i.bytes = bytes ∧ i.zero = some z ∧ z.cells.size = k ∧ ∀ u ∈ z.cells.toList, u.oneCell' = true := by
  unfold rowOk at h
  simp only [Bool.and_eq_true] at h
  obtain ⟨h1, h2⟩ := h
  obtain ⟨hu, hk, i, z, hi, hs, hb, hz, hzk, _⟩ := appOk_run h1
  rw [hi] at h2; simp only [hz] at h2
  exact ⟨hu, hk, i, z, hi, hs, hb, hz, hzk, fun u hu => List.all_eq_true.1 h2 u hu⟩
class RowTy (P : Program) (t : TypeId) (e : outParam TypeId) (k bytes : outParam Nat) : Prop where
  h : rowOk P t e k bytes = true
class OvlTy (P : Program) (f : FuncId) (t tr : outParam TypeId) : Prop where
  h : extOk P f (Extern.SlicesOverlaps.overlaps #[t, t] #[tr])
section
variable {P : Program} {c : Ctx} {fr : List (Nat × AV)} {bx : List (Nat × Box)} {tk : List (Nat × Tok)} {ops : Array Oper} {Q : Exit → Act → World → Prop} {rest : List Oper}
  {d : Nat} {ty : TypeId} {pos : String} {aft : Array Edge}
theorem s_lenBsl {x : Operand} {t e : TypeId} {k id off n cap : Nat} (hlt : Nat.ble (d + 1) c.nt = true) (hx : St.ev ⟨fr, bx, tk⟩ x = .bsl id off n cap) [hs : SliceTy P t e k]
    (h : LW P c ⟨(d, aI n) :: fr, bx, tk⟩ ops Q rest) : LW P c ⟨fr, bx, tk⟩ ops Q (⟨some d, .call { callee := .builtin .len, args := #[x], argTypes := #[t] }, ty, pos, aft, none⟩ :: rest) :=
  L.val (st := ⟨fr, bx, tk⟩) rfl rfl hlt (.lenBsl rfl hs.h hx) h
theorem s_lenBsh {x : Operand} {t e : TypeId} {k id off n k' : Nat} (hlt : Nat.ble (d + 1) c.nt = true) (hx : St.ev ⟨fr, bx, tk⟩ x = .bsh id off n k') [hs : SliceTy P t e k]
    (h : LW P c ⟨(d, aI n) :: fr, bx, tk⟩ ops Q rest) : LW P c ⟨fr, bx, tk⟩ ops Q (⟨some d, .call { callee := .builtin .len, args := #[x], argTypes := #[t] }, ty, pos, aft, none⟩ :: rest) :=
  L.val (st := ⟨fr, bx, tk⟩) rfl rfl hlt (.lenBsh rfl hs.h hx) h
theorem s_capBsl {x : Operand} {t e : TypeId} {k id off n cap : Nat} (hlt : Nat.ble (d + 1) c.nt = true) (hx : St.ev ⟨fr, bx, tk⟩ x = .bsl id off n cap) [hs : SliceTy P t e k]
    (h : LW P c ⟨(d, aI cap) :: fr, bx, tk⟩ ops Q rest) : LW P c ⟨fr, bx, tk⟩ ops Q (⟨some d, .call { callee := .builtin .cap, args := #[x], argTypes := #[t] }, ty, pos, aft, none⟩ :: rest) :=
  L.val (st := ⟨fr, bx, tk⟩) rfl rfl hlt (.capBsl rfl hs.h hx) h
theorem s_mvBsl {x : Operand} {id off n cap : Nat} (hlt : Nat.ble (d + 1) c.nt = true) (hx : St.ev ⟨fr, bx, tk⟩ x = .bsl id off n cap)
    (h : LW P c ⟨(d, .bsl id off n cap) :: fr, bx, tk⟩ ops Q rest) : LW P c ⟨fr, bx, tk⟩ ops Q (⟨some d, .move x, ty, pos, aft, none⟩ :: rest) :=
  L.val (st := ⟨fr, bx, tk⟩) rfl rfl hlt (hx ▸ .move rfl) h
theorem s_mvBsh {x : Operand} {id off n k : Nat} (hlt : Nat.ble (d + 1) c.nt = true) (hx : St.ev ⟨fr, bx, tk⟩ x = .bsh id off n k)
    (h : LW P c ⟨(d, .bsh id off n k) :: fr, bx, tk⟩ ops Q rest) : LW P c ⟨fr, bx, tk⟩ ops Q (⟨some d, .move x, ty, pos, aft, none⟩ :: rest) :=
  L.val (st := ⟨fr, bx, tk⟩) rfl rfl hlt (hx ▸ .move rfl) h
theorem s_asBsl {x : Operand} {id off n cap : Nat} (hlt : Nat.ble (d + 1) c.nt = true) (hx : St.ev ⟨fr, bx, tk⟩ x = .bsl id off n cap)
    (h : LW P c ⟨(d, .bsl id off n cap) :: fr, bx, tk⟩ ops Q rest) : LW P c ⟨fr, bx, tk⟩ ops Q (⟨some d, .assign x, ty, pos, aft, none⟩ :: rest) :=
  L.val (st := ⟨fr, bx, tk⟩) rfl rfl hlt (hx ▸ .assign rfl) h
theorem s_asBsh {x : Operand} {id off n k : Nat} (hlt : Nat.ble (d + 1) c.nt = true) (hx : St.ev ⟨fr, bx, tk⟩ x = .bsh id off n k)
    (h : LW P c ⟨(d, .bsh id off n k) :: fr, bx, tk⟩ ops Q rest) : LW P c ⟨fr, bx, tk⟩ ops Q (⟨some d, .assign x, ty, pos, aft, none⟩ :: rest) :=
  L.val (st := ⟨fr, bx, tk⟩) rfl rfl hlt (hx ▸ .assign rfl) h
theorem s_indexBsh {t e : TypeId} {x i : Operand} {k id off n off' : Nat} {kd : IntKind} {j : Int} (hlt : Nat.ble (d + 1) c.nt = true) (hx : St.ev ⟨fr, bx, tk⟩ x = .bsh id off n k) (hj : St.ev ⟨fr, bx, tk⟩ i = .iv (.im (.int kd j))) [hs : SliceTy P t e k] (h0 : 0 ≤ j) (h1 : j < n) (ho : (off + j.toNat) * k = off')
    (h : LW P c ⟨(d, .ptr id off') :: fr, bx, tk⟩ ops Q rest) : LW P c ⟨fr, bx, tk⟩ ops Q (⟨some d, .indexAddr t x i, ty, pos, aft, none⟩ :: rest) :=
  L.val (st := ⟨fr, bx, tk⟩) rfl rfl hlt (ho ▸ .indexBsh rfl hs.h hx hj h0 h1) h
theorem s_slBl {x y : Operand} {t e : TypeId} {k id off n cap off' n' cap' : Nat} {kd : IntKind} {j : Int} (hlt : Nat.ble (d + 1) c.nt = true) (hx : St.ev ⟨fr, bx, tk⟩ x = .bsl id off n cap) (hy : St.ev ⟨fr, bx, tk⟩ y = .iv (.im (.int kd j))) [hs : SliceTy P t e k] (h0 : 0 ≤ j) (h1 : j ≤ n) (e1 : off + j.toNat * k = off') (e2 : n - j.toNat = n') (e3 : cap - j.toNat = cap')
    (h : LW P c ⟨(d, .bsl id off' n' cap') :: fr, bx, tk⟩ ops Q rest) : LW P c ⟨fr, bx, tk⟩ ops Q (⟨some d, .slice t x (some y) none none, ty, pos, aft, none⟩ :: rest) :=
  L.val (st := ⟨fr, bx, tk⟩) rfl rfl hlt (e1 ▸ e2 ▸ e3 ▸ .slBl rfl hx hy hs.h h0 h1) h
theorem s_slBh {x y : Operand} {t e : TypeId} {k id off n cap n' : Nat} {kd : IntKind} {j : Int} (hlt : Nat.ble (d + 1) c.nt = true) (hx : St.ev ⟨fr, bx, tk⟩ x = .bsl id off n cap) (hy : St.ev ⟨fr, bx, tk⟩ y = .iv (.im (.int kd j))) [hs : SliceTy P t e k] (h0 : 0 ≤ j) (h1 : j ≤ cap) (e2 : j.toNat = n')
    (h : LW P c ⟨(d, .bsl id off n' cap) :: fr, bx, tk⟩ ops Q rest) : LW P c ⟨fr, bx, tk⟩ ops Q (⟨some d, .slice t x none (some y) none, ty, pos, aft, none⟩ :: rest) :=
  L.val (st := ⟨fr, bx, tk⟩) rfl rfl hlt (e2 ▸ .slBh rfl hx hy hs.h h0 h1) h
theorem s_slBlh {x y z : Operand} {t e : TypeId} {k id off n cap off' n' cap' : Nat} {kd kd' : IntKind} {i j : Int} (hlt : Nat.ble (d + 1) c.nt = true) (hx : St.ev ⟨fr, bx, tk⟩ x = .bsl id off n cap) (hy : St.ev ⟨fr, bx, tk⟩ y = .iv (.im (.int kd i))) (hz : St.ev ⟨fr, bx, tk⟩ z = .iv (.im (.int kd' j))) [hs : SliceTy P t e k] (h0 : 0 ≤ i) (h1 : i ≤ j) (h2 : j ≤ cap) (e1 : off + i.toNat * k = off') (e2 : j.toNat - i.toNat = n') (e3 : cap - i.toNat = cap')
    (h : LW P c ⟨(d, .bsl id off' n' cap') :: fr, bx, tk⟩ ops Q rest) : LW P c ⟨fr, bx, tk⟩ ops Q (⟨some d, .slice t x (some y) (some z) none, ty, pos, aft, none⟩ :: rest) :=
  L.val (st := ⟨fr, bx, tk⟩) rfl rfl hlt (e1 ▸ e2 ▸ e3 ▸ .slBlh rfl hx hy hz hs.h h0 h1 h2) h
theorem s_slB3 {x y z u : Operand} {t e : TypeId} {k id off n cap : Nat} {kd kd' kd'' : IntKind} {i j m : Int} (hlt : Nat.ble (d + 1) c.nt = true) (hx : St.ev ⟨fr, bx, tk⟩ x = .bsl id off n cap) (hy : St.ev ⟨fr, bx, tk⟩ y = .iv (.im (.int kd i))) (hz : St.ev ⟨fr, bx, tk⟩ z = .iv (.im (.int kd' j))) (hu : St.ev ⟨fr, bx, tk⟩ u = .iv (.im (.int kd'' m))) [hs : SliceTy P t e k] (h0 : 0 ≤ i) (h1 : i ≤ j) (h2 : j ≤ m) (h3 : m ≤ cap)
    (h : LW P c ⟨(d, .bsl id (off + i.toNat * k) (j.toNat - i.toNat) (m.toNat - i.toNat)) :: fr, bx, tk⟩ ops Q rest) : LW P c ⟨fr, bx, tk⟩ ops Q (⟨some d, .slice t x (some y) (some z) (some u), ty, pos, aft, none⟩ :: rest) :=
  L.val (st := ⟨fr, bx, tk⟩) rfl rfl hlt (.slB3 rfl hx hy hz hu hs.h h0 h1 h2 h3) h
theorem s_eqlNil {x y : Operand} {t t' e : TypeId} {k : Nat} {es : List (List IV)} (hlt : Nat.ble (d + 1) c.nt = true) (hx : (St.ev ⟨fr, bx, tk⟩ x).sl? = some es) (hy : St.ev ⟨fr, bx, tk⟩ y = .nils) [hs : SliceTy P t e k] (hne : es ≠ [])
    (h : LW P c ⟨(d, aB false) :: fr, bx, tk⟩ ops Q rest) : LW P c ⟨fr, bx, tk⟩ ops Q (⟨some d, .binOp .eql t x y t', ty, pos, aft, none⟩ :: rest) :=
  L.val (st := ⟨fr, bx, tk⟩) rfl rfl hlt (.eqlNil rfl hx hy hs.h hne) h
theorem s_app0 {x y : Operand} {t t' e e' : TypeId} {k k' : Nat} (hlt : Nat.ble (d + 1) c.nt = true) (hx : (St.ev ⟨fr, bx, tk⟩ x).sl? = some []) (hy : (St.ev ⟨fr, bx, tk⟩ y).sl? = some []) [hs : SliceTy P t e k] [hs2 : SliceTy P t' e' k']
    (h : LW P c ⟨(d, .iv (.sl [])) :: fr, bx, tk⟩ ops Q rest) : LW P c ⟨fr, bx, tk⟩ ops Q (⟨some d, .call { callee := .builtin .append, args := #[x, y], argTypes := #[t, t'] }, ty, pos, aft, none⟩ :: rest) :=
  L.val (st := ⟨fr, bx, tk⟩) rfl rfl hlt (.app0 rfl hs.h hs2.h hx hy) h
theorem s_load1R {t : TypeId} {x : Operand} {id off k mm i f : Nat} {bt : TypeId} {es : List (List IV)} {e : List IV} {y : IV} (hlt : Nat.ble (d + 1) c.nt = true) (hx : St.ev ⟨fr, bx, tk⟩ x = .ptr id off) [ht : VarTy P t false 1] (hb : bx.lookup id = some ⟨bt, .r es.flatten mm⟩) (hk : ∀ e ∈ es, e.length = k) (ho : off = i * k + f) (he : es[i]? = some e) (hf : e[f]? = some y)
    (h : LW P c ⟨(d, .iv y) :: fr, bx, tk⟩ ops Q rest) : LW P c ⟨fr, bx, tk⟩ ops Q (⟨some d, .load t x, ty, pos, aft, none⟩ :: rest) :=
  L.val (st := ⟨fr, bx, tk⟩) rfl rfl hlt (.load1R rfl ht.h hx hb hk ho he hf) h
theorem s_loadAR {t : TypeId} {x : Operand} {id off k mm i : Nat} {bt : TypeId} {es : List (List IV)} {e : List IV} {vs : List AV} (hlt : Nat.ble (d + 1) c.nt = true) (hx : St.ev ⟨fr, bx, tk⟩ x = .ptr id off) [ht : VarTy P t true k] (hb : bx.lookup id = some ⟨bt, .r es.flatten mm⟩) (hk : ∀ e ∈ es, e.length = k) (ho : off = i * k) (he : es[i]? = some e) (hv : e.map AV.iv = vs)
    (h : LW P c ⟨(d, .agg vs) :: fr, bx, tk⟩ ops Q rest) : LW P c ⟨fr, bx, tk⟩ ops Q (⟨some d, .load t x, ty, pos, aft, none⟩ :: rest) :=
  L.val (st := ⟨fr, bx, tk⟩) rfl rfl hlt (.loadAR rfl ht.h hx hb hk ho he hv) h
theorem s_overlapsR {f : FuncId} {x y : Operand} {ats : Array TypeId} {t tr e : TypeId} {k i j offi n cap offj m capj mm mm' : Nat} {bt bt' : TypeId} {xs ys : List IV} (hlt : Nat.ble (d + 1) c.nt = true) (hx : St.ev ⟨fr, bx, tk⟩ x = .bsl i offi n cap) (hy : St.ev ⟨fr, bx, tk⟩ y = .bsl j offj m capj) [hok : OvlTy P f t tr] [hs : SliceTy P t e k] (hij : (i == j) = false) (hb : bx.lookup i = some ⟨bt, .r xs mm⟩) (hb2 : bx.lookup j = some ⟨bt', .r ys mm'⟩) (hoff : cap ≠ 0) (hin : offi < xs.length) (hne : ys ≠ [])
    (h : LW P c ⟨(d, aB false) :: fr, bx, tk⟩ ops Q rest) : LW P c ⟨fr, bx, tk⟩ ops Q (⟨some d, .call { callee := .value (.func f), args := #[x, y], argTypes := ats }, ty, pos, aft, none⟩ :: rest) :=
  L.val (st := ⟨fr, bx, tk⟩) rfl rfl hlt (.overlapsR rfl hok.h hs.h hx hy (by simpa using hij) hb hb2 hoff hin hne) h
theorem s_copyRR {t t' e : TypeId} {x y : Operand} {k n cnt id off cap id' off' n' cap' mm mm' mr i i' : Nat} {bt bt' : TypeId} {es es' er : List (List IV)} (hlt : Nat.ble (d + 1) c.nt = true) (hx : St.ev ⟨fr, bx, tk⟩ x = .bsl id off n cap) (hy : St.ev ⟨fr, bx, tk⟩ y = .bsl id' off' n' cap') [hs : SliceTy P t e k] (hb : bx.lookup id = some ⟨bt, .r es.flatten mm⟩) (hb2 : bx.lookup id' = some ⟨bt', .r es'.flatten mm'⟩) (hk : ∀ e ∈ es, e.length = k) (hk2 : ∀ e ∈ es', e.length = k) (hk0 : 0 < k) (hoff : off = i * k) (hoff2 : off' = i' * k) (hcnt : Nat.min n' n = cnt) (hpos : 0 < cnt) (hle : (i' + n') * k ≤ es'.length * k + mm') (hin : i' + cnt ≤ es'.length) (hi : i ≤ es.length) (hm : (i + cnt) * k ≤ es.length * k + mm) (her : es.take i ++ ((es'.drop i').take cnt ++ es.drop (i + cnt)) = er) (hmr : mm - (i + cnt - es.length) * k = mr)
    (h : LW P c ⟨(d, aI cnt) :: fr, (id, ⟨bt, .r er.flatten mr⟩) :: bx, tk⟩ ops Q rest) : LW P c ⟨fr, bx, tk⟩ ops Q (⟨some d, .call { callee := .builtin .copy, args := #[x, y], argTypes := #[t, t'] }, ty, pos, aft, none⟩ :: rest) :=
  L.make (st := ⟨fr, bx, tk⟩) rfl rfl hlt (her ▸ hmr ▸ .copyRR rfl hs.h hx hb hy hb2 hk hk2 hk0 hoff hoff2 hcnt hpos hle hin hi hm) h
theorem s_roomRR {t t' e e' : TypeId} {x y : Operand} {k k2 bytes n id cap id' off' n' cap' mm mm' mr i' nr : Nat} {bt bt' : TypeId} {es es' er : List (List IV)} (hlt : Nat.ble (d + 1) c.nt = true) (hx : St.ev ⟨fr, bx, tk⟩ x = .bsl id 0 n cap) (hy : St.ev ⟨fr, bx, tk⟩ y = .bsl id' off' n' cap') [hr : RowTy P t e k bytes] [hs2 : SliceTy P t' e' k2] (hb : bx.lookup id = some ⟨bt, .r es.flatten mm⟩) (hb2 : bx.lookup id' = some ⟨bt', .r es'.flatten mm'⟩) (hbn : es.flatten ≠ [] ∨ 0 < mm) (hk : ∀ e ∈ es, e.length = k) (hk2 : ∀ e ∈ es', e.length = k) (hoff2 : off' = i' * k) (hin : i' + n' ≤ es'.length) (hc0 : 0 < cap) (hroom : n + n' ≤ cap) (hi : n ≤ es.length) (hm : (n + n') * k ≤ es.length * k + mm) (her : es.take n ++ ((es'.drop i').take n' ++ es.drop (n + n')) = er) (hmr : mm - (n + n' - es.length) * k = mr) (hnr : n + n' = nr)
    (h : LW P c ⟨(d, .bsl id 0 nr cap) :: fr, (id, ⟨bt, .r er.flatten mr⟩) :: bx, tk⟩ ops Q rest) : LW P c ⟨fr, bx, tk⟩ ops Q (⟨some d, .call { callee := .builtin .append, args := #[x, y], argTypes := #[t, t'] }, ty, pos, aft, none⟩ :: rest) := by
  obtain ⟨ht, hk0, i0, z, hi0, hik, hib, hiz, hzk, hz1⟩ := rowOk_run hr.h
  subst her; subst hmr; subst hnr
  exact L.make (st := ⟨fr, bx, tk⟩) rfl rfl hlt (.roomRR rfl ht hi0 hik (sliceOk_run hs2.h).1 (.inl ⟨_, rfl⟩) hx hb (row_ne hbn) hy hb2 hk hk2 hoff2 hin hc0 hroom hi hm) h
theorem s_growRR (N : Nat) {t t' e e' : TypeId} {x y : Operand} {k k2 bytes n id cap mm nr id' off' n' cap' mm' i' : Nat} {bt bt' : TypeId} {es es' er : List (List IV)} (hlt : Nat.ble (d + 1) c.nt = true) (hx : St.ev ⟨fr, bx, tk⟩ x = .bsl id 0 n cap) (hy : St.ev ⟨fr, bx, tk⟩ y = .bsl id' off' n' cap') [hr : RowTy P t e k bytes] [hs2 : SliceTy P t' e' k2] (hb : bx.lookup id = some ⟨bt, .r es.flatten mm⟩) (hb2 : bx.lookup id' = some ⟨bt', .r es'.flatten mm'⟩) (hk : ∀ e ∈ es, e.length = k) (hk2 : ∀ e ∈ es', e.length = k) (hoff2 : off' = i' * k) (hn0 : 0 < n') (hin : i' + n' ≤ es'.length) (hi : n ≤ es.length) (hcap : cap < n + n') (hm : n + n' ≤ maxLen) (hby : (n + n') * bytes ≤ 140737488355328) (hf : St.fresh N ⟨fr, bx, tk⟩ = true) (her : es.take n ++ (es'.drop i').take n' = er) (hnr : n + n' = nr)
    (h : LW P c ⟨(d, .bsh N 0 nr k) :: fr, (N, ⟨e, .r er.flatten 0⟩) :: bx, tk⟩ ops Q rest) : LW P c ⟨fr, bx, tk⟩ ops Q (⟨some d, .call { callee := .builtin .append, args := #[x, y], argTypes := #[t, t'] }, ty, pos, aft, none⟩ :: rest) := by
  obtain ⟨ht, hk0, i0, z, hi0, hik, hib, hiz, hzk, hz1⟩ := rowOk_run hr.h
  have hnl : ((es'.drop i').take n').length = n' := by rw [List.length_take, List.length_drop]; omega
  have hM := Makes.growR (P := P) (c := c) (st := ⟨fr, bx, tk⟩) (o := ⟨some d, .call { callee := .builtin .append, args := #[x, y], argTypes := #[t, t'] }, ty, pos, aft, none⟩) (id' := N) rfl ht hi0 hik hib hiz hzk hz1 (sliceOk_run hs2.h).1 (.inl ⟨_, rfl⟩) hk0 hx hb hk hi (by rw [hnl]; exact hcap) (mem_take_len (mem_drop_len hk2)) (.row hy hb2 hk2 hk0 hoff2 hn0 hin) (fun e => by rw [e] at hnl; simp at hnl; omega) (by rw [hnl]; exact hm) (by rw [hnl]; exact hby) hf
  rw [hnl] at hM
  subst her; subst hnr
  exact L.make (st := ⟨fr, bx, tk⟩) rfl rfl hlt hM h
theorem s_growRZ (N : Nat) {t t' e : TypeId} {kd kd' : IntKind} {x y : Operand} {m k bytes n id cap mm nr mr : Nat} {j : Int} {bt : TypeId} {es er : List (List IV)} (hlt : Nat.ble (d + 1) c.nt = true) (hx : St.ev ⟨fr, bx, tk⟩ x = .bsl id 0 n cap) (hy : St.ev ⟨fr, bx, tk⟩ y = .iv (.im (.int kd' j))) (hj : j = (m : Int)) [hr : RowTy P t e k bytes] [hd2 : IntTy P t' kd] (hb : bx.lookup id = some ⟨bt, .r es.flatten mm⟩) (hk : ∀ e ∈ es, e.length = k) (hi : n ≤ es.length) (hcap : cap < n + m) (hpos : 0 < m) (hm : n + m ≤ maxLen) (hby : (n + m) * bytes ≤ 140737488355328) (hf : St.fresh N ⟨fr, bx, tk⟩ = true) (her : es.take n = er) (hnr : n + m = nr) (hmr : m * k = mr)
    (h : LW P c ⟨(d, .bsh N 0 nr k) :: fr, (N, ⟨e, .r er.flatten mr⟩) :: bx, tk⟩ ops Q rest) : LW P c ⟨fr, bx, tk⟩ ops Q (⟨some d, .call { callee := .builtin .append, args := #[x, y], argTypes := #[t, t'] }, ty, pos, aft, none⟩ :: rest) := by
  obtain ⟨ht, hk0, i0, z, hi0, hik, hib, hiz, hzk, hz1⟩ := rowOk_run hr.h
  subst her; subst hnr; subst hmr; subst hj
  exact L.make (st := ⟨fr, bx, tk⟩) rfl rfl hlt (.growRZ rfl ht hi0 hik hib hiz hzk hz1 hd2.h hk0 hx hb hk hi hcap hy hpos hm hby hf) h
theorem s_cloneR (N : Nat) {t t' e e' : TypeId} {x y : Operand} {k k2 bytes id off : Nat} {news : List (List IV)} (hlt : Nat.ble (d + 1) c.nt = true) (hx : St.ev ⟨fr, bx, tk⟩ x = .bsl id off 0 0) (hy : (St.ev ⟨fr, bx, tk⟩ y).sl? = some news) [hr : RowTy P t e k bytes] [hs2 : SliceTy P t' e' k2] (hk2 : ∀ e ∈ news, e.length = k) (hne : news ≠ []) (hm : news.length ≤ maxLen) (hby : news.length * bytes ≤ 140737488355328) (hf : St.fresh N ⟨fr, bx, tk⟩ = true)
    (h : LW P c ⟨(d, .bsh N 0 news.length k) :: fr, (N, ⟨e, .r news.flatten 0⟩) :: bx, tk⟩ ops Q rest) : LW P c ⟨fr, bx, tk⟩ ops Q (⟨some d, .call { callee := .builtin .append, args := #[x, y], argTypes := #[t, t'] }, ty, pos, aft, none⟩ :: rest) := by
  obtain ⟨ht, hk0, i0, z, hi0, hik, hib, hiz, hzk, hz1⟩ := rowOk_run hr.h
  exact L.make (st := ⟨fr, bx, tk⟩) rfl rfl hlt (.cloneR rfl ht hi0 hik hib hiz hzk hz1 (sliceOk_run hs2.h).1 (.inl ⟨_, rfl⟩) hk0 hx hk2 (.slice hy hk2 hk0) hne hm hby hf) h
theorem s_capNil {x : Operand} {t e : TypeId} {k : Nat} (hlt : Nat.ble (d + 1) c.nt = true) (hx : St.ev ⟨fr, bx, tk⟩ x = .nils) [hs : SliceTy P t e k]
    (h : LW P c ⟨(d, aI 0) :: fr, bx, tk⟩ ops Q rest) : LW P c ⟨fr, bx, tk⟩ ops Q (⟨some d, .call { callee := .builtin .cap, args := #[x], argTypes := #[t] }, ty, pos, aft, none⟩ :: rest) :=
  L.val (st := ⟨fr, bx, tk⟩) rfl rfl hlt (.capNil rfl hs.h hx) h
theorem s_slNil {x y : Operand} {t e : TypeId} {k : Nat} {kd : IntKind} {j : Int} (hlt : Nat.ble (d + 1) c.nt = true) (hx : St.ev ⟨fr, bx, tk⟩ x = .nils) (hy : St.ev ⟨fr, bx, tk⟩ y = .iv (.im (.int kd j))) [hs : SliceTy P t e k] (h0 : j = 0)
    (h : LW P c ⟨(d, .nils) :: fr, bx, tk⟩ ops Q rest) : LW P c ⟨fr, bx, tk⟩ ops Q (⟨some d, .slice t x none (some y) none, ty, pos, aft, none⟩ :: rest) :=
  L.val (st := ⟨fr, bx, tk⟩) rfl rfl hlt (.slNil rfl hx hy hs.h h0) h
theorem s_slBshH {x y : Operand} {t e : TypeId} {k id n n' : Nat} {kd : IntKind} {j : Int} (hlt : Nat.ble (d + 1) c.nt = true) (hx : St.ev ⟨fr, bx, tk⟩ x = .bsh id 0 n k) (hy : St.ev ⟨fr, bx, tk⟩ y = .iv (.im (.int kd j))) [hs : SliceTy P t e k] (h0 : 0 ≤ j) (h1 : j ≤ n) (e2 : j.toNat = n')
    (h : LW P c ⟨(d, .bsh id 0 n' k) :: fr, bx, tk⟩ ops Q rest) : LW P c ⟨fr, bx, tk⟩ ops Q (⟨some d, .slice t x none (some y) none, ty, pos, aft, none⟩ :: rest) :=
  L.val (st := ⟨fr, bx, tk⟩) rfl rfl hlt (e2 ▸ .slBshH rfl hx hy hs.h h0 h1) h
theorem s_growNZ (N : Nat) {t t' e : TypeId} {kd kd' : IntKind} {x y : Operand} {m k bytes mr : Nat} {j : Int} (hlt : Nat.ble (d + 1) c.nt = true) (hx : St.ev ⟨fr, bx, tk⟩ x = .nils) (hy : St.ev ⟨fr, bx, tk⟩ y = .iv (.im (.int kd' j))) (hj : j = (m : Int)) [hr : RowTy P t e k bytes] [hd2 : IntTy P t' kd] (hpos : 0 < m) (hm : m ≤ maxLen) (hby : m * bytes ≤ 140737488355328) (hf : St.fresh N ⟨fr, bx, tk⟩ = true) (hmr : m * k = mr)
    (h : LW P c ⟨(d, .bsh N 0 m k) :: fr, (N, ⟨e, .r [] mr⟩) :: bx, tk⟩ ops Q rest) : LW P c ⟨fr, bx, tk⟩ ops Q (⟨some d, .call { callee := .builtin .append, args := #[x, y], argTypes := #[t, t'] }, ty, pos, aft, none⟩ :: rest) := by
  obtain ⟨ht, hk0, i0, z, hi0, hik, hib, hiz, hzk, hz1⟩ := rowOk_run hr.h
  subst hmr; subst hj
  exact L.make (st := ⟨fr, bx, tk⟩) rfl rfl hlt (.growNZ rfl ht hi0 hik hib hiz hzk hz1 hd2.h hk0 hx hy hpos hm hby hf) h
theorem s_appendH (N : Nat) {t t' e e' : TypeId} {x y : Operand} {k k2 bytes n id mm nr : Nat} {es news er : List (List IV)} (hlt : Nat.ble (d + 1) c.nt = true) (hx : St.ev ⟨fr, bx, tk⟩ x = .bsh id 0 n k) (hy : (St.ev ⟨fr, bx, tk⟩ y).sl? = some news) [hr : RowTy P t e k bytes] [hs2 : SliceTy P t' e' k2] (hb : bx.lookup id = some ⟨e, .r es.flatten mm⟩) (hbn : es.flatten ≠ [] ∨ 0 < mm) (hk : ∀ e ∈ es, e.length = k) (hk2 : ∀ e ∈ news, e.length = k) (hi : n ≤ es.length) (hne : news ≠ []) (hm : n + news.length ≤ maxLen) (hby : (n + news.length) * bytes ≤ 140737488355328) (hf : St.fresh N ⟨fr, bx, tk⟩ = true) (her : es.take n ++ news = er) (hnr : n + news.length = nr)
    (h : LW P c ⟨(d, .bsh N 0 nr k) :: fr, (N, ⟨e, .r er.flatten 0⟩) :: (id, ⟨e, .l []⟩) :: bx, tk⟩ ops Q rest) : LW P c ⟨fr, bx, tk⟩ ops Q (⟨some d, .call { callee := .builtin .append, args := #[x, y], argTypes := #[t, t'] }, ty, pos, aft, none⟩ :: rest) := by
  obtain ⟨ht, hk0, i0, z, hi0, hik, hib, hiz, hzk, hz1⟩ := rowOk_run hr.h
  subst her; subst hnr
  exact L.appendH (st := ⟨fr, bx, tk⟩) N rfl rfl hlt rfl ht hi0 hik hib hiz hzk hz1 (sliceOk_run hs2.h).1 (.inl ⟨_, rfl⟩) hk0 hx hb hbn hk hi hk2 (.slice hy hk2 hk0) hne hm hby hf h
theorem s_callJ (N : Nat) {f : FuncId} {args : Array Operand} {ats : Array TypeId} {as : List AV} {q a k n n' : Nat} {t1 t2 : TypeId} {xs ys : List IV} {res : AV} (hlt : Nat.ble (d + 1) c.nt = true) [hok : CallTy P f]
    (hc : CallA P f (.ptr 1000 0 :: as) [(1000, ⟨t1, .l [.bsh 1001 0 n k]⟩), (1001, ⟨t2, .r xs 0⟩)] [(1000, ⟨t1, .l [.bsh 1002 0 n' k]⟩), (1002, ⟨t2, .r ys 0⟩), (1001, ⟨t2, .l []⟩)] [] res)
    (ha : AV.pub.pubs (args.toList.map (St.ev ⟨fr, bx, tk⟩)) = .ptr q 0 :: as) (hb : bx.lookup q = some ⟨t1, .l [.bsh a 0 n k]⟩) (hb2 : bx.lookup a = some ⟨t2, .r xs 0⟩) (hxs : xs ≠ []) (hqa : (q == a) = false) (hm : AV.mentsIn [] as = true) (hr : AV.mentIn [] res = true) (hf : St.fresh N ⟨fr, bx, tk⟩ = true)
    (h : LW P c ⟨(d, res) :: fr, (q, ⟨t1, .l [.bsh N 0 n' k]⟩) :: (N, ⟨t2, .r ys 0⟩) :: (a, ⟨t2, .l []⟩) :: bx, tk⟩ ops Q rest) : LW P c ⟨fr, bx, tk⟩ ops Q (⟨some d, .call { callee := .value (.func f), args := args, argTypes := ats }, ty, pos, aft, none⟩ :: rest) :=
  L.callJ (st := ⟨fr, bx, tk⟩) N rfl rfl hlt rfl hok.h hc ha hb hb2 hxs hqa hm hr hf h
theorem s_call01N {f : FuncId} {args : Array Operand} {ats : Array TypeId} {as : List AV} {k n m : Nat} {bt : TypeId} {xs : List IV} (hlt : Nat.ble (d + 1) c.nt = true) [hok : CallTy P f] (hc : CallA P f as [] [(1000, ⟨bt, .r xs m⟩)] [] (.bsh 1000 0 n k)) (ha : args.toList.map (St.ev ⟨fr, bx, tk⟩) = as) (hm : AV.mentsIn [] as = true) (hf : St.fresh d ⟨fr, bx, tk⟩ = true)
    (h : LW P c ⟨(d, .bsh d 0 n k) :: fr, (d, ⟨bt, .r xs m⟩) :: bx, tk⟩ ops Q rest) : LW P c ⟨fr, bx, tk⟩ ops Q (⟨some d, .call { callee := .value (.func f), args := args, argTypes := ats }, ty, pos, aft, none⟩ :: rest) :=
  L.call01N (st := ⟨fr, bx, tk⟩) rfl rfl hlt rfl hok.h hc ha hm hf h
theorem s_mkEmpty {t e : TypeId} {k : Nat} {zs : List Value} (hlt : Nat.ble (d + 1) c.nt = true) [hs : SliceTy P t e k] [hz : ZeroTy P e zs] (h1 : zs.all (·.oneCell') = true) (hzl : zs.length = k) (hnk : Nat.ble 1 k = true) (hfr : St.fresh d ⟨fr, bx, tk⟩ = true)
    (h : LW P c ⟨(d, .bsl d 0 0 0) :: fr, (d, ⟨e, .l []⟩) :: bx, tk⟩ ops Q rest) : LW P c ⟨fr, bx, tk⟩ ops Q (⟨some d, .buildSlice t 0 #[], ty, pos, aft, none⟩ :: rest) :=
  L.make (st := ⟨fr, bx, tk⟩) rfl rfl hlt (.buildBox (cs := []) rfl hs.h hz.h h1 hzl (by simp) (Nat.le_of_ble_eq_true hnk) (by simp [fillA]) (by simp) rfl hfr) h
theorem s_buildR {t e : TypeId} {n k : Nat} {parts : Array (Nat × Operand)} {zs : List Value} {cs : List AV} {es : List (List IV)} (hlt : Nat.ble (d + 1) c.nt = true) [hs : SliceTy P t e k] [hz : ZeroTy P e zs] (h1 : zs.all (·.oneCell') = true) (hzl : zs.length = k) (hn : Nat.ble (n * k) 16777216 = true) (hnk : Nat.ble 1 k = true) (hf : fillA (fun i => some (i * k, k)) ((List.range (n * k)).map fun i => constCell (zs.getD (i % k) undef)) (parts.toList.map fun x => (x.1, St.ev ⟨fr, bx, tk⟩ x.2)) = some cs) (hcs : cs = es.flatten.map AV.iv) (hcl : es.flatten.length = n * k) (hfr : St.fresh d ⟨fr, bx, tk⟩ = true)
    (h : LW P c ⟨(d, .bsl d 0 n n) :: fr, (d, ⟨e, .r es.flatten 0⟩) :: bx, tk⟩ ops Q rest) : LW P c ⟨fr, bx, tk⟩ ops Q (⟨some d, .buildSlice t n parts, ty, pos, aft, none⟩ :: rest) :=
  L.make (st := ⟨fr, bx, tk⟩) rfl rfl hlt (.buildR rfl hs.h hz.h h1 hzl (Nat.le_of_ble_eq_true hn) (Nat.le_of_ble_eq_true hnk) hf hcs hcl hfr) h
theorem s_storeR {t : TypeId} {x y : Operand} {id off k mm i : Nat} {bt : TypeId} {es er : List (List IV)} {e : List IV} {v : AV} {agg : Bool} (hx : St.ev ⟨fr, bx, tk⟩ x = .ptr id off) (hy : St.ev ⟨fr, bx, tk⟩ y = v) [ht : VarTy P t agg k] (hb : bx.lookup id = some ⟨bt, .r es.flatten mm⟩)
    (hv : v.lays = true) (hc : v.cells = e.map AV.iv) (he : e.length = k) (hk : ∀ e ∈ es, e.length = k) (ho : off = i * k) (hi : i < es.length) (her : es.set i e = er)
    (h : LW P c ⟨fr, (id, ⟨bt, .r er.flatten mm⟩) :: bx, tk⟩ ops Q rest) : LW P c ⟨fr, bx, tk⟩ ops Q (⟨none, .store t x y, ty, pos, aft, none⟩ :: rest) := by
  subst her
  exact L.does (st := ⟨fr, bx, tk⟩) rfl rfl (.storeR rfl ht.h hx hb hy hv hc he hk ho hi) h
theorem s_clearR {t e : TypeId} {x : Operand} {k bytes n id off cap mm mr j : Nat} {bt : TypeId} {es er : List (List IV)} (hx : St.ev ⟨fr, bx, tk⟩ x = .bsl id off n cap) [hr : RowTy P t e k bytes] (hb : bx.lookup id = some ⟨bt, .r es.flatten mm⟩) (hk : ∀ e ∈ es, e.length = k) (hoff : off = j * k) (hj : j ≤ es.length) (hn0 : 0 < n) (hle : (j + n) * k ≤ es.length * k + mm) (her : es.take j = er) (hmr : es.length * k + mm - j * k = mr)
    (h : LW P c ⟨fr, (id, ⟨bt, .r er.flatten mr⟩) :: bx, tk⟩ ops Q rest) : LW P c ⟨fr, bx, tk⟩ ops Q (⟨none, .call { callee := .builtin .clear, args := #[x], argTypes := #[t] }, ty, pos, aft, none⟩ :: rest) := by
  obtain ⟨ht, hk0, i0, z, hi0, hik, hib, hiz, hzk, hz1⟩ := rowOk_run hr.h
  subst her; subst hmr
  exact L.clearR (st := ⟨fr, bx, tk⟩) rfl rfl rfl ht hi0 hiz hzk hz1 hk0 hx hb hk hoff hj hn0 hle h
theorem s_call01 {f : FuncId} {args : Array Operand} {ats : Array TypeId} {as : List AV} {k n : Nat} {bt : TypeId} {xs : List IV} (hlt : Nat.ble (d + 1) c.nt = true) [hok : CallTy P f] (hc : CallA P f as [] [(1000, ⟨bt, .r xs 0⟩)] [] (.bsh 1000 0 n k)) (ha : AV.pub.pubs (args.toList.map (St.ev ⟨fr, bx, tk⟩)) = as) (hm : AV.mentsIn [] as = true) (hf : St.fresh d ⟨fr, bx, tk⟩ = true)
    (h : LW P c ⟨(d, .bsh d 0 n k) :: fr, (d, ⟨bt, .r xs 0⟩) :: bx, tk⟩ ops Q rest) : LW P c ⟨fr, bx, tk⟩ ops Q (⟨some d, .call { callee := .value (.func f), args := args, argTypes := ats }, ty, pos, aft, none⟩ :: rest) :=
  L.call01 (st := ⟨fr, bx, tk⟩) rfl rfl hlt rfl hok.h hc ha hm hf h
theorem s_call02 {f : FuncId} {args : Array Operand} {ats : Array TypeId} {as : List AV} {k n k' n' : Nat} {bt bt' : TypeId} {xs xs' : List IV} (hlt : Nat.ble (d + 1) c.nt = true) [hok : CallTy P f] (hc : CallA P f as [] [(1000, ⟨bt, .r xs 0⟩), (1001, ⟨bt', .r xs' 0⟩)] [] (.agg [.bsh 1000 0 n k, .bsh 1001 0 n' k'])) (ha : AV.pub.pubs (args.toList.map (St.ev ⟨fr, bx, tk⟩)) = as) (hm : AV.mentsIn [] as = true) (hf : St.fresh d ⟨fr, bx, tk⟩ = true) (hf2 : St.fresh (d + 2000) ⟨fr, bx, tk⟩ = true)
    (h : LW P c ⟨(d, .agg [.bsh d 0 n k, .bsh (d + 2000) 0 n' k']) :: fr, (d, ⟨bt, .r xs 0⟩) :: (d + 2000, ⟨bt', .r xs' 0⟩) :: bx, tk⟩ ops Q rest) : LW P c ⟨fr, bx, tk⟩ ops Q (⟨some d, .call { callee := .value (.func f), args := args, argTypes := ats }, ty, pos, aft, none⟩ :: rest) :=
  L.call02 (st := ⟨fr, bx, tk⟩) rfl rfl hlt rfl hok.h hc ha hm hf hf2 h
theorem s_call11 {f : FuncId} {args : Array Operand} {ats : Array TypeId} {as : List AV} {a k n n' : Nat} {bt : TypeId} {xs ys : List IV} (hlt : Nat.ble (d + 1) c.nt = true) [hok : CallTy P f] (hc : CallA P f (.bsh 1000 0 n k :: as) [(1000, ⟨bt, .r xs 0⟩)] [(1001, ⟨bt, .r ys 0⟩), (1000, ⟨bt, .l []⟩)] [] (.bsh 1001 0 n' k)) (ha : AV.pub.pubs (args.toList.map (St.ev ⟨fr, bx, tk⟩)) = .bsh a 0 n k :: as) (hb : bx.lookup a = some ⟨bt, .r xs 0⟩) (hxs : xs ≠ []) (hm : AV.mentsIn [] as = true) (hf : St.fresh d ⟨fr, bx, tk⟩ = true)
    (h : LW P c ⟨(d, .bsh d 0 n' k) :: fr, (d, ⟨bt, .r ys 0⟩) :: (a, ⟨bt, .l []⟩) :: bx, tk⟩ ops Q rest) : LW P c ⟨fr, bx, tk⟩ ops Q (⟨some d, .call { callee := .value (.func f), args := args, argTypes := ats }, ty, pos, aft, none⟩ :: rest) :=
  L.call11 (st := ⟨fr, bx, tk⟩) rfl rfl hlt rfl hok.h hc ha hb hxs hm hf h
theorem s_call10 {f : FuncId} {args : Array Operand} {ats : Array TypeId} {as : List AV} {a k n : Nat} {bt : TypeId} {xs : List IV} {res : IV} (hlt : Nat.ble (d + 1) c.nt = true) [hok : CallTy P f] (hc : CallA P f (.bsh 1000 0 n k :: as) [(1000, ⟨bt, .r xs 0⟩)] [(1000, ⟨bt, .l []⟩)] [] (.iv res)) (ha : AV.pub.pubs (args.toList.map (St.ev ⟨fr, bx, tk⟩)) = .bsh a 0 n k :: as) (hb : bx.lookup a = some ⟨bt, .r xs 0⟩) (hxs : xs ≠ []) (hm : AV.mentsIn [] as = true)
    (h : LW P c ⟨(d, .iv res) :: fr, (a, ⟨bt, .l []⟩) :: bx, tk⟩ ops Q rest) : LW P c ⟨fr, bx, tk⟩ ops Q (⟨some d, .call { callee := .value (.func f), args := args, argTypes := ats }, ty, pos, aft, none⟩ :: rest) :=
  L.call10 (st := ⟨fr, bx, tk⟩) rfl rfl hlt rfl hok.h hc ha hb hxs hm h
theorem s_call21 {f : FuncId} {args : Array Operand} {ats : Array TypeId} {i : AV} {a v k n m n' : Nat} {bt bt' : TypeId} {xs vs ys : List IV} (hlt : Nat.ble (d + 1) c.nt = true) [hok : CallTy P f] (hc : CallA P f [.bsh 1000 0 n k, i, .bsl 1001 0 m m] [(1000, ⟨bt, .r xs 0⟩), (1001, ⟨bt', .r vs 0⟩)] [(1002, ⟨bt, .r ys 0⟩), (1000, ⟨bt, .l []⟩), (1001, ⟨bt', .l []⟩)] [] (.bsh 1002 0 n' k)) (ha : AV.pub.pubs (args.toList.map (St.ev ⟨fr, bx, tk⟩)) = [.bsh a 0 n k, i, .bsl v 0 m m])
    (hb : bx.lookup a = some ⟨bt, .r xs 0⟩) (hb2 : bx.lookup v = some ⟨bt', .r vs 0⟩) (hxs : xs ≠ []) (hvs : vs ≠ []) (hav : (a == v) = false) (hm : AV.mentIn [] i = true) (hf : St.fresh d ⟨fr, bx, tk⟩ = true)
    (h : LW P c ⟨(d, .bsh d 0 n' k) :: fr, (d, ⟨bt, .r ys 0⟩) :: (a, ⟨bt, .l []⟩) :: (v, ⟨bt', .l []⟩) :: bx, tk⟩ ops Q rest) : LW P c ⟨fr, bx, tk⟩ ops Q (⟨some d, .call { callee := .value (.func f), args := args, argTypes := ats }, ty, pos, aft, none⟩ :: rest) :=
  L.call21 (st := ⟨fr, bx, tk⟩) rfl rfl hlt rfl hok.h hc ha hb hb2 hxs hvs hav hm hf h
theorem s_eqlNil0 {x y : Operand} {t t' e : TypeId} {k : Nat} (hlt : Nat.ble (d + 1) c.nt = true) (hx : (St.ev ⟨fr, bx, tk⟩ x).sl? = some []) (hy : St.ev ⟨fr, bx, tk⟩ y = .nils) [hs : SliceTy P t e k]
    (h : ∀ b, LW P c ⟨(d, aB b) :: fr, bx, tk⟩ ops Q rest) : LW P c ⟨fr, bx, tk⟩ ops Q (⟨some d, .binOp .eql t x y t', ty, pos, aft, none⟩ :: rest) :=
  L.eqlNil0 (st := ⟨fr, bx, tk⟩) rfl rfl hlt rfl hx hy hs.h h
end
attribute [irreducible] LW
end Go.Abs
