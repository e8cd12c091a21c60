/- Several texts in one, each with its own sentence ahead of it. Conditions: each one says its own. -/
import Derived.Test.YthkobnpogigkiaaDoorZSchemaWith5
/- Commands, bound: what bind, must and where compute. Conditions: how much there is of what comes in. -/
namespace Go.Proofs.YthkobnpogigkiaaDoor
open Go.Abs
set_option maxRecDepth 100000
attribute [local irreducible] L Code.wp bodyPost Exit.then Exit.inBlock
set_option linter.unusedVariables false
set_option linter.unusedSimpArgs false
abbrev BR := Ex × Int × Int
def errM (l : List Int) : Int := (l.find? (fun f => f != 0)).getD 0
def badB : BR := (nilE, 0, 5)
def bindOne (ts : List Tab) (op : Int) (v : Val) (s name : Str) (n f : Int) (es : List Ex) (tys : List Int) : BR :=
  if f ≠ 0 then (nilE, 0, f)
  else if op = 1 then (.mk op v s name n es, v.k, 0)
  else if op = 2 then (.mk op v s name (findM ts s name).1 es, (findM ts s name).2.1, (findM ts s name).2.2)
  else if op = 3 ∨ op = 4 then if allB 1 tys then (.mk op v s name n es, 1, 0) else badB
  else if op = 5 ∨ op = 6 then if (allB 1 tys || allB 2 tys) then (.mk op v s name n es, 3, 0) else badB
  else if op = 7 ∨ op = 8 ∨ op = 9 then if allB 3 tys then (.mk op v s name n es, 3, 0) else badB
  else if op = 10 then (.mk op v s name n es, 3, 0)
  else badB
def bindM (ts : List Tab) : Ex → BR
  | .mk op v s name n l => bindOne ts op v s name n (errM ((l.attach.map fun x => bindM ts x.1).map (·.2.2))) ((l.attach.map fun x => bindM ts x.1).map (·.1)) ((l.attach.map fun x => bindM ts x.1).map (·.2.1))
 decreasing_by
  all_goals
    have := List.sizeOf_lt_of_mem x.2
    simp; omega
theorem bindM_eq (ts : List Tab) (op : Int) (v : Val) (s name : Str) (n : Int) (l : List Ex) :
    bindM ts (.mk op v s name n l) = bindOne ts op v s name n (errM (l.map fun x => (bindM ts x).2.2)) (l.map fun x => (bindM ts x).1) (l.map fun x => (bindM ts x).2.1) := by
  rw [bindM]
  have e : (l.attach.map fun x => bindM ts x.1) = l.map (bindM ts) := by simp
  rw [e]; simp [List.map_map, Function.comp_def]
theorem err_at {l : List Ex} {g : Ex → Int} {i : Nat} {x : Ex} (h : ∀ y ∈ l.take i, g y = 0) (hx : l[i]? = some x) (hp : g x ≠ 0) : errM (l.map g) = g x := by
  have hi := (List.getElem?_eq_some_iff.1 hx).1
  have e : l.map g = (l.take i).map g ++ g x :: (l.drop (i + 1)).map g := by
    rw [← List.map_cons, ← List.map_append, ← (List.getElem?_eq_some_iff.1 hx).2, ← List.drop_eq_getElem_cons hi, List.take_append_drop]
  have hn : ((l.take i).map g).find? (fun f => f != 0) = none := List.find?_eq_none.2 (fun y hy => by obtain ⟨z, hz, rfl⟩ := List.mem_map.1 hy; simp [h z hz])
  have hq : (g x != 0) = true := by simpa using hp
  rw [errM, e, List.find?_append, hn, List.find?_cons, hq]; rfl
theorem err_no {l : List Ex} {g : Ex → Int} (h : ∀ y ∈ l, g y = 0) : errM (l.map g) = 0 := by
  have hn : (l.map g).find? (fun f => f != 0) = none := List.find?_eq_none.2 (fun y hy => by obtain ⟨z, hz, rfl⟩ := List.mem_map.1 hy; simp [h z hz])
  rw [errM, hn]; rfl
theorem take_snocE {g : Ex → Int} {l : List Ex} {i : Nat} {x : Ex} (h : ∀ y ∈ l.take i, g y = 0) (hx : l[i]? = some x) (hp : g x = 0) : ∀ y ∈ l.take (i + 1), g y = 0 := fun y hy => by
  rw [List.take_add_one, hx] at hy
  rcases List.mem_append.1 hy with hy | hy
  · exact h y hy
  · simp at hy; subst hy; exact hp
set_option maxHeartbeats 8000000 in
theorem bind_any (ts : List Tab) (hs : Sc ts) : ∀ (e : Ex) (hok : e.Ok), CallA Tryd.prog 95 [.iv (.sl (ts.map Tab.c)), .agg (e.cs.map .iv)] [] [] [] (.tup [.agg ((bindM ts e).1.cs.map .iv), .iv (I (bindM ts e).2.1), .iv (I (bindM ts e).2.2)])
  | .mk op v s name n l, hok => by
    have ih : ∀ x ∈ l, CallA Tryd.prog 95 [.iv (.sl (ts.map Tab.c)), .agg (x.cs.map .iv)] [] [] [] (.tup [.agg ((bindM ts x).1.cs.map .iv), .iv (I (bindM ts x).2.1), .iv (I (bindM ts x).2.2)]) := fun x hx => bind_any ts hs x (by cases hok with | mk _ h => exact h x hx)
    have hl : l.length * 104 ≤ 140737488355328 := by cases hok with | mk hl _ => exact hl
    have hc : (Ex.mk op v s name n l).cs = [I op, I v.k, I v.n, S v.s, S s, S name, I n, .sl (l.map Ex.c)] := rfl
    rw [bindM_eq, hc]
    clear hc hok
    refine CallG.toA (CallG.intro _ Tryd.func95 rfl Tryd.ntmps95 rfl (fun w0 E0 hG => ?_))
    (repeat' (first | (refine LW.is ?_; first | refine s_v ?_ | refine s_m ?_ | refine s_nil ?_ | refine s_gd ?_ | (refine s_gsplit rfl rfl rfl (fun hb => ?_) (fun hb => ?_) <;> refine fct hb (fun hp => ?_))) | (refine DR.is ?_; first | refine d_v ?_ | refine d_m ?_ | (apply d_nil; kernel_rfl) | refine d_gd ?_ | (refine d_gsplit rfl rfl rfl (fun hb => ?_) (fun hb => ?_) <;> refine fct hb (fun hp => ?_))) | refine c_go ?_ | refine s_region ?_ | refine d_region ?_ | (refine L.cond rfl (fun hb => ?_) (fun hb => ?_) <;> refine fct hb (fun hp => ?_))))
    refine L.adopt 7 (s := 7) (t := 34) (k := 8) rfl rfl rfl ?_
    refine L.adoptB 8 108 3 1 rfl (by simp) rfl rfl (.cons .here .nil) ?_
    refine L.loopP (ι := Nat) (fun i => ⟨[(21, aI (i : Int)), (20, aI ((l.map Ex.c).length : Int)), (19, .iv (.sl (l.map Ex.c))), (7, .row 7 (((l.take i).map fun x => (bindM ts x).1).map Ex.c)), (0, .iv (.sl (ts.map Tab.c))), (3, .ptr 3 0), (4, .ptr 4 0), (8, .ptr 8 0), (5, aI 0), (6, aI 0)],
      [(3, ⟨34, .l [.iv (I op), .iv (I v.k), .iv (I v.n), .iv (S v.s), .iv (S s), .iv (S name), .iv (I n), .iv (.sl (l.map Ex.c))]⟩), (4, ⟨34, .l [.iv (I 0), .iv (I 0), .iv (I 0), .iv (S []), .iv (S []), .iv (S []), .iv (I 0), .nils]⟩), (8, ⟨158, .l [.row 108 (((l.take i).map fun x => (bindM ts x).2.1).map numC)]⟩)], [(7, ⟨34, 8⟩), (108, ⟨3, 1⟩)]⟩) (fun i => l.length - i) (fun i => ∀ x ∈ l.take i, (bindM ts x).2.2 = 0) (i0 := 0) ?_ (by simp) ?_
    · (refine Wk.mk' (by intro id h; cases h) ?_ ?_ ?_ <;> repeat' (first | exact WkF.nil | exact WkB.nil | exact WkT.nil | (refine WkF.cons rfl (Sub.refl _) ?_) | (refine WkB.cons rfl rfl (Subs.refl _) ?_) | (refine WkT.cons rfl ?_)))
    intro i hI K hK
    cases hx : l[i]? with
    | some x =>
      have hlt := ltT (l := l.map Ex.c) (getF (f := Ex.c) hx)
      have hlt' := ltN hx
      have ihx := ih x (List.mem_of_getElem? hx)
      have g1 : (l.map Ex.c)[((i : Nat) : Int).toNat]? = some [I x.op, I x.v.k, I x.v.n, S x.v.s, S x.s, S x.name, I x.n, .sl (x.l.map Ex.c)] := by rw [Int.toNat_natCast, List.getElem?_map, hx]; exact congrArg some (Ex.c_cs x)
      have n1 : ((l.take (i + 1)).map fun x => (bindM ts x).1).map Ex.c = ((l.take i).map fun x => (bindM ts x).1).map Ex.c ++ [(bindM ts x).1.cs] := by rw [takeC hx, List.map_append, List.map_append]; exact congrArg _ (by simp [Ex.c_cs])
      have n2 : ((l.take (i + 1)).map fun x => (bindM ts x).2.1).map numC = ((l.take i).map fun x => (bindM ts x).2.1).map numC ++ [numC (bindM ts x).2.1] := by rw [takeC hx]; simp
      have l1 : (((l.take i).map fun x => (bindM ts x).1).map Ex.c).length = i := by simp; omega
      have l2 : (((l.take i).map fun x => (bindM ts x).2.1).map numC).length = i := by simp; omega
      have k1 : ∀ e ∈ ((l.take i).map fun x => (bindM ts x).1).map Ex.c, e.length = 8 := fun e he => by obtain ⟨y, _, rfl⟩ := List.mem_map.1 he; rw [Ex.c_cs]; rfl
      have k2 : ∀ e ∈ ((l.take i).map fun x => (bindM ts x).2.1).map numC, e.length = 1 := fun e he => by obtain ⟨y, _, rfl⟩ := List.mem_map.1 he; rfl
      by_cases hf : (bindM ts x).2.2 = 0
      · have hI' := take_snocE (g := fun x => (bindM ts x).2.2) hI hx hf
        generalize bindM ts x = r at *
        obtain ⟨e, ty, f⟩ := r
        dsimp only at hf ihx n1 n2
        subst hf
        generalize ((l.take i).map fun x => (bindM ts x).1).map Ex.c = es at *
        generalize ((l.take i).map fun x => (bindM ts x).2.1).map numC = tys at *
        clear hI ih
        (repeat' (first | (refine LW.is ?_; first | (apply s_vr; exact rfl; apply v_indexA; exact rfl; exact rfl; omega; exact g1; exact rfl) | (apply s_call0; exact rfl; exact ihx; exact rfl; exact rfl) | (apply s_append; exact rfl; exact rfl; exact rfl; exact rfl; (first | exact k1 | exact k2); (first | exact len_chunks rfl | exact len_cons rfl len_nil); (first | (simp [maxLen, chunks_length, l1]; omega) | (simp [maxLen, chunks_length, l2]; omega)); (first | (simp [chunks_length, l1]; omega) | (simp [chunks_length, l2]; omega)); exact rfl; exact rfl) | refine s_v ?_ | refine s_m ?_ | refine s_nil ?_ | refine s_gd ?_ | (refine s_gsplit rfl rfl rfl (fun hb => ?_) (fun hb => ?_) <;> refine fct hb (fun hp => ?_))) | (refine DR.is ?_; first | (apply d_vr; exact rfl; apply v_indexA; exact rfl; exact rfl; omega; exact g1; exact rfl) | (apply d_call0; exact rfl; exact ihx; exact rfl; exact rfl) | (apply d_append; exact rfl; exact rfl; exact rfl; exact rfl; (first | exact k1 | exact k2); (first | exact len_chunks rfl | exact len_cons rfl len_nil); (first | (simp [maxLen, chunks_length, l1]; omega) | (simp [maxLen, chunks_length, l2]; omega)); (first | (simp [chunks_length, l1]; omega) | (simp [chunks_length, l2]; omega)); exact rfl; exact rfl) | refine d_v ?_ | refine d_m ?_ | (apply d_nil; kernel_rfl) | refine d_gd ?_ | (refine d_gsplit rfl rfl rfl (fun hb => ?_) (fun hb => ?_) <;> refine fct hb (fun hp => ?_))) | refine c_go ?_ | refine s_region ?_ | refine d_region ?_ | (refine L.cond rfl (fun hb => ?_) (fun hb => ?_) <;> refine fct hb (fun hp => ?_))))
        refine L.onlyS [21, 20, 19, 7, 0, 3, 4, 8, 5, 6] [3, 4, 8] rfl ?_
        refine L.retok 7 39 7 rfl rfl rfl rfl ?_
        refine L.retokB 8 43 108 rfl (by simp) rfl rfl rfl (.cons .row .nil) ?_
        refine hK _ (i + 1) hI' (by omega) (Wk.mk' (by intro id h; cases h) (.cons rfl (Sub.refl _) (.cons rfl (Sub.refl _) (.cons rfl (Sub.refl _) (.cons rfl (Sub.of_eq (congrArg (AV.row 7) n1.symm)) (.cons rfl (Sub.refl _) (.cons rfl (Sub.refl _) (.cons rfl (Sub.refl _) (.cons rfl (Sub.refl _) (.cons rfl (Sub.refl _) (.cons rfl (Sub.refl _) .nil)))))))))) (.cons rfl rfl (Subs.refl _) (.cons rfl rfl (Subs.refl _) (.cons rfl rfl (Subs.cons (Sub.of_eq (congrArg (AV.row 108) n2.symm)) .nil) .nil))) (.cons rfl (.cons rfl .nil)))
      · have he := err_at (g := fun x => (bindM ts x).2.2) hI hx hf
        rw [he]
        generalize bindM ts x = r at *
        obtain ⟨e, ty, f⟩ := r
        dsimp only at hf ihx n1 n2 he ⊢
        have hb : bindOne ts op v s name n f (l.map fun x => (bindM ts x).1) (l.map fun x => (bindM ts x).2.1) = (nilE, 0, f) := by rw [bindOne, if_pos hf]
        rw [hb]
        have q : (f != 0) = true := by simpa using hf
        (repeat' (first | (refine LW.is ?_; first | (apply s_vr; exact rfl; apply v_indexA; exact rfl; exact rfl; omega; exact g1; exact rfl) | (apply s_call0; exact rfl; exact ihx; exact rfl; exact rfl) | refine s_v ?_ | refine s_m ?_ | refine s_nil ?_ | refine s_gd ?_ | (refine s_gsplit rfl rfl rfl (fun hb => ?_) (fun hb => ?_) <;> refine fct hb (fun hp => ?_))) | (refine DR.is ?_; first | (apply d_vr; exact rfl; apply v_indexA; exact rfl; exact rfl; omega; exact g1; exact rfl) | (apply d_call0; exact rfl; exact ihx; exact rfl; exact rfl) | refine d_v ?_ | refine d_m ?_ | (apply d_nil; kernel_rfl) | refine d_gd ?_ | (refine d_gsplit rfl rfl rfl (fun hb => ?_) (fun hb => ?_) <;> refine fct hb (fun hp => ?_))) | refine c_go ?_ | refine s_region ?_ | refine d_region ?_ | (refine L.cond rfl (fun hb => ?_) (fun hb => ?_) <;> refine fct hb (fun hp => ?_))))
        all_goals (first | (apply L.ends1; exact rfl; exact rfl; exact rfl) | (apply L.ends2; exact rfl; exact rfl; exact rfl) | (apply L.ends3; exact rfl; exact rfl; exact rfl) | (apply L.ends1A; exact rfl; exact rfl; exact rfl) | (apply L.ends2A; exact rfl; exact rfl; exact rfl) | (apply L.ends3A; exact rfl; exact rfl; exact rfl))
        all_goals rfl
    | none =>
      have hlt := ltF (l := l.map Ex.c) (getFN hx)
      have hN : l.take i = l := List.take_of_length_le (List.getElem?_eq_none_iff.1 hx)
      rw [hN] at hI ⊢
      rw [err_no (g := fun x => (bindM ts x).2.2) hI]
      have ll : (l.map fun x => (bindM ts x).2.1).length = l.length := by simp
      generalize (l.map fun x => (bindM ts x).1) = es at *
      generalize (l.map fun x => (bindM ts x).2.1) = tys at *
      have kb := fun (k : Int) (b : Bool) (h : allB k tys = b) => (h ▸ (bind1_any (gs := []) k tys (by omega)).at1 (q := 8) rfl rfl rfl rfl : CallG [] Tryd.prog 121 ([aI k] ++ [.ptr 8 0]) [(8, ⟨158, .l [.iv (.sl (tys.map numC))]⟩)] [(8, ⟨158, .l [.iv (.sl (tys.map numC))]⟩)] [] (aB b))
      have kf := find_any ts (.mk op v s name n es) hs
      clear hI ih hK hx hN
      by_cases h1 : op = 1
      · subst h1
        have e : bindOne ts 1 v s name n 0 es tys = (.mk 1 v s name n es, v.k, 0) := by simp [bindOne]
        rw [e]
        (repeat' (first | (apply s_vr; exact rfl; apply v_makeFunc; exact rfl) | (refine LW.is ?_; first | refine s_v ?_ | refine s_m ?_ | refine s_nil ?_ | refine s_gd ?_ | (refine s_gsplit rfl rfl rfl (fun hb => ?_) (fun hb => ?_) <;> refine fct hb (fun hp => ?_))) | (refine DR.is ?_; first | refine d_v ?_ | refine d_m ?_ | (apply d_nil; kernel_rfl) | refine d_gd ?_ | (refine d_gsplit rfl rfl rfl (fun hb => ?_) (fun hb => ?_) <;> refine fct hb (fun hp => ?_))) | refine c_go ?_ | refine s_region ?_ | refine d_region ?_ | (refine L.cond rfl (fun hb => ?_) (fun hb => ?_) <;> refine fct hb (fun hp => ?_))))
        all_goals (first | (apply L.ends1; exact rfl; exact rfl; exact rfl) | (apply L.ends2; exact rfl; exact rfl; exact rfl) | (apply L.ends3; exact rfl; exact rfl; exact rfl) | (apply L.ends1A; exact rfl; exact rfl; exact rfl) | (apply L.ends2A; exact rfl; exact rfl; exact rfl) | (apply L.ends3A; exact rfl; exact rfl; exact rfl))
        all_goals rfl
      have q1 : (op == 1) = false := by simp [h1]
      by_cases h2 : op = 2
      · subst h2
        have e : bindOne ts 2 v s name n 0 es tys = (.mk 2 v s name (findM ts s name).1 es, (findM ts s name).2.1, (findM ts s name).2.2) := by simp [bindOne]
        rw [e]
        have kf : CallA _ _ _ _ _ _ (.tup [.iv (I (findM ts s name).1), .iv (I (findM ts s name).2.1), .iv (I (findM ts s name).2.2)]) := kf
        generalize findM ts s name = r at *
        (repeat' (first | (apply s_vr; exact rfl; apply v_makeFunc; exact rfl) | (refine LW.is ?_; first | (apply s_call0; exact rfl; exact kf; exact rfl; exact rfl) | refine s_v ?_ | refine s_m ?_ | refine s_nil ?_ | refine s_gd ?_ | (refine s_gsplit rfl rfl rfl (fun hb => ?_) (fun hb => ?_) <;> refine fct hb (fun hp => ?_))) | (refine DR.is ?_; first | (apply d_call0; exact rfl; exact kf; exact rfl; exact rfl) | refine d_v ?_ | refine d_m ?_ | (apply d_nil; kernel_rfl) | refine d_gd ?_ | (refine d_gsplit rfl rfl rfl (fun hb => ?_) (fun hb => ?_) <;> refine fct hb (fun hp => ?_))) | refine c_go ?_ | refine s_region ?_ | refine d_region ?_ | (refine L.cond rfl (fun hb => ?_) (fun hb => ?_) <;> refine fct hb (fun hp => ?_))))
        all_goals (first | (apply L.ends1; exact rfl; exact rfl; exact rfl) | (apply L.ends2; exact rfl; exact rfl; exact rfl) | (apply L.ends3; exact rfl; exact rfl; exact rfl) | (apply L.ends1A; exact rfl; exact rfl; exact rfl) | (apply L.ends2A; exact rfl; exact rfl; exact rfl) | (apply L.ends3A; exact rfl; exact rfl; exact rfl))
        all_goals rfl
      have q2 : (op == 2) = false := by simp [h2]
      by_cases h34 : op = 3 ∨ op = 4
      · cases ha : allB 1 tys with
        | true =>
          have e : bindOne ts op v s name n 0 es tys = (.mk op v s name n es, 1, 0) := by rcases h34 with rfl | rfl <;> simp [bindOne, ha]
          rw [e]
          have kc := kb 1 true ha
          rcases h34 with rfl | rfl
          all_goals (repeat' (first | (apply s_vr; exact rfl; apply v_makeFunc; exact rfl) | (apply s_callFn (f := 121) (caps := [.ptr 8 0]); exact rfl; exact hG; exact rfl; exact kc; exact rfl; exact .cons rfl rfl (Subs.cons (Sub.row _ _) .nil) .nil; exact rfl; exact rfl) | (refine LW.is ?_; first | refine s_v ?_ | refine s_m ?_ | refine s_nil ?_ | refine s_gd ?_ | (refine s_gsplit rfl rfl rfl (fun hb => ?_) (fun hb => ?_) <;> refine fct hb (fun hp => ?_))) | (refine DR.is ?_; first | refine d_v ?_ | refine d_m ?_ | (apply d_nil; kernel_rfl) | refine d_gd ?_ | (refine d_gsplit rfl rfl rfl (fun hb => ?_) (fun hb => ?_) <;> refine fct hb (fun hp => ?_))) | refine c_go ?_ | refine s_region ?_ | refine d_region ?_ | (refine L.cond rfl (fun hb => ?_) (fun hb => ?_) <;> refine fct hb (fun hp => ?_))))
          all_goals (first | (apply L.ends1; exact rfl; exact rfl; exact rfl) | (apply L.ends2; exact rfl; exact rfl; exact rfl) | (apply L.ends3; exact rfl; exact rfl; exact rfl) | (apply L.ends1A; exact rfl; exact rfl; exact rfl) | (apply L.ends2A; exact rfl; exact rfl; exact rfl) | (apply L.ends3A; exact rfl; exact rfl; exact rfl))
          all_goals rfl
        | false =>
          have e : bindOne ts op v s name n 0 es tys = badB := by rcases h34 with rfl | rfl <;> simp [bindOne, ha]
          rw [e]
          have kc := kb 1 false ha
          rcases h34 with rfl | rfl
          all_goals (repeat' (first | (apply s_vr; exact rfl; apply v_makeFunc; exact rfl) | (apply s_callFn (f := 121) (caps := [.ptr 8 0]); exact rfl; exact hG; exact rfl; exact kc; exact rfl; exact .cons rfl rfl (Subs.cons (Sub.row _ _) .nil) .nil; exact rfl; exact rfl) | (refine LW.is ?_; first | refine s_v ?_ | refine s_m ?_ | refine s_nil ?_ | refine s_gd ?_ | (refine s_gsplit rfl rfl rfl (fun hb => ?_) (fun hb => ?_) <;> refine fct hb (fun hp => ?_))) | (refine DR.is ?_; first | refine d_v ?_ | refine d_m ?_ | (apply d_nil; kernel_rfl) | refine d_gd ?_ | (refine d_gsplit rfl rfl rfl (fun hb => ?_) (fun hb => ?_) <;> refine fct hb (fun hp => ?_))) | refine c_go ?_ | refine s_region ?_ | refine d_region ?_ | (refine L.cond rfl (fun hb => ?_) (fun hb => ?_) <;> refine fct hb (fun hp => ?_))))
          all_goals (first | (apply L.ends1; exact rfl; exact rfl; exact rfl) | (apply L.ends2; exact rfl; exact rfl; exact rfl) | (apply L.ends3; exact rfl; exact rfl; exact rfl) | (apply L.ends1A; exact rfl; exact rfl; exact rfl) | (apply L.ends2A; exact rfl; exact rfl; exact rfl) | (apply L.ends3A; exact rfl; exact rfl; exact rfl))
          all_goals rfl
      have q3 : (op == 3) = false := by simp; omega
      have q4 : (op == 4) = false := by simp; omega
      by_cases h56 : op = 5 ∨ op = 6
      · cases ha : allB 1 tys with
        | true =>
          have e : bindOne ts op v s name n 0 es tys = (.mk op v s name n es, 3, 0) := by rcases h56 with rfl | rfl <;> simp [bindOne, ha]
          rw [e]
          have kc := kb 1 true ha
          rcases h56 with rfl | rfl
          all_goals (repeat' (first | (apply s_vr; exact rfl; apply v_makeFunc; exact rfl) | (apply s_callFn (f := 121) (caps := [.ptr 8 0]); exact rfl; exact hG; exact rfl; exact kc; exact rfl; exact .cons rfl rfl (Subs.cons (Sub.row _ _) .nil) .nil; exact rfl; exact rfl) | (refine LW.is ?_; first | refine s_v ?_ | refine s_m ?_ | refine s_nil ?_ | refine s_gd ?_ | (refine s_gsplit rfl rfl rfl (fun hb => ?_) (fun hb => ?_) <;> refine fct hb (fun hp => ?_))) | (refine DR.is ?_; first | refine d_v ?_ | refine d_m ?_ | (apply d_nil; kernel_rfl) | refine d_gd ?_ | (refine d_gsplit rfl rfl rfl (fun hb => ?_) (fun hb => ?_) <;> refine fct hb (fun hp => ?_))) | refine c_go ?_ | refine s_region ?_ | refine d_region ?_ | (refine L.cond rfl (fun hb => ?_) (fun hb => ?_) <;> refine fct hb (fun hp => ?_))))
          all_goals (first | (apply L.ends1; exact rfl; exact rfl; exact rfl) | (apply L.ends2; exact rfl; exact rfl; exact rfl) | (apply L.ends3; exact rfl; exact rfl; exact rfl) | (apply L.ends1A; exact rfl; exact rfl; exact rfl) | (apply L.ends2A; exact rfl; exact rfl; exact rfl) | (apply L.ends3A; exact rfl; exact rfl; exact rfl))
          all_goals rfl
        | false =>
          have kc := kb 1 false ha
          cases hb : allB 2 tys with
          | true =>
            have e : bindOne ts op v s name n 0 es tys = (.mk op v s name n es, 3, 0) := by rcases h56 with rfl | rfl <;> simp [bindOne, ha, hb]
            rw [e]
            have kd := kb 2 true hb
            rcases h56 with rfl | rfl
            all_goals (repeat' (first | (apply s_vr; exact rfl; apply v_makeFunc; exact rfl) | (apply s_callFn (f := 121) (caps := [.ptr 8 0]); exact rfl; exact hG; exact rfl; exact kc; exact rfl; exact .cons rfl rfl (Subs.cons (Sub.row _ _) .nil) .nil; exact rfl; exact rfl) | (apply s_callFn (f := 121) (caps := [.ptr 8 0]); exact rfl; exact hG; exact rfl; exact kd; exact rfl; exact .cons rfl rfl (Subs.refl _) .nil; exact rfl; exact rfl) | (refine LW.is ?_; first | refine s_v ?_ | refine s_m ?_ | refine s_nil ?_ | refine s_gd ?_ | (refine s_gsplit rfl rfl rfl (fun hb => ?_) (fun hb => ?_) <;> refine fct hb (fun hp => ?_))) | (refine DR.is ?_; first | refine d_v ?_ | refine d_m ?_ | (apply d_nil; kernel_rfl) | refine d_gd ?_ | (refine d_gsplit rfl rfl rfl (fun hb => ?_) (fun hb => ?_) <;> refine fct hb (fun hp => ?_))) | refine c_go ?_ | refine s_region ?_ | refine d_region ?_ | (refine L.cond rfl (fun hb => ?_) (fun hb => ?_) <;> refine fct hb (fun hp => ?_))))
            all_goals (first | (apply L.ends1; exact rfl; exact rfl; exact rfl) | (apply L.ends2; exact rfl; exact rfl; exact rfl) | (apply L.ends3; exact rfl; exact rfl; exact rfl) | (apply L.ends1A; exact rfl; exact rfl; exact rfl) | (apply L.ends2A; exact rfl; exact rfl; exact rfl) | (apply L.ends3A; exact rfl; exact rfl; exact rfl))
            all_goals rfl
          | false =>
            have e : bindOne ts op v s name n 0 es tys = badB := by rcases h56 with rfl | rfl <;> simp [bindOne, ha, hb]
            rw [e]
            have kd := kb 2 false hb
            rcases h56 with rfl | rfl
            all_goals (repeat' (first | (apply s_vr; exact rfl; apply v_makeFunc; exact rfl) | (apply s_callFn (f := 121) (caps := [.ptr 8 0]); exact rfl; exact hG; exact rfl; exact kc; exact rfl; exact .cons rfl rfl (Subs.cons (Sub.row _ _) .nil) .nil; exact rfl; exact rfl) | (apply s_callFn (f := 121) (caps := [.ptr 8 0]); exact rfl; exact hG; exact rfl; exact kd; exact rfl; exact .cons rfl rfl (Subs.refl _) .nil; exact rfl; exact rfl) | (refine LW.is ?_; first | refine s_v ?_ | refine s_m ?_ | refine s_nil ?_ | refine s_gd ?_ | (refine s_gsplit rfl rfl rfl (fun hb => ?_) (fun hb => ?_) <;> refine fct hb (fun hp => ?_))) | (refine DR.is ?_; first | refine d_v ?_ | refine d_m ?_ | (apply d_nil; kernel_rfl) | refine d_gd ?_ | (refine d_gsplit rfl rfl rfl (fun hb => ?_) (fun hb => ?_) <;> refine fct hb (fun hp => ?_))) | refine c_go ?_ | refine s_region ?_ | refine d_region ?_ | (refine L.cond rfl (fun hb => ?_) (fun hb => ?_) <;> refine fct hb (fun hp => ?_))))
            all_goals (first | (apply L.ends1; exact rfl; exact rfl; exact rfl) | (apply L.ends2; exact rfl; exact rfl; exact rfl) | (apply L.ends3; exact rfl; exact rfl; exact rfl) | (apply L.ends1A; exact rfl; exact rfl; exact rfl) | (apply L.ends2A; exact rfl; exact rfl; exact rfl) | (apply L.ends3A; exact rfl; exact rfl; exact rfl))
            all_goals rfl
      have q5 : (op == 5) = false := by simp; omega
      have q6 : (op == 6) = false := by simp; omega
      by_cases h789 : op = 7 ∨ op = 8 ∨ op = 9
      · cases ha : allB 3 tys with
        | true =>
          have e : bindOne ts op v s name n 0 es tys = (.mk op v s name n es, 3, 0) := by rcases h789 with rfl | rfl | rfl <;> simp [bindOne, ha]
          rw [e]
          have kc := kb 3 true ha
          rcases h789 with rfl | rfl | rfl
          all_goals (repeat' (first | (apply s_vr; exact rfl; apply v_makeFunc; exact rfl) | (apply s_callFn (f := 121) (caps := [.ptr 8 0]); exact rfl; exact hG; exact rfl; exact kc; exact rfl; exact .cons rfl rfl (Subs.cons (Sub.row _ _) .nil) .nil; exact rfl; exact rfl) | (refine LW.is ?_; first | refine s_v ?_ | refine s_m ?_ | refine s_nil ?_ | refine s_gd ?_ | (refine s_gsplit rfl rfl rfl (fun hb => ?_) (fun hb => ?_) <;> refine fct hb (fun hp => ?_))) | (refine DR.is ?_; first | refine d_v ?_ | refine d_m ?_ | (apply d_nil; kernel_rfl) | refine d_gd ?_ | (refine d_gsplit rfl rfl rfl (fun hb => ?_) (fun hb => ?_) <;> refine fct hb (fun hp => ?_))) | refine c_go ?_ | refine s_region ?_ | refine d_region ?_ | (refine L.cond rfl (fun hb => ?_) (fun hb => ?_) <;> refine fct hb (fun hp => ?_))))
          all_goals (first | (apply L.ends1; exact rfl; exact rfl; exact rfl) | (apply L.ends2; exact rfl; exact rfl; exact rfl) | (apply L.ends3; exact rfl; exact rfl; exact rfl) | (apply L.ends1A; exact rfl; exact rfl; exact rfl) | (apply L.ends2A; exact rfl; exact rfl; exact rfl) | (apply L.ends3A; exact rfl; exact rfl; exact rfl))
          all_goals rfl
        | false =>
          have e : bindOne ts op v s name n 0 es tys = badB := by rcases h789 with rfl | rfl | rfl <;> simp [bindOne, ha]
          rw [e]
          have kc := kb 3 false ha
          rcases h789 with rfl | rfl | rfl
          all_goals (repeat' (first | (apply s_vr; exact rfl; apply v_makeFunc; exact rfl) | (apply s_callFn (f := 121) (caps := [.ptr 8 0]); exact rfl; exact hG; exact rfl; exact kc; exact rfl; exact .cons rfl rfl (Subs.cons (Sub.row _ _) .nil) .nil; exact rfl; exact rfl) | (refine LW.is ?_; first | refine s_v ?_ | refine s_m ?_ | refine s_nil ?_ | refine s_gd ?_ | (refine s_gsplit rfl rfl rfl (fun hb => ?_) (fun hb => ?_) <;> refine fct hb (fun hp => ?_))) | (refine DR.is ?_; first | refine d_v ?_ | refine d_m ?_ | (apply d_nil; kernel_rfl) | refine d_gd ?_ | (refine d_gsplit rfl rfl rfl (fun hb => ?_) (fun hb => ?_) <;> refine fct hb (fun hp => ?_))) | refine c_go ?_ | refine s_region ?_ | refine d_region ?_ | (refine L.cond rfl (fun hb => ?_) (fun hb => ?_) <;> refine fct hb (fun hp => ?_))))
          all_goals (first | (apply L.ends1; exact rfl; exact rfl; exact rfl) | (apply L.ends2; exact rfl; exact rfl; exact rfl) | (apply L.ends3; exact rfl; exact rfl; exact rfl) | (apply L.ends1A; exact rfl; exact rfl; exact rfl) | (apply L.ends2A; exact rfl; exact rfl; exact rfl) | (apply L.ends3A; exact rfl; exact rfl; exact rfl))
          all_goals rfl
      have q7 : (op == 7) = false := by simp; omega
      have q8 : (op == 8) = false := by simp; omega
      have q9 : (op == 9) = false := by simp; omega
      by_cases h10 : op = 10
      · subst h10
        have e : bindOne ts 10 v s name n 0 es tys = (.mk 10 v s name n es, 3, 0) := by simp [bindOne]
        rw [e]
        (repeat' (first | (apply s_vr; exact rfl; apply v_makeFunc; exact rfl) | (refine LW.is ?_; first | refine s_v ?_ | refine s_m ?_ | refine s_nil ?_ | refine s_gd ?_ | (refine s_gsplit rfl rfl rfl (fun hb => ?_) (fun hb => ?_) <;> refine fct hb (fun hp => ?_))) | (refine DR.is ?_; first | refine d_v ?_ | refine d_m ?_ | (apply d_nil; kernel_rfl) | refine d_gd ?_ | (refine d_gsplit rfl rfl rfl (fun hb => ?_) (fun hb => ?_) <;> refine fct hb (fun hp => ?_))) | refine c_go ?_ | refine s_region ?_ | refine d_region ?_ | (refine L.cond rfl (fun hb => ?_) (fun hb => ?_) <;> refine fct hb (fun hp => ?_))))
        all_goals (first | (apply L.ends1; exact rfl; exact rfl; exact rfl) | (apply L.ends2; exact rfl; exact rfl; exact rfl) | (apply L.ends3; exact rfl; exact rfl; exact rfl) | (apply L.ends1A; exact rfl; exact rfl; exact rfl) | (apply L.ends2A; exact rfl; exact rfl; exact rfl) | (apply L.ends3A; exact rfl; exact rfl; exact rfl))
        all_goals rfl
      have q10 : (op == 10) = false := by simp [h10]
      have e : bindOne ts op v s name n 0 es tys = badB := by simp [bindOne, h1, h2, h34, h56, h789, h10]
      rw [e]
      (repeat' (first | (apply s_vr; exact rfl; apply v_makeFunc; exact rfl) | (refine LW.is ?_; first | refine s_v ?_ | refine s_m ?_ | refine s_nil ?_ | refine s_gd ?_ | (refine s_gsplit rfl rfl rfl (fun hb => ?_) (fun hb => ?_) <;> refine fct hb (fun hp => ?_))) | (refine DR.is ?_; first | refine d_v ?_ | refine d_m ?_ | (apply d_nil; kernel_rfl) | refine d_gd ?_ | (refine d_gsplit rfl rfl rfl (fun hb => ?_) (fun hb => ?_) <;> refine fct hb (fun hp => ?_))) | refine c_go ?_ | refine s_region ?_ | refine d_region ?_ | (refine L.cond rfl (fun hb => ?_) (fun hb => ?_) <;> refine fct hb (fun hp => ?_))))
      all_goals (first | (apply L.ends1; exact rfl; exact rfl; exact rfl) | (apply L.ends2; exact rfl; exact rfl; exact rfl) | (apply L.ends3; exact rfl; exact rfl; exact rfl) | (apply L.ends1A; exact rfl; exact rfl; exact rfl) | (apply L.ends2A; exact rfl; exact rfl; exact rfl) | (apply L.ends3A; exact rfl; exact rfl; exact rfl))
      all_goals rfl
 termination_by e => SizeOf.sizeOf e
 decreasing_by
  have := List.sizeOf_lt_of_mem hx
  simp; omega
end Go.Proofs.YthkobnpogigkiaaDoor
/- Commands, bound: what must, where and GoodExpr compute. Conditions: how much there is of what comes in. -/
namespace Go.Proofs.YthkobnpogigkiaaDoor
open Go.Abs
set_option maxRecDepth 100000
attribute [local irreducible] L Code.wp bodyPost Exit.then Exit.inBlock
set_option linter.unusedVariables false
set_option linter.unusedSimpArgs false
def mustM (ts : List Tab) (e : Ex) (k : Int) : Ex × Int :=
  if (bindM ts e).2.2 ≠ 0 then (nilE, (bindM ts e).2.2)
  else if ((bindM ts e).2.1 != k) && ((bindM ts e).2.1 != 0) then (nilE, 5) else ((bindM ts e).1, 0)
def whereM (ts : List Tab) (e : Ex) : Ex × Int := if e.op = 0 then (e, 0) else mustM ts e 3
theorem must_any (ts : List Tab) (hs : Sc ts) (e : Ex) (hok : e.Ok) (k : Int) :
    CallA Tryd.prog 91 [.iv (.sl (ts.map Tab.c)), .agg (e.cs.map .iv), aI k] [] [] [] (.tup [.agg ((mustM ts e k).1.cs.map .iv), .iv (I (mustM ts e k).2)]) := by
  have kb := bind_any ts hs e hok
  unfold mustM
  generalize bindM ts e = r at *
  obtain ⟨b, t, f⟩ := r
  dsimp only at kb ⊢
  obtain ⟨op, v, s, name, n, l⟩ := e
  have hc : (Ex.mk op v s name n l).cs = [I op, I v.k, I v.n, S v.s, S s, S name, I n, .sl (l.map Ex.c)] := rfl
  rw [hc] at kb ⊢
  refine CallA.intro _ Tryd.func91 rfl Tryd.ntmps91 rfl (fun w0 E0 => ?_)
  by_cases hf : f = 0
  · have q : (f != 0) = false := by simp [hf]
    rw [if_neg (by simp [hf])]
    cases h1 : t != k with
    | false =>
      rw [Bool.false_and, if_neg (by simp)]
      (repeat' (first | (refine LW.is ?_; first | (apply s_call0; exact rfl; exact kb; exact rfl; exact rfl) | refine s_v ?_ | refine s_m ?_ | refine s_nil ?_ | refine s_gd ?_ | (refine s_gsplit rfl rfl rfl (fun hb => ?_) (fun hb => ?_) <;> refine fct hb (fun hp => ?_))) | (refine DR.is ?_; first | (apply d_call0; exact rfl; exact kb; exact rfl; exact rfl) | refine d_v ?_ | refine d_m ?_ | (apply d_nil; kernel_rfl) | refine d_gd ?_ | (refine d_gsplit rfl rfl rfl (fun hb => ?_) (fun hb => ?_) <;> refine fct hb (fun hp => ?_))) | refine c_go ?_ | refine s_region ?_ | refine d_region ?_ | (refine L.cond rfl (fun hb => ?_) (fun hb => ?_) <;> refine fct hb (fun hp => ?_))))
      all_goals (first | (apply L.ends1; exact rfl; exact rfl; exact rfl) | (apply L.ends2; exact rfl; exact rfl; exact rfl) | (apply L.ends3; exact rfl; exact rfl; exact rfl) | (apply L.ends1A; exact rfl; exact rfl; exact rfl) | (apply L.ends2A; exact rfl; exact rfl; exact rfl) | (apply L.ends3A; exact rfl; exact rfl; exact rfl))
      all_goals rfl
    | true =>
      cases h2 : t != 0 with
      | false =>
        rw [Bool.and_false, if_neg (by simp)]
        (repeat' (first | (refine LW.is ?_; first | (apply s_call0; exact rfl; exact kb; exact rfl; exact rfl) | refine s_v ?_ | refine s_m ?_ | refine s_nil ?_ | refine s_gd ?_ | (refine s_gsplit rfl rfl rfl (fun hb => ?_) (fun hb => ?_) <;> refine fct hb (fun hp => ?_))) | (refine DR.is ?_; first | (apply d_call0; exact rfl; exact kb; exact rfl; exact rfl) | refine d_v ?_ | refine d_m ?_ | (apply d_nil; kernel_rfl) | refine d_gd ?_ | (refine d_gsplit rfl rfl rfl (fun hb => ?_) (fun hb => ?_) <;> refine fct hb (fun hp => ?_))) | refine c_go ?_ | refine s_region ?_ | refine d_region ?_ | (refine L.cond rfl (fun hb => ?_) (fun hb => ?_) <;> refine fct hb (fun hp => ?_))))
        all_goals (first | (apply L.ends1; exact rfl; exact rfl; exact rfl) | (apply L.ends2; exact rfl; exact rfl; exact rfl) | (apply L.ends3; exact rfl; exact rfl; exact rfl) | (apply L.ends1A; exact rfl; exact rfl; exact rfl) | (apply L.ends2A; exact rfl; exact rfl; exact rfl) | (apply L.ends3A; exact rfl; exact rfl; exact rfl))
        all_goals rfl
      | true =>
        rw [Bool.and_true, if_pos rfl]
        (repeat' (first | (refine LW.is ?_; first | (apply s_call0; exact rfl; exact kb; exact rfl; exact rfl) | refine s_v ?_ | refine s_m ?_ | refine s_nil ?_ | refine s_gd ?_ | (refine s_gsplit rfl rfl rfl (fun hb => ?_) (fun hb => ?_) <;> refine fct hb (fun hp => ?_))) | (refine DR.is ?_; first | (apply d_call0; exact rfl; exact kb; exact rfl; exact rfl) | refine d_v ?_ | refine d_m ?_ | (apply d_nil; kernel_rfl) | refine d_gd ?_ | (refine d_gsplit rfl rfl rfl (fun hb => ?_) (fun hb => ?_) <;> refine fct hb (fun hp => ?_))) | refine c_go ?_ | refine s_region ?_ | refine d_region ?_ | (refine L.cond rfl (fun hb => ?_) (fun hb => ?_) <;> refine fct hb (fun hp => ?_))))
        all_goals (first | (apply L.ends1; exact rfl; exact rfl; exact rfl) | (apply L.ends2; exact rfl; exact rfl; exact rfl) | (apply L.ends3; exact rfl; exact rfl; exact rfl) | (apply L.ends1A; exact rfl; exact rfl; exact rfl) | (apply L.ends2A; exact rfl; exact rfl; exact rfl) | (apply L.ends3A; exact rfl; exact rfl; exact rfl))
        all_goals rfl
  · have q : (f != 0) = true := by simp [hf]
    rw [if_pos hf]
    (repeat' (first | (refine LW.is ?_; first | (apply s_call0; exact rfl; exact kb; exact rfl; exact rfl) | refine s_v ?_ | refine s_m ?_ | refine s_nil ?_ | refine s_gd ?_ | (refine s_gsplit rfl rfl rfl (fun hb => ?_) (fun hb => ?_) <;> refine fct hb (fun hp => ?_))) | (refine DR.is ?_; first | (apply d_call0; exact rfl; exact kb; exact rfl; exact rfl) | refine d_v ?_ | refine d_m ?_ | (apply d_nil; kernel_rfl) | refine d_gd ?_ | (refine d_gsplit rfl rfl rfl (fun hb => ?_) (fun hb => ?_) <;> refine fct hb (fun hp => ?_))) | refine c_go ?_ | refine s_region ?_ | refine d_region ?_ | (refine L.cond rfl (fun hb => ?_) (fun hb => ?_) <;> refine fct hb (fun hp => ?_))))
    all_goals (first | (apply L.ends1; exact rfl; exact rfl; exact rfl) | (apply L.ends2; exact rfl; exact rfl; exact rfl) | (apply L.ends3; exact rfl; exact rfl; exact rfl) | (apply L.ends1A; exact rfl; exact rfl; exact rfl) | (apply L.ends2A; exact rfl; exact rfl; exact rfl) | (apply L.ends3A; exact rfl; exact rfl; exact rfl))
    all_goals rfl
theorem where_any (ts : List Tab) (hs : Sc ts) (e : Ex) (hok : e.Ok) :
    CallA Tryd.prog 94 [.iv (.sl (ts.map Tab.c)), .agg (e.cs.map .iv)] [] [] [] (.tup [.agg ((whereM ts e).1.cs.map .iv), .iv (I (whereM ts e).2)]) := by
  have kb := must_any ts hs e hok 3
  unfold whereM
  generalize mustM ts e 3 = r at *
  obtain ⟨b, f⟩ := r
  dsimp only at kb ⊢
  obtain ⟨op, v, s, name, n, l⟩ := e
  have hc : (Ex.mk op v s name n l).cs = [I op, I v.k, I v.n, S v.s, S s, S name, I n, .sl (l.map Ex.c)] := rfl
  have ho : (Ex.mk op v s name n l).op = op := rfl
  rw [ho]
  refine CallA.intro _ Tryd.func94 rfl Tryd.ntmps94 rfl (fun w0 E0 => ?_)
  by_cases h0 : op = 0
  · have q : (op == 0) = true := by simp [h0]
    rw [if_pos h0, hc]
    rw [hc] at kb
    (repeat' (first | (refine LW.is ?_; first | refine s_v ?_ | refine s_m ?_ | refine s_nil ?_ | refine s_gd ?_ | (refine s_gsplit rfl rfl rfl (fun hb => ?_) (fun hb => ?_) <;> refine fct hb (fun hp => ?_))) | (refine DR.is ?_; first | refine d_v ?_ | refine d_m ?_ | (apply d_nil; kernel_rfl) | refine d_gd ?_ | (refine d_gsplit rfl rfl rfl (fun hb => ?_) (fun hb => ?_) <;> refine fct hb (fun hp => ?_))) | refine c_go ?_ | refine s_region ?_ | refine d_region ?_ | (refine L.cond rfl (fun hb => ?_) (fun hb => ?_) <;> refine fct hb (fun hp => ?_))))
    all_goals (first | (apply L.ends1; exact rfl; exact rfl; exact rfl) | (apply L.ends2; exact rfl; exact rfl; exact rfl) | (apply L.ends3; exact rfl; exact rfl; exact rfl) | (apply L.ends1A; exact rfl; exact rfl; exact rfl) | (apply L.ends2A; exact rfl; exact rfl; exact rfl) | (apply L.ends3A; exact rfl; exact rfl; exact rfl))
    all_goals rfl
  · have q : (op == 0) = false := by simp [h0]
    rw [if_neg h0, hc]
    rw [hc] at kb
    (repeat' (first | (refine LW.is ?_; first | (apply s_call0; exact rfl; exact kb; exact rfl; exact rfl) | refine s_v ?_ | refine s_m ?_ | refine s_nil ?_ | refine s_gd ?_ | (refine s_gsplit rfl rfl rfl (fun hb => ?_) (fun hb => ?_) <;> refine fct hb (fun hp => ?_))) | (refine DR.is ?_; first | (apply d_call0; exact rfl; exact kb; exact rfl; exact rfl) | refine d_v ?_ | refine d_m ?_ | (apply d_nil; kernel_rfl) | refine d_gd ?_ | (refine d_gsplit rfl rfl rfl (fun hb => ?_) (fun hb => ?_) <;> refine fct hb (fun hp => ?_))) | refine c_go ?_ | refine s_region ?_ | refine d_region ?_ | (refine L.cond rfl (fun hb => ?_) (fun hb => ?_) <;> refine fct hb (fun hp => ?_))))
    all_goals (first | (apply L.ends1; exact rfl; exact rfl; exact rfl) | (apply L.ends2; exact rfl; exact rfl; exact rfl) | (apply L.ends3; exact rfl; exact rfl; exact rfl) | (apply L.ends1A; exact rfl; exact rfl; exact rfl) | (apply L.ends2A; exact rfl; exact rfl; exact rfl) | (apply L.ends3A; exact rfl; exact rfl; exact rfl))
    all_goals rfl
inductive Ex.OkS : Ex → Prop
  | mk {op : Int} {v : Val} {s name : List UInt8} {n : Int} {l : List Ex} (hl : l.length * 104 ≤ 140737488355328) (hs : s.length ≤ 140737488355328) (hn : name.length ≤ 140737488355328) (h : ∀ x ∈ l, x.OkS) : Ex.OkS (.mk op v s name n l)
def tblE : List (Int × Int) := [(1, 0), (2, 0), (3, 2), (4, 2), (5, 2), (6, 2), (7, 2), (8, 2), (9, 1), (10, 1)]
def bad2M (op : Int) (v : Val) (s name : Str) : Bool := ((op == 1) && !goodM v) || ((op == 2) && !(namedM name && ((s == []) || namedM s)))
def goodExM (d : Int) : Ex → Bool
  | .mk op v s name n l => match lookM tblE op with
    | none => false
    | some k => !(((l.length : Int) != k) || decide (40 < d)) && (!bad2M op v s name && !((l.attach.map fun x => goodExM (d + 1) x.1).any (fun b => !b)))
 decreasing_by
  have := List.sizeOf_lt_of_mem x.2
  simp; omega
theorem goodExM_eq (d op : Int) (v : Val) (s name : Str) (n : Int) (l : List Ex) : goodExM d (.mk op v s name n l) = match lookM tblE op with
    | none => false
    | some k => !(((l.length : Int) != k) || decide (40 < d)) && (!bad2M op v s name && !(l.any (fun x => !goodExM (d + 1) x))) := by
  rw [goodExM]
  have e : (l.attach.map fun x => goodExM (d + 1) x.1) = l.map (goodExM (d + 1)) := by simp
  rw [e, List.any_map]; rfl
theorem mapTy_int : MapTy Tryd.prog 139 := ⟨3, 3, by kernel_rfl, by kernel_rfl, by kernel_rfl⟩
theorem goodEx1_any {d : Int} (hd : d ≤ 40) (hd0 : 0 ≤ d) {x : Ex} {b : Bool} (h : CallG gs0 Tryd.prog 44 [.agg (x.cs.map .iv), aI (d + 1)] [] [] [] (aB b)) :
    CallG gs0 Tryd.prog 88 [.agg (x.cs.map .iv), .ptr 1000 0] [(1000, ⟨3, .l [aI d]⟩)] [(1000, ⟨3, .l [aI d]⟩)] [] (aB (!b)) := by
  refine CallG.intro _ Tryd.func88 rfl Tryd.ntmps88 rfl (fun w0 E0 hG => ?_)
  (repeat' (first | (refine LW.is ?_; first | (apply s_callG; exact rfl; exact hG; exact h; exact rfl; exact rfl) | refine s_v ?_ | refine s_m ?_ | refine s_nil ?_ | refine s_gd ?_ | (refine s_gsplit rfl rfl rfl (fun hb => ?_) (fun hb => ?_) <;> refine fct hb (fun hp => ?_))) | (refine DR.is ?_; first | (apply d_callG; exact rfl; exact hG; exact h; exact rfl; exact rfl) | refine d_v ?_ | refine d_m ?_ | (apply d_nil; kernel_rfl) | refine d_gd ?_ | (refine d_gsplit rfl rfl rfl (fun hb => ?_) (fun hb => ?_) <;> refine fct hb (fun hp => ?_))) | refine c_go ?_ | refine s_region ?_ | refine d_region ?_ | (refine L.cond rfl (fun hb => ?_) (fun hb => ?_) <;> refine fct hb (fun hp => ?_))))
  all_goals (apply L.ends; exact rfl; exact rfl; exact Sub.refl _; exact Wk.mk' (by intro id h; simp [keys] at h; subst h; rfl) .nil (.cons rfl rfl (Subs.refl _) .nil) .nil)
set_option maxHeartbeats 8000000 in
theorem goodEx_any : ∀ (e : Ex) (hok : e.OkS) (d : Int) (hd0 : 0 ≤ d) (hd : d ≤ 41), CallG gs0 Tryd.prog 44 [.agg (e.cs.map .iv), aI d] [] [] [] (aB (goodExM d e))
  | .mk op v s name n l, hok, d, hd0, hd => by
    have ih : d ≤ 40 → ∀ x ∈ l, CallG gs0 Tryd.prog 44 [.agg (x.cs.map .iv), aI (d + 1)] [] [] [] (aB (goodExM (d + 1) x)) := fun h40 x hx => goodEx_any x (by cases hok with | mk _ _ _ h => exact h x hx) (d + 1) (by omega) (by omega)
    obtain ⟨hl, hsl, hnl⟩ : l.length * 104 ≤ 140737488355328 ∧ s.length ≤ 140737488355328 ∧ name.length ≤ 140737488355328 := by cases hok with | mk hl hs hn _ => exact ⟨hl, hs, hn⟩
    have hc : (Ex.mk op v s name n l).cs = [I op, I v.k, I v.n, S v.s, S s, S name, I n, .sl (l.map Ex.c)] := rfl
    rw [goodExM_eq, hc]
    clear hc hok
    have kn := named_any name hnl
    have ks := named_any s hsl
    have kv := good_any v
    have ll : (((l.map Ex.c).length : Nat) : Int) = (l.length : Int) := by simp
    refine CallG.intro _ Tryd.func44 rfl Tryd.ntmps44 rfl (fun w0 E0 hG => ?_)
    (repeat' (first | (refine LW.is ?_; first | refine s_v ?_ | refine s_m ?_ | refine s_nil ?_ | refine s_gd ?_ | (refine s_gsplit rfl rfl rfl (fun hb => ?_) (fun hb => ?_) <;> refine fct hb (fun hp => ?_))) | (refine DR.is ?_; first | refine d_v ?_ | refine d_m ?_ | (apply d_nil; kernel_rfl) | refine d_gd ?_ | (refine d_gsplit rfl rfl rfl (fun hb => ?_) (fun hb => ?_) <;> refine fct hb (fun hp => ?_))) | refine c_go ?_ | refine s_region ?_ | refine d_region ?_ | (refine L.cond rfl (fun hb => ?_) (fun hb => ?_) <;> refine fct hb (fun hp => ?_))))
    refine LW.mk (LM.make rfl rfl rfl rfl (fun b => ?_))
    refine LM.insert rfl rfl rfl rfl rfl rfl mapTy_int rfl ?_
    refine LM.insert rfl rfl rfl rfl rfl rfl mapTy_int rfl ?_
    refine LM.insert rfl rfl rfl rfl rfl rfl mapTy_int rfl ?_
    refine LM.insert rfl rfl rfl rfl rfl rfl mapTy_int rfl ?_
    refine LM.insert rfl rfl rfl rfl rfl rfl mapTy_int rfl ?_
    refine LM.insert rfl rfl rfl rfl rfl rfl mapTy_int rfl ?_
    refine LM.insert rfl rfl rfl rfl rfl rfl mapTy_int rfl ?_
    refine LM.insert rfl rfl rfl rfl rfl rfl mapTy_int rfl ?_
    refine LM.insert rfl rfl rfl rfl rfl rfl mapTy_int rfl ?_
    refine LM.insert rfl rfl rfl rfl rfl rfl mapTy_int rfl ?_
    refine LM.rebaseG hG rfl rfl (fun c' hins hk hm hG' => ?_)
    obtain ⟨nt, w0', E0', ins'⟩ := c'
    obtain rfl := hk.nt
    obtain rfl := hins
    refine LW.out ?_
    have hm : MapIn _ b tblE := hm
    cases ha : lookM tblE op with
    | none =>
      have hlk : AV.tup [aI ((lookM tblE op).getD 0), aB (lookM tblE op).isSome] = .tup [aI 0, aB false] := by rw [ha]; rfl
      (repeat' (first | (apply s_vr; exact rfl; apply v_lookM; exact mapTy_int; exact hm; exact rfl; exact rfl; exact hlk) | (refine LW.is ?_; first | refine s_v ?_ | refine s_m ?_ | refine s_nil ?_ | refine s_gd ?_ | (refine s_gsplit rfl rfl rfl (fun hb => ?_) (fun hb => ?_) <;> refine fct hb (fun hp => ?_))) | (refine DR.is ?_; first | refine d_v ?_ | refine d_m ?_ | (apply d_nil; kernel_rfl) | refine d_gd ?_ | (refine d_gsplit rfl rfl rfl (fun hb => ?_) (fun hb => ?_) <;> refine fct hb (fun hp => ?_))) | refine c_go ?_ | refine s_region ?_ | refine d_region ?_ | (refine L.cond rfl (fun hb => ?_) (fun hb => ?_) <;> refine fct hb (fun hp => ?_))))
      all_goals (refine L.back hk ?_)
      all_goals (first | (apply L.ends1; exact rfl; exact rfl; exact rfl) | (apply L.ends2; exact rfl; exact rfl; exact rfl) | (apply L.ends3; exact rfl; exact rfl; exact rfl) | (apply L.ends1A; exact rfl; exact rfl; exact rfl) | (apply L.ends2A; exact rfl; exact rfl; exact rfl) | (apply L.ends3A; exact rfl; exact rfl; exact rfl))
      all_goals rfl
    | some k =>
      have hlk : AV.tup [aI ((lookM tblE op).getD 0), aB (lookM tblE op).isSome] = .tup [aI k, aB true] := by rw [ha]; rfl
      dsimp only
      cases h1 : (((l.map Ex.c).length : Nat) : Int) != k with
      | true =>
        have h1' : ((l.length : Int) != k) = true := by rw [← ll]; exact h1
        rw [h1', Bool.true_or]
        (repeat' (first | (apply s_vr; exact rfl; apply v_lookM; exact mapTy_int; exact hm; exact rfl; exact rfl; exact hlk) | (refine LW.is ?_; first | refine s_v ?_ | refine s_m ?_ | refine s_nil ?_ | refine s_gd ?_ | (refine s_gsplit rfl rfl rfl (fun hb => ?_) (fun hb => ?_) <;> refine fct hb (fun hp => ?_))) | (refine DR.is ?_; first | refine d_v ?_ | refine d_m ?_ | (apply d_nil; kernel_rfl) | refine d_gd ?_ | (refine d_gsplit rfl rfl rfl (fun hb => ?_) (fun hb => ?_) <;> refine fct hb (fun hp => ?_))) | refine c_go ?_ | refine s_region ?_ | refine d_region ?_ | (refine L.cond rfl (fun hb => ?_) (fun hb => ?_) <;> refine fct hb (fun hp => ?_))))
        all_goals (refine L.back hk ?_)
        all_goals (first | (apply L.ends1; exact rfl; exact rfl; exact rfl) | (apply L.ends2; exact rfl; exact rfl; exact rfl) | (apply L.ends3; exact rfl; exact rfl; exact rfl) | (apply L.ends1A; exact rfl; exact rfl; exact rfl) | (apply L.ends2A; exact rfl; exact rfl; exact rfl) | (apply L.ends3A; exact rfl; exact rfl; exact rfl))
        all_goals rfl
      | false =>
      have h1' : ((l.length : Int) != k) = false := by rw [← ll]; exact h1
      rw [h1', Bool.false_or]
      cases h2 : decide (40 < d) with
      | true =>
        (repeat' (first | (apply s_vr; exact rfl; apply v_lookM; exact mapTy_int; exact hm; exact rfl; exact rfl; exact hlk) | (refine LW.is ?_; first | refine s_v ?_ | refine s_m ?_ | refine s_nil ?_ | refine s_gd ?_ | (refine s_gsplit rfl rfl rfl (fun hb => ?_) (fun hb => ?_) <;> refine fct hb (fun hp => ?_))) | (refine DR.is ?_; first | refine d_v ?_ | refine d_m ?_ | (apply d_nil; kernel_rfl) | refine d_gd ?_ | (refine d_gsplit rfl rfl rfl (fun hb => ?_) (fun hb => ?_) <;> refine fct hb (fun hp => ?_))) | refine c_go ?_ | refine s_region ?_ | refine d_region ?_ | (refine L.cond rfl (fun hb => ?_) (fun hb => ?_) <;> refine fct hb (fun hp => ?_))))
        all_goals (refine L.back hk ?_)
        all_goals (first | (apply L.ends1; exact rfl; exact rfl; exact rfl) | (apply L.ends2; exact rfl; exact rfl; exact rfl) | (apply L.ends3; exact rfl; exact rfl; exact rfl) | (apply L.ends1A; exact rfl; exact rfl; exact rfl) | (apply L.ends2A; exact rfl; exact rfl; exact rfl) | (apply L.ends3A; exact rfl; exact rfl; exact rfl))
        all_goals rfl
      | false =>
      have h40 : d ≤ 40 := by have := of_decide_eq_false h2; omega
      have kc := containsE_any (gs := gs0) (f := 88) (b := ⟨3, .l [aI d]⟩) (fun x => !goodExM (d + 1) x) l (by omega) rfl rfl (fun x hx => goodEx1_any h40 hd0 (ih h40 x hx))
      clear ih
      generalize l.any (fun x => !goodExM (d + 1) x) = q at *
      rw [show (!false && (!bad2M op v s name && !q)) = (!bad2M op v s name && !q) from rfl]
      by_cases o1 : op = 1
      · subst o1
        cases hv : goodM v with
        | false =>
          rw [hv] at kv
          rw [show bad2M 1 v s name = true by simp [bad2M, hv]]
          (repeat' (first | (apply s_vr; exact rfl; apply v_lookM; exact mapTy_int; exact hm; exact rfl; exact rfl; exact hlk) | (refine LW.is ?_; first | (apply s_call0; exact rfl; exact kv; exact rfl; exact rfl) | refine s_v ?_ | refine s_m ?_ | refine s_nil ?_ | refine s_gd ?_ | (refine s_gsplit rfl rfl rfl (fun hb => ?_) (fun hb => ?_) <;> refine fct hb (fun hp => ?_))) | (refine DR.is ?_; first | (apply d_call0; exact rfl; exact kv; exact rfl; exact rfl) | refine d_v ?_ | refine d_m ?_ | (apply d_nil; kernel_rfl) | refine d_gd ?_ | (refine d_gsplit rfl rfl rfl (fun hb => ?_) (fun hb => ?_) <;> refine fct hb (fun hp => ?_))) | refine c_go ?_ | refine s_region ?_ | refine d_region ?_ | (refine L.cond rfl (fun hb => ?_) (fun hb => ?_) <;> refine fct hb (fun hp => ?_))))
          all_goals (refine L.back hk ?_)
          all_goals (first | (apply L.ends1; exact rfl; exact rfl; exact rfl) | (apply L.ends2; exact rfl; exact rfl; exact rfl) | (apply L.ends3; exact rfl; exact rfl; exact rfl) | (apply L.ends1A; exact rfl; exact rfl; exact rfl) | (apply L.ends2A; exact rfl; exact rfl; exact rfl) | (apply L.ends3A; exact rfl; exact rfl; exact rfl))
          all_goals rfl
        | true =>
          rw [hv] at kv
          rw [show bad2M 1 v s name = false by simp [bad2M, hv]]
          (repeat' (first | (apply s_vr; exact rfl; apply v_lookM; exact mapTy_int; exact hm; exact rfl; exact rfl; exact hlk) | (refine LW.is ?_; first | (apply s_call0; exact rfl; exact kv; exact rfl; exact rfl) | (apply s_vr; exact rfl; apply v_makeFunc; exact rfl) | (apply s_callG1 (q := 3); exact rfl; exact hG'; exact kc; exact rfl; exact rfl; exact rfl; exact rfl; exact rfl; exact rfl; exact rfl) | refine s_v ?_ | refine s_m ?_ | refine s_nil ?_ | refine s_gd ?_ | (refine s_gsplit rfl rfl rfl (fun hb => ?_) (fun hb => ?_) <;> refine fct hb (fun hp => ?_))) | (refine DR.is ?_; first | (apply d_call0; exact rfl; exact kv; exact rfl; exact rfl) | (apply d_vr; exact rfl; apply v_makeFunc; exact rfl) | (apply d_callG1 (q := 3); exact rfl; exact hG'; exact kc; exact rfl; exact rfl; exact rfl; exact rfl; exact rfl; exact rfl; exact rfl) | refine d_v ?_ | refine d_m ?_ | (apply d_nil; kernel_rfl) | refine d_gd ?_ | (refine d_gsplit rfl rfl rfl (fun hb => ?_) (fun hb => ?_) <;> refine fct hb (fun hp => ?_))) | refine c_go ?_ | refine s_region ?_ | refine d_region ?_ | (refine L.cond rfl (fun hb => ?_) (fun hb => ?_) <;> refine fct hb (fun hp => ?_))))
          all_goals (refine L.back hk ?_)
          all_goals (first | (apply L.ends1; exact rfl; exact rfl; exact rfl) | (apply L.ends2; exact rfl; exact rfl; exact rfl) | (apply L.ends3; exact rfl; exact rfl; exact rfl) | (apply L.ends1A; exact rfl; exact rfl; exact rfl) | (apply L.ends2A; exact rfl; exact rfl; exact rfl) | (apply L.ends3A; exact rfl; exact rfl; exact rfl))
          all_goals (cases q <;> rfl)
      have p1 : (op == 1) = false := by simp [o1]
      by_cases o2 : op = 2
      · subst o2
        cases hv : namedM name with
        | false =>
          rw [hv] at kn
          rw [show bad2M 2 v s name = true by simp [bad2M, hv]]
          (repeat' (first | (apply s_vr; exact rfl; apply v_lookM; exact mapTy_int; exact hm; exact rfl; exact rfl; exact hlk) | (refine LW.is ?_; first | (apply s_callG; exact rfl; exact hG'; exact kn; exact rfl; exact rfl) | refine s_v ?_ | refine s_m ?_ | refine s_nil ?_ | refine s_gd ?_ | (refine s_gsplit rfl rfl rfl (fun hb => ?_) (fun hb => ?_) <;> refine fct hb (fun hp => ?_))) | (refine DR.is ?_; first | (apply d_callG; exact rfl; exact hG'; exact kn; exact rfl; exact rfl) | refine d_v ?_ | refine d_m ?_ | (apply d_nil; kernel_rfl) | refine d_gd ?_ | (refine d_gsplit rfl rfl rfl (fun hb => ?_) (fun hb => ?_) <;> refine fct hb (fun hp => ?_))) | refine c_go ?_ | refine s_region ?_ | refine d_region ?_ | (refine L.cond rfl (fun hb => ?_) (fun hb => ?_) <;> refine fct hb (fun hp => ?_))))
          all_goals (refine L.back hk ?_)
          all_goals (first | (apply L.ends1; exact rfl; exact rfl; exact rfl) | (apply L.ends2; exact rfl; exact rfl; exact rfl) | (apply L.ends3; exact rfl; exact rfl; exact rfl) | (apply L.ends1A; exact rfl; exact rfl; exact rfl) | (apply L.ends2A; exact rfl; exact rfl; exact rfl) | (apply L.ends3A; exact rfl; exact rfl; exact rfl))
          all_goals rfl
        | true =>
        rw [hv] at kn
        cases hs0 : s == [] with
        | true =>
          rw [show bad2M 2 v s name = false by simp [bad2M, hv, hs0]]
          (repeat' (first | (apply s_vr; exact rfl; apply v_lookM; exact mapTy_int; exact hm; exact rfl; exact rfl; exact hlk) | (refine LW.is ?_; first | (apply s_callG; exact rfl; exact hG'; exact kn; exact rfl; exact rfl) | (apply s_vr; exact rfl; apply v_makeFunc; exact rfl) | (apply s_callG1 (q := 3); exact rfl; exact hG'; exact kc; exact rfl; exact rfl; exact rfl; exact rfl; exact rfl; exact rfl; exact rfl) | refine s_v ?_ | refine s_m ?_ | refine s_nil ?_ | refine s_gd ?_ | (refine s_gsplit rfl rfl rfl (fun hb => ?_) (fun hb => ?_) <;> refine fct hb (fun hp => ?_))) | (refine DR.is ?_; first | (apply d_callG; exact rfl; exact hG'; exact kn; exact rfl; exact rfl) | (apply d_vr; exact rfl; apply v_makeFunc; exact rfl) | (apply d_callG1 (q := 3); exact rfl; exact hG'; exact kc; exact rfl; exact rfl; exact rfl; exact rfl; exact rfl; exact rfl; exact rfl) | refine d_v ?_ | refine d_m ?_ | (apply d_nil; kernel_rfl) | refine d_gd ?_ | (refine d_gsplit rfl rfl rfl (fun hb => ?_) (fun hb => ?_) <;> refine fct hb (fun hp => ?_))) | refine c_go ?_ | refine s_region ?_ | refine d_region ?_ | (refine L.cond rfl (fun hb => ?_) (fun hb => ?_) <;> refine fct hb (fun hp => ?_))))
          all_goals (refine L.back hk ?_)
          all_goals (first | (apply L.ends1; exact rfl; exact rfl; exact rfl) | (apply L.ends2; exact rfl; exact rfl; exact rfl) | (apply L.ends3; exact rfl; exact rfl; exact rfl) | (apply L.ends1A; exact rfl; exact rfl; exact rfl) | (apply L.ends2A; exact rfl; exact rfl; exact rfl) | (apply L.ends3A; exact rfl; exact rfl; exact rfl))
          all_goals (cases q <;> rfl)
        | false =>
        cases hw : namedM s with
        | false =>
          rw [hw] at ks
          rw [show bad2M 2 v s name = true by simp [bad2M, hv, hs0, hw]]
          (repeat' (first | (apply s_vr; exact rfl; apply v_lookM; exact mapTy_int; exact hm; exact rfl; exact rfl; exact hlk) | (refine LW.is ?_; first | (apply s_callG; exact rfl; exact hG'; exact kn; exact rfl; exact rfl) | (apply s_callG; exact rfl; exact hG'; exact ks; exact rfl; exact rfl) | refine s_v ?_ | refine s_m ?_ | refine s_nil ?_ | refine s_gd ?_ | (refine s_gsplit rfl rfl rfl (fun hb => ?_) (fun hb => ?_) <;> refine fct hb (fun hp => ?_))) | (refine DR.is ?_; first | (apply d_callG; exact rfl; exact hG'; exact kn; exact rfl; exact rfl) | (apply d_callG; exact rfl; exact hG'; exact ks; exact rfl; exact rfl) | refine d_v ?_ | refine d_m ?_ | (apply d_nil; kernel_rfl) | refine d_gd ?_ | (refine d_gsplit rfl rfl rfl (fun hb => ?_) (fun hb => ?_) <;> refine fct hb (fun hp => ?_))) | refine c_go ?_ | refine s_region ?_ | refine d_region ?_ | (refine L.cond rfl (fun hb => ?_) (fun hb => ?_) <;> refine fct hb (fun hp => ?_))))
          all_goals (refine L.back hk ?_)
          all_goals (first | (apply L.ends1; exact rfl; exact rfl; exact rfl) | (apply L.ends2; exact rfl; exact rfl; exact rfl) | (apply L.ends3; exact rfl; exact rfl; exact rfl) | (apply L.ends1A; exact rfl; exact rfl; exact rfl) | (apply L.ends2A; exact rfl; exact rfl; exact rfl) | (apply L.ends3A; exact rfl; exact rfl; exact rfl))
          all_goals rfl
        | true =>
          rw [hw] at ks
          rw [show bad2M 2 v s name = false by simp [bad2M, hv, hs0, hw]]
          (repeat' (first | (apply s_vr; exact rfl; apply v_lookM; exact mapTy_int; exact hm; exact rfl; exact rfl; exact hlk) | (refine LW.is ?_; first | (apply s_callG; exact rfl; exact hG'; exact kn; exact rfl; exact rfl) | (apply s_callG; exact rfl; exact hG'; exact ks; exact rfl; exact rfl) | (apply s_vr; exact rfl; apply v_makeFunc; exact rfl) | (apply s_callG1 (q := 3); exact rfl; exact hG'; exact kc; exact rfl; exact rfl; exact rfl; exact rfl; exact rfl; exact rfl; exact rfl) | refine s_v ?_ | refine s_m ?_ | refine s_nil ?_ | refine s_gd ?_ | (refine s_gsplit rfl rfl rfl (fun hb => ?_) (fun hb => ?_) <;> refine fct hb (fun hp => ?_))) | (refine DR.is ?_; first | (apply d_callG; exact rfl; exact hG'; exact kn; exact rfl; exact rfl) | (apply d_callG; exact rfl; exact hG'; exact ks; exact rfl; exact rfl) | (apply d_vr; exact rfl; apply v_makeFunc; exact rfl) | (apply d_callG1 (q := 3); exact rfl; exact hG'; exact kc; exact rfl; exact rfl; exact rfl; exact rfl; exact rfl; exact rfl; exact rfl) | refine d_v ?_ | refine d_m ?_ | (apply d_nil; kernel_rfl) | refine d_gd ?_ | (refine d_gsplit rfl rfl rfl (fun hb => ?_) (fun hb => ?_) <;> refine fct hb (fun hp => ?_))) | refine c_go ?_ | refine s_region ?_ | refine d_region ?_ | (refine L.cond rfl (fun hb => ?_) (fun hb => ?_) <;> refine fct hb (fun hp => ?_))))
          all_goals (refine L.back hk ?_)
          all_goals (first | (apply L.ends1; exact rfl; exact rfl; exact rfl) | (apply L.ends2; exact rfl; exact rfl; exact rfl) | (apply L.ends3; exact rfl; exact rfl; exact rfl) | (apply L.ends1A; exact rfl; exact rfl; exact rfl) | (apply L.ends2A; exact rfl; exact rfl; exact rfl) | (apply L.ends3A; exact rfl; exact rfl; exact rfl))
          all_goals (cases q <;> rfl)
      have p2 : (op == 2) = false := by simp [o2]
      rw [show bad2M op v s name = false by simp [bad2M, o1, o2]]
      (repeat' (first | (apply s_vr; exact rfl; apply v_lookM; exact mapTy_int; exact hm; exact rfl; exact rfl; exact hlk) | (refine LW.is ?_; first | (apply s_vr; exact rfl; apply v_makeFunc; exact rfl) | (apply s_callG1 (q := 3); exact rfl; exact hG'; exact kc; exact rfl; exact rfl; exact rfl; exact rfl; exact rfl; exact rfl; exact rfl) | refine s_v ?_ | refine s_m ?_ | refine s_nil ?_ | refine s_gd ?_ | (refine s_gsplit rfl rfl rfl (fun hb => ?_) (fun hb => ?_) <;> refine fct hb (fun hp => ?_))) | (refine DR.is ?_; first | (apply d_vr; exact rfl; apply v_makeFunc; exact rfl) | (apply d_callG1 (q := 3); exact rfl; exact hG'; exact kc; exact rfl; exact rfl; exact rfl; exact rfl; exact rfl; exact rfl; exact rfl) | refine d_v ?_ | refine d_m ?_ | (apply d_nil; kernel_rfl) | refine d_gd ?_ | (refine d_gsplit rfl rfl rfl (fun hb => ?_) (fun hb => ?_) <;> refine fct hb (fun hp => ?_))) | refine c_go ?_ | refine s_region ?_ | refine d_region ?_ | (refine L.cond rfl (fun hb => ?_) (fun hb => ?_) <;> refine fct hb (fun hp => ?_))))
      all_goals (refine L.back hk ?_)
      all_goals (first | (apply L.ends1; exact rfl; exact rfl; exact rfl) | (apply L.ends2; exact rfl; exact rfl; exact rfl) | (apply L.ends3; exact rfl; exact rfl; exact rfl) | (apply L.ends1A; exact rfl; exact rfl; exact rfl) | (apply L.ends2A; exact rfl; exact rfl; exact rfl) | (apply L.ends3A; exact rfl; exact rfl; exact rfl))
      all_goals (cases q <;> rfl)
 termination_by e => SizeOf.sizeOf e
 decreasing_by
  have := List.sizeOf_lt_of_mem hx
  simp; omega
end Go.Proofs.YthkobnpogigkiaaDoor
/- Lists of expressions, one behind the other: what Grow, Concat and exprs compute. Conditions: how much there is of what comes in. -/
namespace Go.Proofs.YthkobnpogigkiaaDoor
open Go.Abs
set_option maxRecDepth 100000
attribute [local irreducible] L Code.wp bodyPost Exit.then Exit.inBlock
set_option linter.unusedVariables false
set_option linter.unusedSimpArgs false
theorem lenE : ∀ l : List Ex, ∀ e ∈ l.map Ex.c, e.length = 8 := fun l e he => by obtain ⟨y, _, rfl⟩ := List.mem_map.1 he; rw [Ex.c_cs]; rfl
set_option maxHeartbeats 4000000 in
theorem growE_nil (n : Nat) (a : Int) (ha : a = n) (hn : 0 < n) (hl : n * 104 ≤ 140737488355328) :
    CallA Tryd.prog 118 [.nils, aI a] [] [] [(24, ⟨34, 8⟩)] (.row 24 []) := by
  refine CallA.intro _ Tryd.func118 rfl Tryd.ntmps118 rfl (fun w0 E0 => ?_)
  have hb : decide (a < 0) = false := by simp; omega
  have hb4 : decide ((0 : Int) < a - ((0 : Int) - ((([] : List (List IV)).length : Nat) : Int))) = true := by simp; omega
  have hz : ((([] : List (List IV)).length : Nat) : Int) = 0 := rfl
  (repeat' (first | (refine LW.is ?_; first | (apply s_vr; exact rfl; apply v_capNil; exact rfl) | (apply s_vr; exact rfl; apply v_slNil; exact rfl; exact rfl; exact rfl) | (apply s_growNZ 1000 (m := n); exact rfl; exact rfl; exact rfl; omega; exact hn; (rw [maxL]; omega); omega; exact rfl; exact rfl) | (apply s_vr; exact rfl; apply v_slBshH (n' := 0); exact rfl; exact rfl; exact Int.le_refl _; omega; exact rfl) | (apply s_vr; exact rfl; apply v_subI; exact rfl; exact rfl; omega; omega) | refine s_v ?_ | refine s_m ?_ | refine s_nil ?_ | refine s_gd ?_ | (refine s_gsplit rfl rfl rfl (fun hb => ?_) (fun hb => ?_) <;> refine fct hb (fun hp => ?_))) | (refine DR.is ?_; first | (apply d_vr; exact rfl; apply v_capNil; exact rfl) | (apply d_vr; exact rfl; apply v_slNil; exact rfl; exact rfl; exact rfl) | (apply d_growNZ 1000 (m := n); exact rfl; exact rfl; exact rfl; omega; exact hn; (rw [maxL]; omega); omega; exact rfl; exact rfl) | (apply d_vr; exact rfl; apply v_slBshH (n' := 0); exact rfl; exact rfl; exact Int.le_refl _; omega; exact rfl) | (apply d_vr; exact rfl; apply v_subI; exact rfl; exact rfl; omega; omega) | refine d_v ?_ | refine d_m ?_ | (apply d_nil; kernel_rfl) | refine d_gd ?_ | (refine d_gsplit rfl rfl rfl (fun hb => ?_) (fun hb => ?_) <;> refine fct hb (fun hp => ?_))) | refine c_go ?_ | refine s_region ?_ | refine d_region ?_ | (refine L.cond rfl (fun hb => ?_) (fun hb => ?_) <;> refine fct hb (fun hp => ?_))))
  all_goals (apply L.rowS0 1000 24 4 22; exact rfl; exact rfl; omega; exact rfl; exact rfl; exact hn; exact rfl)
  all_goals (apply L.ends; exact rfl; exact rfl; exact Sub.refl _; exact Wk.mk' (by intro id h; simp [keys] at h) .nil .nil (.cons rfl .nil))
set_option maxHeartbeats 4000000 in
theorem growE_0 : CallA Tryd.prog 118 [.nils, aI 0] [] [] [] .nils := by
  refine CallA.intro _ Tryd.func118 rfl Tryd.ntmps118 rfl (fun w0 E0 => ?_)
  have hb4 : decide ((0 : Int) < 0 - ((0 : Int) - ((([] : List (List IV)).length : Nat) : Int))) = false := by simp
  have hz : ((([] : List (List IV)).length : Nat) : Int) = 0 := rfl
  (repeat' (first | (refine LW.is ?_; first | (apply s_vr; exact rfl; apply v_capNil; exact rfl) | (apply s_vr; exact rfl; apply v_subI; exact rfl; exact rfl; omega; omega) | refine s_v ?_ | refine s_m ?_ | refine s_nil ?_ | refine s_gd ?_ | (refine s_gsplit rfl rfl rfl (fun hb => ?_) (fun hb => ?_) <;> refine fct hb (fun hp => ?_))) | (refine DR.is ?_; first | (apply d_vr; exact rfl; apply v_capNil; exact rfl) | (apply d_vr; exact rfl; apply v_subI; exact rfl; exact rfl; omega; omega) | refine d_v ?_ | refine d_m ?_ | (apply d_nil; kernel_rfl) | refine d_gd ?_ | (refine d_gsplit rfl rfl rfl (fun hb => ?_) (fun hb => ?_) <;> refine fct hb (fun hp => ?_))) | refine c_go ?_ | refine s_region ?_ | refine d_region ?_ | (refine L.cond rfl (fun hb => ?_) (fun hb => ?_) <;> refine fct hb (fun hp => ?_))))
  all_goals (apply L.ends; exact rfl; exact rfl; exact Sub.refl _; exact Wk.mk' (by intro id h; simp [keys] at h) .nil .nil .nil)
set_option maxHeartbeats 8000000 in
theorem concatE_any (Ls : List (List Ex)) (h1 : Ls.length ≤ 1000000) (h2 : Ls.flatten.length * 104 ≤ 140737488355328) :
    CallA Tryd.prog 87 [.iv (.sl (Ls.map exRow))] [] [] [(13, ⟨34, 8⟩)] (.row 13 (Ls.flatten.map Ex.c)) := by
  refine CallA.intro _ Tryd.func87 rfl Tryd.ntmps87 rfl (fun w0 E0 => ?_)
  have flt : ∀ i, (Ls.take i).flatten.length ≤ Ls.flatten.length := fun i => by
    conv => rhs; rw [← List.take_append_drop i Ls, List.flatten_append, List.length_append]
    omega
  have fst : ∀ {i : Nat} {A : List Ex}, Ls[i]? = some A → (Ls.take (i + 1)).flatten = (Ls.take i).flatten ++ A := fun h => by rw [takeC h]; simp
  (repeat' (first | (refine LW.is ?_; first | refine s_v ?_ | refine s_m ?_ | refine s_nil ?_ | refine s_gd ?_ | (refine s_gsplit rfl rfl rfl (fun hb => ?_) (fun hb => ?_) <;> refine fct hb (fun hp => ?_))) | (refine DR.is ?_; first | refine d_v ?_ | refine d_m ?_ | (apply d_nil; kernel_rfl) | refine d_gd ?_ | (refine d_gsplit rfl rfl rfl (fun hb => ?_) (fun hb => ?_) <;> refine fct hb (fun hp => ?_))) | refine c_go ?_ | refine s_region ?_ | refine d_region ?_ | (refine L.cond rfl (fun hb => ?_) (fun hb => ?_) <;> refine fct hb (fun hp => ?_))))
  refine L.loopP (ι := Nat) (fun i => ⟨[(11, aI (i : Int)), (10, aI ((Ls.map exRow).length : Int)), (9, .iv (.sl (Ls.map exRow))), (3, aI ((Ls.take i).flatten.length : Int)), (0, .iv (.sl (Ls.map exRow)))], [], []⟩) (fun i => Ls.length - i) (fun i => True) (i0 := 0) ?_ trivial ?_
  · (refine Wk.mk' (by intro id h; cases h) ?_ ?_ ?_ <;> repeat' (first | exact WkF.nil | exact WkB.nil | exact WkT.nil | (refine WkF.cons rfl (Sub.refl _) ?_) | (refine WkB.cons rfl rfl (Subs.refl _) ?_) | (refine WkT.cons rfl ?_)))
  intro i _ K hK
  cases hx : Ls[i]? with
  | some A =>
    have hlt := ltT (l := Ls.map exRow) (getF (f := exRow) hx)
    have hlt' := ltN hx
    have g1 : (Ls.map exRow)[((i : Nat) : Int).toNat]? = some [.sl (A.map Ex.c)] := by rw [Int.toNat_natCast, List.getElem?_map, hx]; rfl
    have hA := fst hx
    have hB := flt (i + 1)
    rw [hA, List.length_append] at hB
    have lA : (A.map Ex.c).length = A.length := List.length_map _
    have hn : decide (((Ls.take i).flatten.length : Int) + ((A.map Ex.c).length : Int) < 0) = false := by simp; omega
    (repeat' (first | (refine LW.is ?_; first | (apply s_vr; exact rfl; apply v_indexA; exact rfl; exact rfl; omega; exact g1; exact rfl) | (apply s_vr; exact rfl; apply v_addI; exact rfl; exact rfl; (rw [lA]; omega); (rw [lA]; omega)) | refine s_v ?_ | refine s_m ?_ | refine s_nil ?_ | refine s_gd ?_ | (refine s_gsplit rfl rfl rfl (fun hb => ?_) (fun hb => ?_) <;> refine fct hb (fun hp => ?_))) | (refine DR.is ?_; first | (apply d_vr; exact rfl; apply v_indexA; exact rfl; exact rfl; omega; exact g1; exact rfl) | (apply d_vr; exact rfl; apply v_addI; exact rfl; exact rfl; (rw [lA]; omega); (rw [lA]; omega)) | refine d_v ?_ | refine d_m ?_ | (apply d_nil; kernel_rfl) | refine d_gd ?_ | (refine d_gsplit rfl rfl rfl (fun hb => ?_) (fun hb => ?_) <;> refine fct hb (fun hp => ?_))) | refine c_go ?_ | refine s_region ?_ | refine d_region ?_ | (refine L.cond rfl (fun hb => ?_) (fun hb => ?_) <;> refine fct hb (fun hp => ?_))))
    refine hK _ (i + 1) trivial (by omega) (Wk.mk' (by intro id h; cases h) (.cons rfl (Sub.refl _) (.cons rfl (Sub.refl _) (.cons rfl (Sub.refl _) (.cons rfl (Sub.of_eq ?_) (.cons rfl (Sub.refl _) .nil))))) .nil .nil)
    rw [hA, List.length_append, ← lA]; rfl
  | none =>
    have hlt := ltF (l := Ls.map exRow) (getFN hx)
    rw [take_all hx]
    clear hK hx
    have kg : ∀ n : Nat, n = Ls.flatten.length → 0 < n → CallA Tryd.prog 118 [.nils, aI (Ls.flatten.length : Int)] [] [] [(24, ⟨34, 8⟩)] (.row 24 []) := fun n hn h0 => growE_nil n _ (by omega) h0 (by omega)
    by_cases h0 : Ls.flatten.length = 0
    · rw [h0]
      have kz := growE_0
      (repeat' (first | (apply s_call0N; exact rfl; exact kz; exact rfl; exact rfl) | (refine LW.is ?_; first | refine s_v ?_ | refine s_m ?_ | refine s_nil ?_ | refine s_gd ?_ | (refine s_gsplit rfl rfl rfl (fun hb => ?_) (fun hb => ?_) <;> refine fct hb (fun hp => ?_))) | (refine DR.is ?_; first | refine d_v ?_ | refine d_m ?_ | (apply d_nil; kernel_rfl) | refine d_gd ?_ | (refine d_gsplit rfl rfl rfl (fun hb => ?_) (fun hb => ?_) <;> refine fct hb (fun hp => ?_))) | refine c_go ?_ | refine s_region ?_ | refine d_region ?_ | (refine L.cond rfl (fun hb => ?_) (fun hb => ?_) <;> refine fct hb (fun hp => ?_))))
      refine L.adopt 24 (s := 6) (t := 34) (k := 8) rfl rfl rfl ?_
      refine L.loopP (ι := Nat) (fun i => ⟨[(27, aI (i : Int)), (26, aI ((Ls.map exRow).length : Int)), (25, .iv (.sl (Ls.map exRow))), (6, .row 24 ((Ls.take i).flatten.map Ex.c))], [], [(24, ⟨34, 8⟩)]⟩) (fun i => Ls.length - i) (fun i => True) (i0 := 0) ?_ trivial ?_
      · (refine Wk.mk' (by intro id h; cases h) ?_ ?_ ?_ <;> repeat' (first | exact WkF.nil | exact WkB.nil | exact WkT.nil | (refine WkF.cons rfl (Sub.refl _) ?_) | (refine WkB.cons rfl rfl (Subs.refl _) ?_) | (refine WkT.cons rfl ?_)))
      intro i _ K hK
      cases hx : Ls[i]? with
      | some A =>
        have hlt := ltT (l := Ls.map exRow) (getF (f := exRow) hx)
        have hlt' := ltN hx
        have g1 : (Ls.map exRow)[((i : Nat) : Int).toNat]? = some [.sl (A.map Ex.c)] := by rw [Int.toNat_natCast, List.getElem?_map, hx]; rfl
        have hA := fst hx
        have hB := flt (i + 1)
        rw [hA, List.length_append] at hB
        (repeat' (first | (refine LW.is ?_; first | (apply s_vr; exact rfl; apply v_indexA; exact rfl; exact rfl; omega; exact g1; exact rfl) | (apply s_append; exact rfl; exact rfl; exact rfl; exact rfl; exact lenE _; exact lenE _; (rw [List.length_map, List.length_map, maxL]; omega); (rw [List.length_map, List.length_map]; omega); exact rfl; exact rfl) | refine s_v ?_ | refine s_m ?_ | refine s_nil ?_ | refine s_gd ?_ | (refine s_gsplit rfl rfl rfl (fun hb => ?_) (fun hb => ?_) <;> refine fct hb (fun hp => ?_))) | (refine DR.is ?_; first | (apply d_vr; exact rfl; apply v_indexA; exact rfl; exact rfl; omega; exact g1; exact rfl) | (apply d_append; exact rfl; exact rfl; exact rfl; exact rfl; exact lenE _; exact lenE _; (rw [List.length_map, List.length_map, maxL]; omega); (rw [List.length_map, List.length_map]; omega); exact rfl; exact rfl) | refine d_v ?_ | refine d_m ?_ | (apply d_nil; kernel_rfl) | refine d_gd ?_ | (refine d_gsplit rfl rfl rfl (fun hb => ?_) (fun hb => ?_) <;> refine fct hb (fun hp => ?_))) | refine c_go ?_ | refine s_region ?_ | refine d_region ?_ | (refine L.cond rfl (fun hb => ?_) (fun hb => ?_) <;> refine fct hb (fun hp => ?_))))
        refine L.only [27, 26, 25, 6] ?_
        refine L.retok 6 33 24 rfl rfl rfl rfl ?_
        refine hK _ (i + 1) trivial (by omega) (Wk.mk' (by intro id h; cases h) (.cons rfl (Sub.refl _) (.cons rfl (Sub.refl _) (.cons rfl (Sub.refl _) (.cons rfl (Sub.of_eq (congrArg (AV.row 24) (by rw [hA, List.map_append]))) .nil)))) .nil (.cons rfl .nil))
      | none =>
        have hlt := ltF (l := Ls.map exRow) (getFN hx)
        rw [take_all hx]
        (repeat' (first | (refine LW.is ?_; first | refine s_v ?_ | refine s_m ?_ | refine s_nil ?_ | refine s_gd ?_ | (refine s_gsplit rfl rfl rfl (fun hb => ?_) (fun hb => ?_) <;> refine fct hb (fun hp => ?_))) | (refine DR.is ?_; first | refine d_v ?_ | refine d_m ?_ | (apply d_nil; kernel_rfl) | refine d_gd ?_ | (refine d_gsplit rfl rfl rfl (fun hb => ?_) (fun hb => ?_) <;> refine fct hb (fun hp => ?_))) | refine c_go ?_ | refine s_region ?_ | refine d_region ?_ | (refine L.cond rfl (fun hb => ?_) (fun hb => ?_) <;> refine fct hb (fun hp => ?_))))
        all_goals (refine L.only [2] ?_)
        all_goals (refine L.retok 2 24 13 rfl rfl rfl rfl ?_)
        all_goals (apply L.ends; exact rfl; exact rfl; exact Sub.refl _; exact Wk.mk' (by intro id h; simp [keys] at h) .nil .nil (.cons rfl .nil))
    · have kr := kg _ rfl (by omega)
      (repeat' (first | (apply s_callRowN; exact rfl; exact kr; exact rfl; exact rfl) | (refine LW.is ?_; first | refine s_v ?_ | refine s_m ?_ | refine s_nil ?_ | refine s_gd ?_ | (refine s_gsplit rfl rfl rfl (fun hb => ?_) (fun hb => ?_) <;> refine fct hb (fun hp => ?_))) | (refine DR.is ?_; first | refine d_v ?_ | refine d_m ?_ | (apply d_nil; kernel_rfl) | refine d_gd ?_ | (refine d_gsplit rfl rfl rfl (fun hb => ?_) (fun hb => ?_) <;> refine fct hb (fun hp => ?_))) | refine c_go ?_ | refine s_region ?_ | refine d_region ?_ | (refine L.cond rfl (fun hb => ?_) (fun hb => ?_) <;> refine fct hb (fun hp => ?_))))
      refine L.loopP (ι := Nat) (fun i => ⟨[(27, aI (i : Int)), (26, aI ((Ls.map exRow).length : Int)), (25, .iv (.sl (Ls.map exRow))), (6, .row 24 ((Ls.take i).flatten.map Ex.c))], [], [(24, ⟨34, 8⟩)]⟩) (fun i => Ls.length - i) (fun i => True) (i0 := 0) ?_ trivial ?_
      · (refine Wk.mk' (by intro id h; cases h) ?_ ?_ ?_ <;> repeat' (first | exact WkF.nil | exact WkB.nil | exact WkT.nil | (refine WkF.cons rfl (Sub.refl _) ?_) | (refine WkB.cons rfl rfl (Subs.refl _) ?_) | (refine WkT.cons rfl ?_)))
      intro i _ K hK
      cases hx : Ls[i]? with
      | some A =>
        have hlt := ltT (l := Ls.map exRow) (getF (f := exRow) hx)
        have hlt' := ltN hx
        have g1 : (Ls.map exRow)[((i : Nat) : Int).toNat]? = some [.sl (A.map Ex.c)] := by rw [Int.toNat_natCast, List.getElem?_map, hx]; rfl
        have hA := fst hx
        have hB := flt (i + 1)
        rw [hA, List.length_append] at hB
        (repeat' (first | (refine LW.is ?_; first | (apply s_vr; exact rfl; apply v_indexA; exact rfl; exact rfl; omega; exact g1; exact rfl) | (apply s_append; exact rfl; exact rfl; exact rfl; exact rfl; exact lenE _; exact lenE _; (rw [List.length_map, List.length_map, maxL]; omega); (rw [List.length_map, List.length_map]; omega); exact rfl; exact rfl) | refine s_v ?_ | refine s_m ?_ | refine s_nil ?_ | refine s_gd ?_ | (refine s_gsplit rfl rfl rfl (fun hb => ?_) (fun hb => ?_) <;> refine fct hb (fun hp => ?_))) | (refine DR.is ?_; first | (apply d_vr; exact rfl; apply v_indexA; exact rfl; exact rfl; omega; exact g1; exact rfl) | (apply d_append; exact rfl; exact rfl; exact rfl; exact rfl; exact lenE _; exact lenE _; (rw [List.length_map, List.length_map, maxL]; omega); (rw [List.length_map, List.length_map]; omega); exact rfl; exact rfl) | refine d_v ?_ | refine d_m ?_ | (apply d_nil; kernel_rfl) | refine d_gd ?_ | (refine d_gsplit rfl rfl rfl (fun hb => ?_) (fun hb => ?_) <;> refine fct hb (fun hp => ?_))) | refine c_go ?_ | refine s_region ?_ | refine d_region ?_ | (refine L.cond rfl (fun hb => ?_) (fun hb => ?_) <;> refine fct hb (fun hp => ?_))))
        refine L.only [27, 26, 25, 6] ?_
        refine L.retok 6 33 24 rfl rfl rfl rfl ?_
        refine hK _ (i + 1) trivial (by omega) (Wk.mk' (by intro id h; cases h) (.cons rfl (Sub.refl _) (.cons rfl (Sub.refl _) (.cons rfl (Sub.refl _) (.cons rfl (Sub.of_eq (congrArg (AV.row 24) (by rw [hA, List.map_append]))) .nil)))) .nil (.cons rfl .nil))
      | none =>
        have hlt := ltF (l := Ls.map exRow) (getFN hx)
        rw [take_all hx]
        (repeat' (first | (refine LW.is ?_; first | refine s_v ?_ | refine s_m ?_ | refine s_nil ?_ | refine s_gd ?_ | (refine s_gsplit rfl rfl rfl (fun hb => ?_) (fun hb => ?_) <;> refine fct hb (fun hp => ?_))) | (refine DR.is ?_; first | refine d_v ?_ | refine d_m ?_ | (apply d_nil; kernel_rfl) | refine d_gd ?_ | (refine d_gsplit rfl rfl rfl (fun hb => ?_) (fun hb => ?_) <;> refine fct hb (fun hp => ?_))) | refine c_go ?_ | refine s_region ?_ | refine d_region ?_ | (refine L.cond rfl (fun hb => ?_) (fun hb => ?_) <;> refine fct hb (fun hp => ?_))))
        all_goals (refine L.only [2] ?_)
        all_goals (refine L.retok 2 24 13 rfl rfl rfl rfl ?_)
        all_goals (apply L.ends; exact rfl; exact rfl; exact Sub.refl _; exact Wk.mk' (by intro id h; simp [keys] at h) .nil .nil (.cons rfl .nil))
def exprsM (s : Stm) : List Ex := ((s.out ++ s.ord ++ s.rows.flatten) ++ s.sets.map Ast.e) ++ (if s.wh.op = 0 then [] else [s.wh])
structure Stm.Ok (s : Stm) : Prop where
  tot : (s.out.length + s.ord.length + s.rows.flatten.length + s.sets.length + 1) * 104 ≤ 140737488355328
  rows : s.rows.length * 24 ≤ 140737488355328
  sets : s.sets.length * 120 ≤ 140737488355328
  cols : s.cols.length ≤ 140737488355328
  frm : s.frm.length ≤ 140737488355328
  all : ∀ e ∈ exprsM s, e.OkS
  wh : s.wh.OkS
  name : s.name.length ≤ 140737488355328
  table : s.table.length ≤ 140737488355328
  col : s.col.length ≤ 140737488355328
  cn : ∀ c ∈ s.cols, c.n.length ≤ 140737488355328
set_option maxHeartbeats 8000000 in
theorem exprs_any (s : Stm) (hok : s.Ok) : CallA Tryd.prog 42 [.agg (s.cs.map .iv)] [] [] [] (.iv (.sl ((exprsM s).map Ex.c))) := by
  have htot := hok.tot
  have hrl := hok.rows
  clear hok
  obtain ⟨kind, name, table, col, cols, rows, sets, frm, out, wh, ord, down, n⟩ := s
  dsimp only at htot hrl
  have kc := concatE_any [out, ord] (by simp) (by simp; omega)
  rw [show [out, ord].flatten = out ++ ord by simp] at kc
  unfold exprsM
  dsimp only
  refine CallA.intro _ Tryd.func42 rfl Tryd.ntmps42 rfl (fun w0 E0 => ?_)
  have flt : ∀ i, (rows.take i).flatten.length ≤ rows.flatten.length := fun i => by
    conv => rhs; rw [← List.take_append_drop i rows, List.flatten_append, List.length_append]
    omega
  have fst : ∀ {i : Nat} {A : List Ex}, rows[i]? = some A → (rows.take (i + 1)).flatten = (rows.take i).flatten ++ A := fun h => by rw [takeC h]; simp
  (repeat' (first | (refine LW.is ?_; first | (apply s_callRow; exact rfl; exact kc; exact rfl; exact rfl) | refine s_v ?_ | refine s_m ?_ | refine s_nil ?_ | refine s_gd ?_ | (refine s_gsplit rfl rfl rfl (fun hb => ?_) (fun hb => ?_) <;> refine fct hb (fun hp => ?_))) | (refine DR.is ?_; first | (apply d_callRow; exact rfl; exact kc; exact rfl; exact rfl) | refine d_v ?_ | refine d_m ?_ | (apply d_nil; kernel_rfl) | refine d_gd ?_ | (refine d_gsplit rfl rfl rfl (fun hb => ?_) (fun hb => ?_) <;> refine fct hb (fun hp => ?_))) | refine c_go ?_ | refine s_region ?_ | refine d_region ?_ | (refine L.cond rfl (fun hb => ?_) (fun hb => ?_) <;> refine fct hb (fun hp => ?_))))
  refine L.loopP (ι := Nat) (fun i => ⟨[(17, aI (i : Int)), (16, aI ((rows.map exRow).length : Int)), (15, .iv (.sl (rows.map exRow))), (3, .row 13 ((out ++ ord ++ (rows.take i).flatten).map Ex.c)), (1, .ptr 1 0)], [(1, ⟨36, .l ((Stm.cs ⟨kind, name, table, col, cols, rows, sets, frm, out, wh, ord, down, n⟩).map .iv)⟩)], [(13, ⟨34, 8⟩)]⟩) (fun i => rows.length - i) (fun i => True) (i0 := 0) ?_ trivial ?_
  · refine Wk.mk' (by intro id h; cases h) (.cons rfl (Sub.refl _) (.cons rfl (Sub.refl _) (.cons rfl (Sub.refl _) (.cons rfl (Sub.of_eq (congrArg (AV.row 13) (by simp))) (.cons rfl (Sub.refl _) .nil))))) (.cons rfl rfl (Subs.refl _) .nil) (.cons rfl .nil)
  intro i _ K hK
  cases hx : rows[i]? with
  | some A =>
    have hlt := ltT (l := rows.map exRow) (getF (f := exRow) hx)
    have hlt' := ltN hx
    have g1 : (rows.map exRow)[((i : Nat) : Int).toNat]? = some [.sl (A.map Ex.c)] := by rw [Int.toNat_natCast, List.getElem?_map, hx]; rfl
    have hA := fst hx
    have hB := flt (i + 1)
    rw [hA, List.length_append] at hB
    (repeat' (first | (refine LW.is ?_; first | (apply s_vr; exact rfl; apply v_indexA; exact rfl; exact rfl; omega; exact g1; exact rfl) | (apply s_append; exact rfl; exact rfl; exact rfl; exact rfl; exact lenE _; exact lenE _; (simp only [List.length_map, List.length_append, maxL]; omega); (simp only [List.length_map, List.length_append]; omega); exact rfl; exact rfl) | refine s_v ?_ | refine s_m ?_ | refine s_nil ?_ | refine s_gd ?_ | (refine s_gsplit rfl rfl rfl (fun hb => ?_) (fun hb => ?_) <;> refine fct hb (fun hp => ?_))) | (refine DR.is ?_; first | (apply d_vr; exact rfl; apply v_indexA; exact rfl; exact rfl; omega; exact g1; exact rfl) | (apply d_append; exact rfl; exact rfl; exact rfl; exact rfl; exact lenE _; exact lenE _; (simp only [List.length_map, List.length_append, maxL]; omega); (simp only [List.length_map, List.length_append]; omega); exact rfl; exact rfl) | refine d_v ?_ | refine d_m ?_ | (apply d_nil; kernel_rfl) | refine d_gd ?_ | (refine d_gsplit rfl rfl rfl (fun hb => ?_) (fun hb => ?_) <;> refine fct hb (fun hp => ?_))) | refine c_go ?_ | refine s_region ?_ | refine d_region ?_ | (refine L.cond rfl (fun hb => ?_) (fun hb => ?_) <;> refine fct hb (fun hp => ?_))))
    refine L.only [17, 16, 15, 3, 1] ?_
    refine L.retok 3 23 13 rfl rfl rfl rfl ?_
    refine hK _ (i + 1) trivial (by omega) (Wk.mk' (by intro id h; cases h) (.cons rfl (Sub.refl _) (.cons rfl (Sub.refl _) (.cons rfl (Sub.refl _) (.cons rfl (Sub.of_eq (congrArg (AV.row 13) (by rw [hA]; simp))) (.cons rfl (Sub.refl _) .nil))))) (.cons rfl rfl (Subs.refl _) .nil) (.cons rfl .nil))
  | none =>
  have hlt := ltF (l := rows.map exRow) (getFN hx)
  rw [take_all hx]
  clear hK hx
  generalize hP : out ++ ord ++ rows.flatten = P at *
  have lP : P.length = out.length + ord.length + rows.flatten.length := by rw [← hP, List.length_append, List.length_append]
  clear hP
  have tot2 : (P.length + sets.length + 1) * 104 ≤ 140737488355328 := by rw [lP]; exact htot
  have tot3 : P.length + sets.length + 1 ≤ 1353245080340 := by clear htot; omega
  (repeat' (first | (refine LW.is ?_; first | refine s_v ?_ | refine s_m ?_ | refine s_nil ?_ | refine s_gd ?_ | (refine s_gsplit rfl rfl rfl (fun hb => ?_) (fun hb => ?_) <;> refine fct hb (fun hp => ?_))) | (refine DR.is ?_; first | refine d_v ?_ | refine d_m ?_ | (apply d_nil; kernel_rfl) | refine d_gd ?_ | (refine d_gsplit rfl rfl rfl (fun hb => ?_) (fun hb => ?_) <;> refine fct hb (fun hp => ?_))) | refine c_go ?_ | refine s_region ?_ | refine d_region ?_ | (refine L.cond rfl (fun hb => ?_) (fun hb => ?_) <;> refine fct hb (fun hp => ?_))))
  refine L.loopP (ι := Nat) (fun i => ⟨[(28, aI (i : Int)), (27, aI ((sets.map Ast.c).length : Int)), (26, .iv (.sl (sets.map Ast.c))), (3, .row 13 ((P ++ (sets.take i).map Ast.e).map Ex.c)), (1, .ptr 1 0)], [(1, ⟨36, .l ((Stm.cs ⟨kind, name, table, col, cols, rows, sets, frm, out, wh, ord, down, n⟩).map .iv)⟩)], [(13, ⟨34, 8⟩)]⟩) (fun i => sets.length - i) (fun i => True) (i0 := 0) ?_ trivial ?_
  · refine Wk.mk' (by intro id h; cases h) (.cons rfl (Sub.refl _) (.cons rfl (Sub.refl _) (.cons rfl (Sub.refl _) (.cons rfl (Sub.of_eq (congrArg (AV.row 13) (by simp))) (.cons rfl (Sub.refl _) .nil))))) (.cons rfl rfl (Subs.refl _) .nil) (.cons rfl .nil)
  intro j _ K hK
  cases hy : sets[j]? with
  | some x =>
    have hlt2 := ltT (l := sets.map Ast.c) (getF (f := Ast.c) hy)
    have hlt2' := ltN hy
    have g1 : (sets.map Ast.c)[((j : Nat) : Int).toNat]? = some [S x.co, I x.e.op, I x.e.v.k, I x.e.v.n, S x.e.v.s, S x.e.s, S x.e.name, I x.e.n, .sl (x.e.l.map Ex.c)] := by rw [Int.toNat_natCast, List.getElem?_map, hy]; rfl
    have hT : (sets.take (j + 1)).map Ast.e = (sets.take j).map Ast.e ++ [x.e] := by rw [takeC hy]; simp
    have hl : ((P ++ (sets.take j).map Ast.e).map Ex.c).length ≤ P.length + sets.length := by rw [List.length_map, List.length_append, List.length_map, List.length_take]; omega
    have bm : ((P ++ (sets.take j).map Ast.e).map Ex.c).length + 1 ≤ maxLen := Nat.le_trans (Nat.succ_le_succ hl) (Nat.le_trans tot3 (by rw [maxL]; decide))
    have bb : (((P ++ (sets.take j).map Ast.e).map Ex.c).length + 1) * 104 ≤ 225000000000000 := Nat.le_trans (Nat.mul_le_mul_right 104 (Nat.succ_le_succ hl)) (Nat.le_trans tot2 (by decide))
    (repeat' (first | (refine LW.is ?_; first | (apply s_vr; exact rfl; apply v_indexA; exact rfl; exact rfl; omega; exact g1; exact rfl) | (apply s_append; exact rfl; exact rfl; exact rfl; exact rfl; exact lenE _; exact len_cons rfl len_nil; exact bm; exact bb; exact rfl; exact rfl) | refine s_v ?_ | refine s_m ?_ | refine s_nil ?_ | refine s_gd ?_ | (refine s_gsplit rfl rfl rfl (fun hb => ?_) (fun hb => ?_) <;> refine fct hb (fun hp => ?_))) | (refine DR.is ?_; first | (apply d_vr; exact rfl; apply v_indexA; exact rfl; exact rfl; omega; exact g1; exact rfl) | (apply d_append; exact rfl; exact rfl; exact rfl; exact rfl; exact lenE _; exact len_cons rfl len_nil; exact bm; exact bb; exact rfl; exact rfl) | refine d_v ?_ | refine d_m ?_ | (apply d_nil; kernel_rfl) | refine d_gd ?_ | (refine d_gsplit rfl rfl rfl (fun hb => ?_) (fun hb => ?_) <;> refine fct hb (fun hp => ?_))) | refine c_go ?_ | refine s_region ?_ | refine d_region ?_ | (refine L.cond rfl (fun hb => ?_) (fun hb => ?_) <;> refine fct hb (fun hp => ?_))))
    refine L.onlyS [28, 27, 26, 3, 1] [1] rfl ?_
    refine L.retok 3 36 13 rfl rfl rfl rfl ?_
    refine hK _ (j + 1) trivial (by omega) (Wk.mk' (by intro id h; cases h) (.cons rfl (Sub.refl _) (.cons rfl (Sub.refl _) (.cons rfl (Sub.refl _) (.cons rfl (Sub.of_eq (congrArg (AV.row 13) (by rw [hT, ← List.append_assoc, List.map_append (l₂ := [x.e])]; exact congrArg _ (congrArg (· :: []) (Ex.c_cs x.e).symm)))) (.cons rfl (Sub.refl _) .nil))))) (.cons rfl rfl (Subs.refl _) .nil) (.cons rfl .nil))
  | none =>
  have hlt2 := ltF (l := sets.map Ast.c) (getFN hy)
  rw [take_all hy]
  clear hK hy
  generalize hR : P ++ sets.map Ast.e = R at *
  have lR : R.length = P.length + sets.length := by rw [← hR]; simp
  clear hR
  by_cases h0 : wh.op = 0
  · have q : (wh.op != 0) = false := by simp [h0]
    rw [if_pos h0, List.append_nil]
    (repeat' (first | (refine LW.is ?_; first | refine s_v ?_ | refine s_m ?_ | refine s_nil ?_ | refine s_gd ?_ | (refine s_gsplit rfl rfl rfl (fun hb => ?_) (fun hb => ?_) <;> refine fct hb (fun hp => ?_))) | (refine DR.is ?_; first | refine d_v ?_ | refine d_m ?_ | (apply d_nil; kernel_rfl) | refine d_gd ?_ | (refine d_gsplit rfl rfl rfl (fun hb => ?_) (fun hb => ?_) <;> refine fct hb (fun hp => ?_))) | refine c_go ?_ | refine s_region ?_ | refine d_region ?_ | (refine L.cond rfl (fun hb => ?_) (fun hb => ?_) <;> refine fct hb (fun hp => ?_))))
    all_goals (first | (apply L.ends1; exact rfl; exact rfl; exact rfl) | (apply L.ends2; exact rfl; exact rfl; exact rfl) | (apply L.ends3; exact rfl; exact rfl; exact rfl) | (apply L.ends1A; exact rfl; exact rfl; exact rfl) | (apply L.ends2A; exact rfl; exact rfl; exact rfl) | (apply L.ends3A; exact rfl; exact rfl; exact rfl))
    all_goals rfl
  · have q : (wh.op != 0) = true := by simp [h0]
    rw [if_neg h0]
    have bm : (R.map Ex.c).length + 1 ≤ maxLen := by rw [List.length_map, lR]; exact Nat.le_trans tot3 (by rw [maxL]; decide)
    have bb : ((R.map Ex.c).length + 1) * 104 ≤ 225000000000000 := by rw [List.length_map, lR]; exact Nat.le_trans tot2 (by decide)
    (repeat' (first | (refine LW.is ?_; first | (apply s_append; exact rfl; exact rfl; exact rfl; exact rfl; exact lenE _; exact len_cons rfl len_nil; exact bm; exact bb; exact rfl; exact rfl) | refine s_v ?_ | refine s_m ?_ | refine s_nil ?_ | refine s_gd ?_ | (refine s_gsplit rfl rfl rfl (fun hb => ?_) (fun hb => ?_) <;> refine fct hb (fun hp => ?_))) | (refine DR.is ?_; first | (apply d_append; exact rfl; exact rfl; exact rfl; exact rfl; exact lenE _; exact len_cons rfl len_nil; exact bm; exact bb; exact rfl; exact rfl) | refine d_v ?_ | refine d_m ?_ | (apply d_nil; kernel_rfl) | refine d_gd ?_ | (refine d_gsplit rfl rfl rfl (fun hb => ?_) (fun hb => ?_) <;> refine fct hb (fun hp => ?_))) | refine c_go ?_ | refine s_region ?_ | refine d_region ?_ | (refine L.cond rfl (fun hb => ?_) (fun hb => ?_) <;> refine fct hb (fun hp => ?_))))
    all_goals (first | (apply L.ends1; exact rfl; exact rfl; exact rfl) | (apply L.ends2; exact rfl; exact rfl; exact rfl) | (apply L.ends3; exact rfl; exact rfl; exact rfl) | (apply L.ends1A; exact rfl; exact rfl; exact rfl) | (apply L.ends2A; exact rfl; exact rfl; exact rfl) | (apply L.ends3A; exact rfl; exact rfl; exact rfl))
    all_goals (rw [List.map_append]; exact congrArg AV.iv (congrArg IV.sl (congrArg (R.map Ex.c ++ ·) (congrArg (· :: []) (Ex.c_cs wh).symm))))
end Go.Proofs.YthkobnpogigkiaaDoor
/- What comes in, as the model's values: commands, of no great size. Conditions: none. -/
namespace Go.Proofs.YthkobnpogigkiaaDoor
open Go.Abs
set_option linter.unusedVariables false
set_option maxRecDepth 100000
theorem szs_mem {es : List (List IV)} {e : List IV} (h : e ∈ es) : szs e ≤ szss es := by
  induction es with
  | nil => cases h
  | cons x es ih =>
    simp only [szss]
    rcases List.mem_cons.1 h with rfl | h
    · omega
    · have := ih h; omega
theorem fit_exS : ∀ (n : Nat) {xs : List IV}, szs xs ≤ n → Fits book [.int .i64, .int .i64, .int .i64, .str, .str, .str, .int .i64, .sl 34] xs → ∃ e : Ex, xs = e.c ∧ e.OkS := by
  intro n
  induction n with
  | zero =>
    intro xs hn h
    obtain ⟨x1, xs, rfl, h1, h⟩ := h.cons_inv
    have := sz_pos x1
    simp only [szs] at hn; omega
  | succ n ih =>
    intro xs hn h
    obtain ⟨x1, xs, rfl, h1, h⟩ := h.cons_inv
    obtain ⟨x2, xs, rfl, h2, h⟩ := h.cons_inv
    obtain ⟨x3, xs, rfl, h3, h⟩ := h.cons_inv
    obtain ⟨x4, xs, rfl, h4, h⟩ := h.cons_inv
    obtain ⟨x5, xs, rfl, h5, h⟩ := h.cons_inv
    obtain ⟨x6, xs, rfl, h6, h⟩ := h.cons_inv
    obtain ⟨x7, xs, rfl, h7, h⟩ := h.cons_inv
    obtain ⟨x8, xs, rfl, h8, h⟩ := h.cons_inv
    obtain rfl := h.nil_inv
    obtain ⟨es, rfl, hl, he⟩ := h8.sl_inv (n := 104) (cts := [.int .i64, .int .i64, .int .i64, .str, .str, .str, .int .i64, .sl 34]) rfl
    have hsz : szss es ≤ n := by
      have := sz_pos x1
      simp only [szs, IV.sz] at hn; omega
    obtain ⟨l, rfl, hok⟩ := map_of (f := Ex.c) (Q := fun _ e => e.OkS) (fun e h => ih (Nat.le_trans (szs_mem h) hsz) (he e h))
    obtain ⟨op, rfl, _⟩ := h1.int_inv
    obtain ⟨k, rfl, _⟩ := h2.int_inv
    obtain ⟨m, rfl, _⟩ := h3.int_inv
    obtain ⟨s1, rfl, _⟩ := h4.str_inv
    obtain ⟨s2, rfl, l2⟩ := h5.str_inv
    obtain ⟨s3, rfl, l3⟩ := h6.str_inv
    obtain ⟨q, rfl, _⟩ := h7.int_inv
    have hr : reachBytes = 140737488351232 := rfl
    refine ⟨.mk op ⟨k, m, s1⟩ s2 s3 q l, by rw [Ex.c_eq], .mk (by simp only [List.length_map] at hl; omega) (by omega) (by omega) hok⟩
theorem fit_exl {x : IV} (h : Fit book (.sl 34) x) : ∃ l : List Ex, x = .sl (l.map Ex.c) ∧ l.length ≤ szss (l.map Ex.c) ∧ ∀ e ∈ l, e.OkS := by
  obtain ⟨es, rfl, hl, he⟩ := h.sl_inv (n := 104) (cts := [.int .i64, .int .i64, .int .i64, .str, .str, .str, .int .i64, .sl 34]) rfl
  obtain ⟨l, rfl, hok⟩ := map_of (f := Ex.c) (Q := fun _ e => e.OkS) (fun e h => fit_exS _ (Nat.le_refl _) (he e h))
  have := szss_len (es := l.map Ex.c) (fun e he => by obtain ⟨y, _, rfl⟩ := List.mem_map.1 he; rw [Ex.c_cs]; exact Nat.succ_pos _)
  rw [List.length_map] at this
  exact ⟨l, rfl, this, hok⟩
theorem szss_rows : ∀ {rows : List (List Ex)}, (∀ r ∈ rows, r.length ≤ szss (r.map Ex.c)) → rows.flatten.length + rows.length ≤ szss (rows.map exRow)
  | [], _ => by simp [szss]
  | r :: rows, h => by
    have h1 := h r (List.mem_cons_self ..)
    have h2 := szss_rows (rows := rows) (fun r hr => h r (List.mem_cons_of_mem _ hr))
    have e : szs (exRow r) = szss (r.map Ex.c) + 1 := by simp only [exRow, szs, IV.sz, Nat.add_zero]
    simp only [List.flatten_cons, List.length_append, List.length_cons, List.map_cons, szss]
    omega
theorem fit_rowsE {x : IV} (h : Fit book (.sl 30) x) : ∃ rows : List (List Ex), x = .sl (rows.map exRow) ∧ rows.flatten.length + rows.length ≤ szss (rows.map exRow) ∧ ∀ r ∈ rows, ∀ e ∈ r, e.OkS := by
  obtain ⟨es, rfl, hl, he⟩ := h.sl_inv (n := 24) (cts := [.sl 34]) rfl
  obtain ⟨rs, rfl, hv⟩ := map_of (f := exRow) (Q := fun _ r => r.length ≤ szss (r.map Ex.c) ∧ ∀ e ∈ r, e.OkS) (fun e h => by
    obtain ⟨y, ys, rfl, h1, h2⟩ := (he e h).cons_inv
    obtain rfl := h2.nil_inv
    obtain ⟨l, rfl, h3, h4⟩ := fit_exl h1
    exact ⟨l, rfl, h3, h4⟩)
  exact ⟨rs, rfl, szss_rows (fun r hr => (hv r hr).1), fun r hr => (hv r hr).2⟩
theorem fit_ast {xs : List IV} (h : Fits book [.str, .int .i64, .int .i64, .int .i64, .str, .str, .str, .int .i64, .sl 34] xs) : ∃ x : Ast, xs = x.c ∧ x.e.OkS := by
  obtain ⟨y, ys, rfl, h1, h2⟩ := h.cons_inv
  obtain ⟨s, rfl, _⟩ := h1.str_inv
  obtain ⟨e, rfl, hok⟩ := fit_exS _ (Nat.le_refl _) h2
  exact ⟨⟨s, e⟩, by rw [Ast.c, Ex.c_cs], hok⟩
theorem szs_el {x : IV} : ∀ {xs : List IV}, x ∈ xs → x.sz ≤ szs xs
  | [], h => by cases h
  | y :: xs, h => by
    rw [szs]
    rcases List.mem_cons.1 h with rfl | h
    · exact Nat.le_add_right _ _
    · exact Nat.le_trans (szs_el h) (Nat.le_add_left _ _)
theorem szs_at {xs : List IV} {es : List (List IV)} (hz : szs xs ≤ 1048576) (i : Nat) (h : xs[i]? = some (.sl es)) : szss es ≤ 1048576 := by
  have := szs_el (List.mem_of_getElem? h)
  rw [IV.sz] at this
  exact Nat.le_trans (Nat.le_of_succ_le this) hz
theorem fit_stm {xs : List IV} (h : Fits book [.int .i64, .str, .str, .str, .sl 53, .sl 30, .sl 48, .sl 9, .sl 34, .int .i64, .int .i64, .int .i64, .str, .str, .str, .int .i64, .sl 34, .sl 34, .bool, .int .i64] xs) (hz : szs xs ≤ 1048576) :
    ∃ s : Stm, xs = s.cs ∧ s.Ok := by
  obtain ⟨x1, xs, rfl, h1, h⟩ := h.cons_inv
  obtain ⟨x2, xs, rfl, h2, h⟩ := h.cons_inv
  obtain ⟨x3, xs, rfl, h3, h⟩ := h.cons_inv
  obtain ⟨x4, xs, rfl, h4, h⟩ := h.cons_inv
  obtain ⟨x5, xs, rfl, h5, h⟩ := h.cons_inv
  obtain ⟨x6, xs, rfl, h6, h⟩ := h.cons_inv
  obtain ⟨x7, xs, rfl, h7, h⟩ := h.cons_inv
  obtain ⟨x8, xs, rfl, h8, h⟩ := h.cons_inv
  obtain ⟨x9, xs, rfl, h9, h⟩ := h.cons_inv
  obtain ⟨y1, xs, rfl, k1, h⟩ := h.cons_inv
  obtain ⟨y2, xs, rfl, k2, h⟩ := h.cons_inv
  obtain ⟨y3, xs, rfl, k3, h⟩ := h.cons_inv
  obtain ⟨y4, xs, rfl, k4, h⟩ := h.cons_inv
  obtain ⟨y5, xs, rfl, k5, h⟩ := h.cons_inv
  obtain ⟨y6, xs, rfl, k6, h⟩ := h.cons_inv
  obtain ⟨y7, xs, rfl, k7, h⟩ := h.cons_inv
  obtain ⟨y8, xs, rfl, k8, h⟩ := h.cons_inv
  obtain ⟨z1, xs, rfl, j1, h⟩ := h.cons_inv
  obtain ⟨z2, xs, rfl, j2, h⟩ := h.cons_inv
  obtain ⟨z3, xs, rfl, j3, h⟩ := h.cons_inv
  obtain rfl := h.nil_inv
  have hr : reachBytes = 140737488351232 := rfl
  obtain ⟨kind, rfl, _⟩ := h1.int_inv
  obtain ⟨name, rfl, l2⟩ := h2.str_inv
  obtain ⟨table, rfl, l3⟩ := h3.str_inv
  obtain ⟨col, rfl, l4⟩ := h4.str_inv
  obtain ⟨es, rfl, l5, e5⟩ := h5.sl_inv (n := 32) (cts := [.str, .int .i64, .bool]) rfl
  obtain ⟨cols, rfl, c5⟩ := map_of (f := Col.c) (Q := fun _ v => v.n.length ≤ 140737488355328) (fun e h => fit_col (e5 e h))
  rw [List.length_map] at l5
  obtain ⟨rows, rfl, l6, c6⟩ := fit_rowsE h6
  obtain ⟨es, rfl, l7, e7⟩ := h7.sl_inv (n := 120) (cts := [.str, .int .i64, .int .i64, .int .i64, .str, .str, .str, .int .i64, .sl 34]) rfl
  obtain ⟨sets, rfl, c7⟩ := map_of (f := Ast.c) (Q := fun _ v => v.e.OkS) (fun e h => fit_ast (e7 e h))
  have m7 := szss_len (es := sets.map Ast.c) (fun e he => by obtain ⟨y, _, rfl⟩ := List.mem_map.1 he; exact Nat.succ_pos _)
  rw [List.length_map] at l7 m7
  obtain ⟨es, rfl, l8, e8⟩ := h8.sl_inv (n := 16) (cts := [.str]) rfl
  obtain ⟨frm, rfl, c8⟩ := map_of (f := Str.c) (Q := fun _ v => v.length ≤ 140737488355328) (fun e h => by
    obtain ⟨y, ys, rfl, h1, h2⟩ := (e8 e h).cons_inv
    obtain rfl := h2.nil_inv
    obtain ⟨s, rfl, l⟩ := h1.str_inv
    exact ⟨s, rfl, by omega⟩)
  rw [List.length_map] at l8
  obtain ⟨out, rfl, m9, c9⟩ := fit_exl h9
  obtain ⟨op, rfl, _⟩ := k1.int_inv
  obtain ⟨vk, rfl, _⟩ := k2.int_inv
  obtain ⟨vn, rfl, _⟩ := k3.int_inv
  obtain ⟨vs, rfl, _⟩ := k4.str_inv
  obtain ⟨ws, rfl, lw⟩ := k5.str_inv
  obtain ⟨wn, rfl, lwn⟩ := k6.str_inv
  obtain ⟨wi, rfl, _⟩ := k7.int_inv
  have k8' := k8
  obtain ⟨es, rfl, l8w, _⟩ := k8'.sl_inv (n := 104) (cts := [.int .i64, .int .i64, .int .i64, .str, .str, .str, .int .i64, .sl 34]) rfl
  obtain ⟨wl, hwl, _, cw⟩ := fit_exl k8
  obtain rfl : es = wl.map Ex.c := by injection hwl
  rw [List.length_map] at l8w
  obtain ⟨ord, rfl, mo, co⟩ := fit_exl j1
  obtain ⟨down, rfl⟩ := j2.bool_inv
  obtain ⟨n, rfl, _⟩ := j3.int_inv
  have t1 : szss (out.map Ex.c) ≤ 1048576 := szs_at hz 8 rfl
  have t2 : szss (ord.map Ex.c) ≤ 1048576 := szs_at hz 17 rfl
  have t4 : szss (rows.map exRow) ≤ 1048576 := szs_at hz 5 rfl
  have t5 : szss (sets.map Ast.c) ≤ 1048576 := szs_at hz 6 rfl
  clear hz
  generalize szss (out.map Ex.c) = a1 at *
  generalize szss (ord.map Ex.c) = a2 at *
  generalize szss (rows.map exRow) = a4 at *
  generalize szss (sets.map Ast.c) = a5 at *
  have hwh : (Ex.mk op ⟨vk, vn, vs⟩ ws wn wi wl).OkS := .mk (by omega) (by omega) (by omega) cw
  refine ⟨⟨kind, name, table, col, cols, rows, sets, frm, out, .mk op ⟨vk, vn, vs⟩ ws wn wi wl, ord, down, n⟩, rfl, ?_⟩
  refine ⟨?_, ?_, ?_, ?_, ?_, fun e he => ?_, hwh, ?_, ?_, ?_, c5⟩
  · show (out.length + ord.length + rows.flatten.length + sets.length + 1) * 104 ≤ 140737488355328
    generalize rows.flatten.length = rl at *
    omega
  · show rows.length * 24 ≤ _
    generalize rows.flatten.length = rl at *
    omega
  · show sets.length * 120 ≤ _; omega
  · show cols.length ≤ _; omega
  · show frm.length ≤ _; omega
  · unfold exprsM at he
    simp only [List.mem_append, List.mem_flatten, List.mem_map] at he
    rcases he with (((he | he) | ⟨r, hr1, he⟩) | ⟨x, hx, rfl⟩) | he
    · exact c9 e he
    · exact co e he
    · exact c6 r hr1 e he
    · exact c7 x hx
    · split at he
      · simp at he
      · simp only [List.mem_singleton] at he; subst he; exact hwh
  · show name.length ≤ _; omega
  · show table.length ≤ _; omega
  · show col.length ≤ _; omega
end Go.Proofs.YthkobnpogigkiaaDoor
/- Commands, bound: what change computes. Conditions: how much there is of what comes in. -/
namespace Go.Proofs.YthkobnpogigkiaaDoor
open Go.Abs
set_option maxRecDepth 100000
attribute [local irreducible] L Code.wp bodyPost Exit.then Exit.inBlock
set_option linter.unusedVariables false
set_option linter.unusedSimpArgs false
theorem errT_at {α : Type} {l : List α} {g : α → Int} {i : Nat} {x : α} (h : ∀ y ∈ l.take i, g y = 0) (hx : l[i]? = some x) (hp : g x ≠ 0) : errM (l.map g) = g x := by
  have hi := (List.getElem?_eq_some_iff.1 hx).1
  have e : l.map g = (l.take i).map g ++ g x :: (l.drop (i + 1)).map g := by
    rw [← List.map_cons, ← List.map_append, ← (List.getElem?_eq_some_iff.1 hx).2, ← List.drop_eq_getElem_cons hi, List.take_append_drop]
  have hn : ((l.take i).map g).find? (fun f => f != 0) = none := List.find?_eq_none.2 (fun y hy => by obtain ⟨z, hz, rfl⟩ := List.mem_map.1 hy; simp [h z hz])
  have hq : (g x != 0) = true := by simpa using hp
  rw [errM, e, List.find?_append, hn, List.find?_cons, hq]; rfl
theorem errT_no {α : Type} {l : List α} {g : α → Int} (h : ∀ y ∈ l, g y = 0) : errM (l.map g) = 0 := by
  have hn : (l.map g).find? (fun f => f != 0) = none := List.find?_eq_none.2 (fun y hy => by obtain ⟨z, hz, rfl⟩ := List.mem_map.1 hy; simp [h z hz])
  rw [errM, hn]; rfl
theorem takeT_snoc {α : Type} {g : α → Int} {l : List α} {i : Nat} {x : α} (h : ∀ y ∈ l.take i, g y = 0) (hx : l[i]? = some x) (hp : g x = 0) : ∀ y ∈ l.take (i + 1), g y = 0 := fun y hy => by
  rw [List.take_add_one, hx] at hy
  rcases List.mem_append.1 hy with hy | hy
  · exact h y hy
  · simp at hy; subst hy; exact hp
theorem zip_at {α : Type} {l : List α} {i : Nat} {x : α} (h : l[i]? = some x) : l.zipIdx[i]? = some (x, i) := by simp [List.getElem?_zipIdx, h]
theorem zip_none {α : Type} {l : List α} {i : Nat} (h : l[i]? = none) : l.zipIdx[i]? = none := by simpa [List.getElem?_zipIdx] using h
def nilStA : List AV := [.iv (I 0), .iv (S []), .iv (S []), .iv (S []), .nils, .nils, .nils, .nils, .nils, .iv (I 0), .iv (I 0), .iv (I 0), .iv (S []), .iv (S []), .iv (S []), .iv (I 0), .nils, .nils, .iv (.im (.bool false)), .iv (I 0)]
def valE (t : Tab) (p : Ex × Nat) : Ex × Int := mustM [] p.1 (colTy t (p.2 : Int))
def rowM (t : Tab) (r : List Ex) : List Ex × Int :=
  if r.length ≠ t.cols.length then ([], 5) else (r.zipIdx.map fun p => (valE t p).1, errM (r.zipIdx.map fun p => (valE t p).2))
def setM (t : Tab) (l : List Ast) (p : Ast × Nat) : Ast × Int :=
  if colM t p.1.co < 0 then (p.1, 3)
  else if (l.take p.2).any (fun y => y.co == p.1.co) then (p.1, 4)
  else (⟨p.1.co, (mustM [t] p.1.e (colTy t (colM t p.1.co))).1⟩, (mustM [t] p.1.e (colTy t (colM t p.1.co))).2)
def rowsE (s : Stm) (t : Tab) : Int := errM (s.rows.map fun r => (rowM t r).2)
def setsE (s : Stm) (t : Tab) : Int := errM (s.sets.zipIdx.map fun p => (setM t s.sets p).2)
def changeM (s : Stm) (t : Tab) : Stm × Int :=
  if rowsE s t ≠ 0 then (s, rowsE s t)
  else if setsE s t ≠ 0 then (s, setsE s t)
  else ({ s with rows := s.rows.map fun r => (rowM t r).1, sets := s.sets.zipIdx.map fun p => (setM t s.sets p).1, wh := (whereM [t] s.wh).1 }, (whereM [t] s.wh).2)
theorem Ex.OkS.ok : ∀ {e : Ex}, e.OkS → e.Ok
  | .mk op v s name n l, .mk hl _ _ h => .mk hl (fun x hx => Ex.OkS.ok (h x hx))
 termination_by e => SizeOf.sizeOf e
 decreasing_by
  have := List.sizeOf_lt_of_mem hx
  simp; omega
theorem change1_any {gs : Globs} (y x : Ast) :
    CallG gs Tryd.prog 93 [.agg (y.c.map .iv), .ptr 1000 0] [(1000, ⟨48, .l (x.c.map .iv)⟩)] [(1000, ⟨48, .l (x.c.map .iv)⟩)] [] (aB (y.co == x.co)) := by
  refine CallG.intro _ Tryd.func93 rfl Tryd.ntmps93 rfl (fun w0 E0 hG => ?_)
  (repeat' (first | (refine LW.is ?_; first | refine s_v ?_ | refine s_m ?_ | refine s_nil ?_ | refine s_gd ?_ | (refine s_gsplit rfl rfl rfl (fun hb => ?_) (fun hb => ?_) <;> refine fct hb (fun hp => ?_))) | (refine DR.is ?_; first | refine d_v ?_ | refine d_m ?_ | (apply d_nil; kernel_rfl) | refine d_gd ?_ | (refine d_gsplit rfl rfl rfl (fun hb => ?_) (fun hb => ?_) <;> refine fct hb (fun hp => ?_))) | refine c_go ?_ | refine s_region ?_ | refine d_region ?_ | (refine L.cond rfl (fun hb => ?_) (fun hb => ?_) <;> refine fct hb (fun hp => ?_))))
  all_goals (apply L.ends; exact rfl; exact rfl; exact Sub.refl _; exact Wk.mk' (by intro id h; simp [keys] at h; subst h; rfl) .nil (.cons rfl rfl (Subs.refl _) .nil) .nil)
set_option maxHeartbeats 16000000 in
theorem change_any (s : Stm) (hok : s.Ok) (t : Tab) (ht : t.cols.length ≤ 1000) (hw : s.wh.Ok) :
    CallA Tryd.prog 49 [.agg (s.cs.map .iv), .agg (t.c.map .iv)] [] [] [] (.tup [.agg ((changeM s t).1.cs.map .iv), .iv (I (changeM s t).2)]) := by
  have kw := where_any [t] ⟨by simp, by simpa using ht⟩ s.wh hw
  have htot := hok.tot
  have hrl := hok.rows
  have hall := hok.all
  have hsl := hok.sets
  clear hok hw
  obtain ⟨kind, name, table, col, cols, rows, sets, frm, out, wh, ord, down, n⟩ := s
  dsimp only at htot hrl kw hsl
  have hrl2 : rows.length ≤ 5864062014806 := by clear htot; omega
  clear htot
  have hre : ∀ r ∈ rows, ∀ x ∈ r, x.Ok := fun r hr x hx => (hall x (by unfold exprsM; simp only [List.mem_append, List.mem_flatten]; exact .inl (.inl (.inr ⟨r, hr, hx⟩)))).ok
  have hse : ∀ x ∈ sets, x.e.Ok := fun x hx => (hall x.e (by unfold exprsM; simp only [List.mem_append, List.mem_map]; exact .inl (.inr ⟨x, hx, rfl⟩))).ok
  clear hall
  have htl : (t.cols.map Col.c).length = t.cols.length := List.length_map _
  unfold changeM
  dsimp only
  generalize whereM [t] wh = W at *
  obtain ⟨W1, W2⟩ := W
  refine CallG.toA (CallG.intro _ Tryd.func49 rfl Tryd.ntmps49 rfl (fun w0 E0 hG => ?_))
  (repeat' (first | (refine LW.is ?_; first | refine s_v ?_ | refine s_m ?_ | refine s_nil ?_ | refine s_gd ?_ | (refine s_gsplit rfl rfl rfl (fun hb => ?_) (fun hb => ?_) <;> refine fct hb (fun hp => ?_))) | (refine DR.is ?_; first | refine d_v ?_ | refine d_m ?_ | (apply d_nil; kernel_rfl) | refine d_gd ?_ | (refine d_gsplit rfl rfl rfl (fun hb => ?_) (fun hb => ?_) <;> refine fct hb (fun hp => ?_))) | refine c_go ?_ | refine s_region ?_ | refine d_region ?_ | (refine L.cond rfl (fun hb => ?_) (fun hb => ?_) <;> refine fct hb (fun hp => ?_))))
  refine L.adopt 6 (s := 6) (t := 30) (k := 1) rfl rfl rfl ?_
  refine L.loopP (ι := Nat) (fun i => ⟨[(25, aI (i : Int)), (24, aI ((rows.map exRow).length : Int)), (23, .iv (.sl (rows.map exRow))), (6, .row 6 (((rows.take i).map fun r => (rowM t r).1).map exRow)), (2, .ptr 2 0), (3, .ptr 3 0), (4, .ptr 4 0), (5, aI 0)],
    [(2, ⟨36, .l ((Stm.cs ⟨kind, name, table, col, cols, rows, sets, frm, out, wh, ord, down, n⟩).map .iv)⟩), (3, ⟨43, .l (t.c.map .iv)⟩), (4, ⟨36, .l nilStA⟩)], [(6, ⟨30, 1⟩)]⟩) (fun i => rows.length - i) (fun i => ∀ r ∈ rows.take i, (rowM t r).2 = 0) (i0 := 0) ?_ (by simp) ?_
  · (refine Wk.mk' (by intro id h; cases h) ?_ ?_ ?_ <;> repeat' (first | exact WkF.nil | exact WkB.nil | exact WkT.nil | (refine WkF.cons rfl (Sub.refl _) ?_) | (refine WkB.cons rfl rfl (Subs.refl _) ?_) | (refine WkT.cons rfl ?_)))
  intro i hI K hK
  cases hx : rows[i]? with
  | some r =>
    have hlt := ltT (l := rows.map exRow) (getF (f := exRow) hx)
    have hlt' := ltN hx
    have g1 : (rows.map exRow)[((i : Nat) : Int).toNat]? = some [.sl (r.map Ex.c)] := by rw [Int.toNat_natCast, List.getElem?_map, hx]; rfl
    by_cases hlen : r.length = t.cols.length
    case neg =>
      have hr : rowM t r = ([], 5) := by rw [rowM, if_pos hlen]
      have he : rowsE ⟨kind, name, table, col, cols, rows, sets, frm, out, wh, ord, down, n⟩ t = 5 := by
        have := errT_at (g := fun r => (rowM t r).2) hI hx (by rw [hr]; decide)
        rw [rowsE, this, hr]
      rw [he, if_pos (by decide)]
      have q : (((r.map Ex.c).length : Int) != ((t.cols.map Col.c).length : Int)) = true := by simp; omega
      (repeat' (first | (refine LW.is ?_; first | (apply s_vr; exact rfl; apply v_indexA; exact rfl; exact rfl; omega; exact g1; exact rfl) | refine s_v ?_ | refine s_m ?_ | refine s_nil ?_ | refine s_gd ?_ | (refine s_gsplit rfl rfl rfl (fun hb => ?_) (fun hb => ?_) <;> refine fct hb (fun hp => ?_))) | (refine DR.is ?_; first | (apply d_vr; exact rfl; apply v_indexA; exact rfl; exact rfl; omega; exact g1; exact rfl) | refine d_v ?_ | refine d_m ?_ | (apply d_nil; kernel_rfl) | refine d_gd ?_ | (refine d_gsplit rfl rfl rfl (fun hb => ?_) (fun hb => ?_) <;> refine fct hb (fun hp => ?_))) | refine c_go ?_ | refine s_region ?_ | refine d_region ?_ | (refine L.cond rfl (fun hb => ?_) (fun hb => ?_) <;> refine fct hb (fun hp => ?_))))
      all_goals (first | (apply L.ends1; exact rfl; exact rfl; exact rfl) | (apply L.ends2; exact rfl; exact rfl; exact rfl) | (apply L.ends3; exact rfl; exact rfl; exact rfl) | (apply L.ends1A; exact rfl; exact rfl; exact rfl) | (apply L.ends2A; exact rfl; exact rfl; exact rfl) | (apply L.ends3A; exact rfl; exact rfl; exact rfl))
      all_goals rfl
    have hlen' : (((r.map Ex.c).length : Int) != ((t.cols.map Col.c).length : Int)) = false := by simp; omega
    have hrE : rowM t r = (r.zipIdx.map fun p => (valE t p).1, errM (r.zipIdx.map fun p => (valE t p).2)) := by rw [rowM, if_neg (by omega)]
    have hxr := hre r (List.mem_of_getElem? hx)
    have hrt : r.length ≤ 1000 := by omega
    (repeat' (first | (refine LW.is ?_; first | (apply s_vr; exact rfl; apply v_indexA; exact rfl; exact rfl; omega; exact g1; exact rfl) | refine s_v ?_ | refine s_m ?_ | refine s_nil ?_ | refine s_gd ?_ | (refine s_gsplit rfl rfl rfl (fun hb => ?_) (fun hb => ?_) <;> refine fct hb (fun hp => ?_))) | (refine DR.is ?_; first | (apply d_vr; exact rfl; apply v_indexA; exact rfl; exact rfl; omega; exact g1; exact rfl) | refine d_v ?_ | refine d_m ?_ | (apply d_nil; kernel_rfl) | refine d_gd ?_ | (refine d_gsplit rfl rfl rfl (fun hb => ?_) (fun hb => ?_) <;> refine fct hb (fun hp => ?_))) | refine c_go ?_ | refine s_region ?_ | refine d_region ?_ | (refine L.cond rfl (fun hb => ?_) (fun hb => ?_) <;> refine fct hb (fun hp => ?_))))
    refine L.adopt 9 (s := 9) (t := 34) (k := 8) rfl rfl rfl ?_
    refine L.loopP (ι := Nat) (fun j => ⟨[(38, aI (j : Int)), (37, aI ((r.map Ex.c).length : Int)), (36, .iv (.sl (r.map Ex.c))), (9, .row 9 (((r.zipIdx.take j).map fun p => (valE t p).1).map Ex.c)), (25, aI (i : Int)), (24, aI ((rows.map exRow).length : Int)), (23, .iv (.sl (rows.map exRow))), (6, .row 6 (((rows.take i).map fun r => (rowM t r).1).map exRow)), (2, .ptr 2 0), (3, .ptr 3 0), (4, .ptr 4 0), (5, aI 0)],
      [(2, ⟨36, .l ((Stm.cs ⟨kind, name, table, col, cols, rows, sets, frm, out, wh, ord, down, n⟩).map .iv)⟩), (3, ⟨43, .l (t.c.map .iv)⟩), (4, ⟨36, .l nilStA⟩)], [(9, ⟨34, 8⟩), (6, ⟨30, 1⟩)]⟩) (fun j => r.length - j) (fun j => ∀ p ∈ r.zipIdx.take j, (valE t p).2 = 0) (i0 := 0) ?_ (by simp) ?_
    · (refine Wk.mk' (by intro id h; cases h) ?_ ?_ ?_ <;> repeat' (first | exact WkF.nil | exact WkB.nil | exact WkT.nil | (refine WkF.cons rfl (Sub.refl _) ?_) | (refine WkB.cons rfl rfl (Subs.refl _) ?_) | (refine WkT.cons rfl ?_)))
    intro j hJ K2 hK2
    cases hy : r[j]? with
    | some x =>
      have jlt := ltT (l := r.map Ex.c) (getF (f := Ex.c) hy)
      have jlt' := ltN hy
      have hz := zip_at hy
      have kx := must_any [] Sc.nil x (hxr x (List.mem_of_getElem? hy)) (colTy t (j : Int))
      have hct : colTy t (j : Int) = (t.cols.getD j ⟨[], 0, false⟩).t := by rw [colTy, Int.toNat_natCast]
      have g2 : (r.map Ex.c)[((j : Nat) : Int).toNat]? = some [I x.op, I x.v.k, I x.v.n, S x.v.s, S x.s, S x.name, I x.n, .sl (x.l.map Ex.c)] := by rw [Int.toNat_natCast, List.getElem?_map, hy]; exact congrArg some (Ex.c_cs x)
      have g3 : (t.cols.map Col.c)[((j : Nat) : Int).toNat]? = some [S (t.cols.getD j ⟨[], 0, false⟩).n, I (t.cols.getD j ⟨[], 0, false⟩).t, .im (.bool (t.cols.getD j ⟨[], 0, false⟩).m)] := by rw [Int.toNat_natCast, List.getElem?_map, getD_some ⟨[], 0, false⟩ (show j < t.cols.length by omega)]; rfl
      have hv : valE t (x, j) = mustM [] x (colTy t (j : Int)) := rfl
      have n1 : (((r.zipIdx.take (j + 1)).map fun p => (valE t p).1).map Ex.c) = ((r.zipIdx.take j).map fun p => (valE t p).1).map Ex.c ++ [(valE t (x, j)).1.cs] := by rw [takeC hz, List.map_append, List.map_append]; exact congrArg _ (by simp [Ex.c_cs])
      have l1 : (((r.zipIdx.take j).map fun p => (valE t p).1).map Ex.c).length ≤ 1000 := by simp; omega
      have bm : (((r.zipIdx.take j).map fun p => (valE t p).1).map Ex.c).length + 1 ≤ maxLen := Nat.le_trans (Nat.succ_le_succ l1) (by rw [maxL]; decide)
      have bb : ((((r.zipIdx.take j).map fun p => (valE t p).1).map Ex.c).length + 1) * 104 ≤ 225000000000000 := Nat.le_trans (Nat.mul_le_mul_right 104 (Nat.succ_le_succ l1)) (by decide)
      by_cases hf : (valE t (x, j)).2 = 0
      · have hJ' := takeT_snoc (g := fun p => (valE t p).2) hJ hz hf
        rw [hv] at hf n1
        rw [hct] at kx hf n1
        generalize mustM [] x (t.cols.getD j ⟨[], 0, false⟩).t = m at *
        obtain ⟨e, f⟩ := m
        dsimp only at hf kx n1
        subst hf
        generalize t.cols.getD j ⟨[], 0, false⟩ = cc at *
        have k1 := lenE ((r.zipIdx.take j).map fun p => (valE t p).1)
        generalize ((r.zipIdx.take j).map fun p => (valE t p).1).map Ex.c = es at *
        (repeat' (first | (refine LW.is ?_; first | (apply s_vr; exact rfl; apply v_indexA; exact rfl; exact rfl; omega; (first | exact g2 | exact g3); exact rfl) | (apply s_call0; exact rfl; exact kx; exact rfl; exact rfl) | (apply s_append; exact rfl; exact rfl; exact rfl; exact rfl; exact k1; exact len_cons rfl len_nil; exact bm; exact bb; exact rfl; exact rfl) | refine s_v ?_ | refine s_m ?_ | refine s_nil ?_ | refine s_gd ?_ | (refine s_gsplit rfl rfl rfl (fun hb => ?_) (fun hb => ?_) <;> refine fct hb (fun hp => ?_))) | (refine DR.is ?_; first | (apply d_vr; exact rfl; apply v_indexA; exact rfl; exact rfl; omega; (first | exact g2 | exact g3); exact rfl) | (apply d_call0; exact rfl; exact kx; exact rfl; exact rfl) | (apply d_append; exact rfl; exact rfl; exact rfl; exact rfl; exact k1; exact len_cons rfl len_nil; exact bm; exact bb; exact rfl; exact rfl) | refine d_v ?_ | refine d_m ?_ | (apply d_nil; kernel_rfl) | refine d_gd ?_ | (refine d_gsplit rfl rfl rfl (fun hb => ?_) (fun hb => ?_) <;> refine fct hb (fun hp => ?_))) | refine c_go ?_ | refine s_region ?_ | refine d_region ?_ | (refine L.cond rfl (fun hb => ?_) (fun hb => ?_) <;> refine fct hb (fun hp => ?_))))
        refine L.onlyS [38, 37, 36, 9, 25, 24, 23, 6, 2, 3, 4, 5] [2, 3, 4] rfl ?_
        refine L.retok 9 62 9 rfl rfl rfl rfl ?_
        refine hK2 _ (j + 1) hJ' (by omega) (Wk.mk' (by intro id h; cases h) (.cons rfl (Sub.refl _) (.cons rfl (Sub.refl _) (.cons rfl (Sub.refl _) (.cons rfl (Sub.of_eq (congrArg (AV.row 9) n1.symm)) (.cons rfl (Sub.refl _) (.cons rfl (Sub.refl _) (.cons rfl (Sub.refl _) (.cons rfl (Sub.refl _) (.cons rfl (Sub.refl _) (.cons rfl (Sub.refl _) (.cons rfl (Sub.refl _) (.cons rfl (Sub.refl _) .nil)))))))))))) (.cons rfl rfl (Subs.refl _) (.cons rfl rfl (Subs.refl _) (.cons rfl rfl (Subs.refl _) .nil))) (.cons rfl (.cons rfl .nil)))
      · have he : rowsE ⟨kind, name, table, col, cols, rows, sets, frm, out, wh, ord, down, n⟩ t = (valE t (x, j)).2 := by
          have h1 := errT_at (g := fun p => (valE t p).2) hJ hz hf
          have h2 : (rowM t r).2 = (valE t (x, j)).2 := by rw [hrE]; exact h1
          have := errT_at (g := fun r => (rowM t r).2) hI hx (by rw [h2]; exact hf)
          rw [rowsE, this, h2]
        rw [he, if_pos hf]
        rw [hv] at hf ⊢
        rw [hct] at kx hf ⊢
        generalize mustM [] x (t.cols.getD j ⟨[], 0, false⟩).t = m at *
        obtain ⟨e, f⟩ := m
        dsimp only at hf kx ⊢
        generalize t.cols.getD j ⟨[], 0, false⟩ = cc at *
        have q : (f != 0) = true := by simpa using hf
        (repeat' (first | (refine LW.is ?_; first | (apply s_vr; exact rfl; apply v_indexA; exact rfl; exact rfl; omega; (first | exact g2 | exact g3); exact rfl) | (apply s_call0; exact rfl; exact kx; exact rfl; exact rfl) | refine s_v ?_ | refine s_m ?_ | refine s_nil ?_ | refine s_gd ?_ | (refine s_gsplit rfl rfl rfl (fun hb => ?_) (fun hb => ?_) <;> refine fct hb (fun hp => ?_))) | (refine DR.is ?_; first | (apply d_vr; exact rfl; apply v_indexA; exact rfl; exact rfl; omega; (first | exact g2 | exact g3); exact rfl) | (apply d_call0; exact rfl; exact kx; exact rfl; exact rfl) | refine d_v ?_ | refine d_m ?_ | (apply d_nil; kernel_rfl) | refine d_gd ?_ | (refine d_gsplit rfl rfl rfl (fun hb => ?_) (fun hb => ?_) <;> refine fct hb (fun hp => ?_))) | refine c_go ?_ | refine s_region ?_ | refine d_region ?_ | (refine L.cond rfl (fun hb => ?_) (fun hb => ?_) <;> refine fct hb (fun hp => ?_))))
        all_goals (first | (apply L.ends1; exact rfl; exact rfl; exact rfl) | (apply L.ends2; exact rfl; exact rfl; exact rfl) | (apply L.ends3; exact rfl; exact rfl; exact rfl) | (apply L.ends1A; exact rfl; exact rfl; exact rfl) | (apply L.ends2A; exact rfl; exact rfl; exact rfl) | (apply L.ends3A; exact rfl; exact rfl; exact rfl))
        all_goals rfl
    | none =>
      have jlt := ltF (l := r.map Ex.c) (getFN hy)
      have hzn := zip_none hy
      rw [take_all hzn] at hJ ⊢
      have h0 : (rowM t r).2 = 0 := by rw [hrE]; exact errT_no hJ
      have hI' := takeT_snoc (g := fun r => (rowM t r).2) hI hx h0
      have n1 : (((rows.take (i + 1)).map fun r => (rowM t r).1).map exRow) = ((rows.take i).map fun r => (rowM t r).1).map exRow ++ [exRow (r.zipIdx.map fun p => (valE t p).1)] := by rw [takeC hx, List.map_append, List.map_append]; exact congrArg _ (by simp [hrE])
      have l1 : (((rows.take i).map fun r => (rowM t r).1).map exRow).length + 1 ≤ rows.length := by simp; omega
      have bm : (((rows.take i).map fun r => (rowM t r).1).map exRow).length + 1 ≤ maxLen := Nat.le_trans l1 (Nat.le_trans hrl2 (by rw [maxL]; decide))
      have bb : ((((rows.take i).map fun r => (rowM t r).1).map exRow).length + 1) * 24 ≤ 225000000000000 := Nat.le_trans (Nat.mul_le_mul_right 24 l1) (Nat.le_trans hrl (by decide))
      have k1 : ∀ e ∈ ((rows.take i).map fun r => (rowM t r).1).map exRow, e.length = 1 := fun e he => by obtain ⟨y, _, rfl⟩ := List.mem_map.1 he; rfl
      generalize ((rows.take i).map fun r => (rowM t r).1).map exRow = es at *
      (repeat' (first | (refine LW.is ?_; first | (apply s_append; exact rfl; exact rfl; exact rfl; exact rfl; exact k1; exact len_cons rfl len_nil; exact bm; exact bb; exact rfl; exact rfl) | refine s_v ?_ | refine s_m ?_ | refine s_nil ?_ | refine s_gd ?_ | (refine s_gsplit rfl rfl rfl (fun hb => ?_) (fun hb => ?_) <;> refine fct hb (fun hp => ?_))) | (refine DR.is ?_; first | (apply d_append; exact rfl; exact rfl; exact rfl; exact rfl; exact k1; exact len_cons rfl len_nil; exact bm; exact bb; exact rfl; exact rfl) | refine d_v ?_ | refine d_m ?_ | (apply d_nil; kernel_rfl) | refine d_gd ?_ | (refine d_gsplit rfl rfl rfl (fun hb => ?_) (fun hb => ?_) <;> refine fct hb (fun hp => ?_))) | refine c_go ?_ | refine s_region ?_ | refine d_region ?_ | (refine L.cond rfl (fun hb => ?_) (fun hb => ?_) <;> refine fct hb (fun hp => ?_))))
      refine L.onlyS [25, 24, 23, 6, 2, 3, 4, 5] [2, 3, 4] rfl ?_
      refine L.retok 6 67 6 rfl rfl rfl rfl ?_
      refine hK _ (i + 1) hI' (by omega) (Wk.mk' (by intro id h; cases h) (.cons rfl (Sub.refl _) (.cons rfl (Sub.refl _) (.cons rfl (Sub.refl _) (.cons rfl (Sub.of_eq (congrArg (AV.row 6) n1.symm)) (.cons rfl (Sub.refl _) (.cons rfl (Sub.refl _) (.cons rfl (Sub.refl _) (.cons rfl (Sub.refl _) .nil)))))))) (.cons rfl rfl (Subs.refl _) (.cons rfl rfl (Subs.refl _) (.cons rfl rfl (Subs.refl _) .nil))) (.cons rfl .nil))
  | none =>
  have hlt := ltF (l := rows.map exRow) (getFN hx)
  rw [take_all hx] at hI ⊢
  have he0 : rowsE ⟨kind, name, table, col, cols, rows, sets, frm, out, wh, ord, down, n⟩ t = 0 := errT_no hI
  rw [he0, if_neg (by decide)]
  clear hK hx hI hre he0
  generalize hRW : rows.map (fun r => (rowM t r).1) = RW at *
  clear hRW
  (repeat' (first | (refine LW.is ?_; first | refine s_v ?_ | refine s_m ?_ | refine s_nil ?_ | refine s_gd ?_ | (refine s_gsplit rfl rfl rfl (fun hb => ?_) (fun hb => ?_) <;> refine fct hb (fun hp => ?_))) | (refine DR.is ?_; first | refine d_v ?_ | refine d_m ?_ | (apply d_nil; kernel_rfl) | refine d_gd ?_ | (refine d_gsplit rfl rfl rfl (fun hb => ?_) (fun hb => ?_) <;> refine fct hb (fun hp => ?_))) | refine c_go ?_ | refine s_region ?_ | refine d_region ?_ | (refine L.cond rfl (fun hb => ?_) (fun hb => ?_) <;> refine fct hb (fun hp => ?_))))
  refine L.adopt 14 (s := 14) (t := 48) (k := 9) rfl rfl rfl ?_
  refine L.loopP (ι := Nat) (fun j => ⟨[(72, aI (j : Int)), (71, aI ((sets.map Ast.c).length : Int)), (70, .iv (.sl (sets.map Ast.c))), (14, .row 14 (((sets.zipIdx.take j).map fun p => (setM t sets p).1).map Ast.c)), (6, .row 6 (RW.map exRow)), (2, .ptr 2 0), (3, .ptr 3 0), (4, .ptr 4 0), (5, aI 0)],
    [(2, ⟨36, .l ((Stm.cs ⟨kind, name, table, col, cols, rows, sets, frm, out, wh, ord, down, n⟩).map .iv)⟩), (3, ⟨43, .l (t.c.map .iv)⟩), (4, ⟨36, .l nilStA⟩)], [(14, ⟨48, 9⟩), (6, ⟨30, 1⟩)]⟩) (fun j => sets.length - j) (fun j => ∀ p ∈ sets.zipIdx.take j, (setM t sets p).2 = 0) (i0 := 0) ?_ (by simp) ?_
  · (refine Wk.mk' (by intro id h; cases h) ?_ ?_ ?_ <;> repeat' (first | exact WkF.nil | exact WkB.nil | exact WkT.nil | (refine WkF.cons rfl (Sub.refl _) ?_) | (refine WkB.cons rfl rfl (Subs.refl _) ?_) | (refine WkT.cons rfl ?_)))
  intro j hJ K hK
  cases hy : sets[j]? with
  | some x =>
    have jlt := ltT (l := sets.map Ast.c) (getF (f := Ast.c) hy)
    have jlt' := ltN hy
    have hz := zip_at hy
    have hxe := hse x (List.mem_of_getElem? hy)
    have g2 : (sets.map Ast.c)[((j : Nat) : Int).toNat]? = some [S x.co, I x.e.op, I x.e.v.k, I x.e.v.n, S x.e.v.s, S x.e.s, S x.e.name, I x.e.n, .sl (x.e.l.map Ex.c)] := by rw [Int.toNat_natCast, List.getElem?_map, hy]; rfl
    have kf := findCol_any t x.co (by omega)
    have hset : setM t sets (x, j) = if colM t x.co < 0 then (x, 3) else if (sets.take j).any (fun y => y.co == x.co) then (x, 4) else (⟨x.co, (mustM [t] x.e (colTy t (colM t x.co))).1⟩, (mustM [t] x.e (colTy t (colM t x.co))).2) := rfl
    have hE : (setM t sets (x, j)).2 ≠ 0 → setsE ⟨kind, name, table, col, cols, rows, sets, frm, out, wh, ord, down, n⟩ t = (setM t sets (x, j)).2 := fun h => errT_at (g := fun p => (setM t sets p).2) hJ hz h
    by_cases hc0 : colM t x.co < 0
    · have q : decide (colM t x.co < 0) = true := decide_eq_true hc0
      have h1 : setM t sets (x, j) = (x, 3) := by rw [hset, if_pos hc0]
      rw [hE (by rw [h1]; exact (by decide : (3 : Int) ≠ 0)), h1, if_pos (show (3 : Int) ≠ 0 by decide)]
      (repeat' (first | (refine LW.is ?_; first | (apply s_vr; exact rfl; apply v_indexA; exact rfl; exact rfl; omega; exact g2; exact rfl) | (apply s_call0; exact rfl; exact kf; exact rfl; exact rfl) | refine s_v ?_ | refine s_m ?_ | refine s_nil ?_ | refine s_gd ?_ | (refine s_gsplit rfl rfl rfl (fun hb => ?_) (fun hb => ?_) <;> refine fct hb (fun hp => ?_))) | (refine DR.is ?_; first | (apply d_vr; exact rfl; apply v_indexA; exact rfl; exact rfl; omega; exact g2; exact rfl) | (apply d_call0; exact rfl; exact kf; exact rfl; exact rfl) | refine d_v ?_ | refine d_m ?_ | (apply d_nil; kernel_rfl) | refine d_gd ?_ | (refine d_gsplit rfl rfl rfl (fun hb => ?_) (fun hb => ?_) <;> refine fct hb (fun hp => ?_))) | refine c_go ?_ | refine s_region ?_ | refine d_region ?_ | (refine L.cond rfl (fun hb => ?_) (fun hb => ?_) <;> refine fct hb (fun hp => ?_))))
      all_goals (first | (apply L.ends1; exact rfl; exact rfl; exact rfl) | (apply L.ends2; exact rfl; exact rfl; exact rfl) | (apply L.ends3; exact rfl; exact rfl; exact rfl) | (apply L.ends1A; exact rfl; exact rfl; exact rfl) | (apply L.ends2A; exact rfl; exact rfl; exact rfl) | (apply L.ends3A; exact rfl; exact rfl; exact rfl))
      all_goals rfl
    have q : decide (colM t x.co < 0) = false := decide_eq_false hc0
    rw [if_neg hc0] at hset
    have kc := containsT_any (gs := []) (f := 93) (b := ⟨48, .l (x.c.map .iv)⟩) (fun y => y.co == x.co) (sets.take j) (by rw [List.length_take]; omega) rfl rfl (fun y _ => change1_any y x)
    have k9 : ∀ e ∈ sets.map Ast.c, e.length = 9 := fun e he => by obtain ⟨y, _, rfl⟩ := List.mem_map.1 he; rfl
    have hsl2 : (sets.map Ast.c).take ((j : Nat) : Int).toNat = (sets.take j).map Ast.c := by rw [Int.toNat_natCast, List.map_take]
    have ljs : ((j : Nat) : Int) ≤ (sets.map Ast.c).length := by rw [List.length_map]; omega
    cases hm : (sets.take j).any (fun y => y.co == x.co) with
    | true =>
      rw [hm] at kc
      rw [hm, if_pos rfl] at hset
      rw [hE (by rw [hset]; exact (by decide : (4 : Int) ≠ 0)), hset, if_pos (show (4 : Int) ≠ 0 by decide)]
      (repeat' (first | (refine LW.is ?_; first | (apply s_vr; exact rfl; apply v_indexA; exact rfl; exact rfl; omega; exact g2; exact rfl) | (apply s_call0; exact rfl; exact kf; exact rfl; exact rfl) | (apply s_vr; exact rfl; apply v_sliceVh; exact rfl; exact rfl; exact k9; omega; exact ljs; exact hsl2) | (apply s_vr; exact rfl; apply v_makeFunc; exact rfl) | (apply s_callG1 (q := 16); exact rfl; exact hG; exact kc; exact rfl; exact rfl; exact rfl; exact rfl; exact rfl; exact rfl; exact rfl) | refine s_v ?_ | refine s_m ?_ | refine s_nil ?_ | refine s_gd ?_ | (refine s_gsplit rfl rfl rfl (fun hb => ?_) (fun hb => ?_) <;> refine fct hb (fun hp => ?_))) | (refine DR.is ?_; first | (apply d_vr; exact rfl; apply v_indexA; exact rfl; exact rfl; omega; exact g2; exact rfl) | (apply d_call0; exact rfl; exact kf; exact rfl; exact rfl) | (apply d_vr; exact rfl; apply v_sliceVh; exact rfl; exact rfl; exact k9; omega; exact ljs; exact hsl2) | (apply d_vr; exact rfl; apply v_makeFunc; exact rfl) | (apply d_callG1 (q := 16); exact rfl; exact hG; exact kc; exact rfl; exact rfl; exact rfl; exact rfl; exact rfl; exact rfl; exact rfl) | refine d_v ?_ | refine d_m ?_ | (apply d_nil; kernel_rfl) | refine d_gd ?_ | (refine d_gsplit rfl rfl rfl (fun hb => ?_) (fun hb => ?_) <;> refine fct hb (fun hp => ?_))) | refine c_go ?_ | refine s_region ?_ | refine d_region ?_ | (refine L.cond rfl (fun hb => ?_) (fun hb => ?_) <;> refine fct hb (fun hp => ?_))))
      all_goals (first | (apply L.ends1; exact rfl; exact rfl; exact rfl) | (apply L.ends2; exact rfl; exact rfl; exact rfl) | (apply L.ends3; exact rfl; exact rfl; exact rfl) | (apply L.ends1A; exact rfl; exact rfl; exact rfl) | (apply L.ends2A; exact rfl; exact rfl; exact rfl) | (apply L.ends3A; exact rfl; exact rfl; exact rfl))
      all_goals rfl
    | false =>
    rw [hm] at kc
    rw [hm, if_neg (by decide)] at hset
    have hran := idx_ran (fun c : Col => c.n == x.co) t.cols
    have hcm : colM t x.co = idxM (fun c : Col => c.n == x.co) t.cols := rfl
    have hki : (colM t x.co).toNat < t.cols.length := by
      rw [hcm] at hc0 ⊢
      unfold idxM at hc0 ⊢
      cases hf : t.cols.findIdx? (fun c : Col => c.n == x.co) with
      | none => rw [hf] at hc0; simp only at hc0; omega
      | some j => have := (List.findIdx?_eq_some_iff_getElem.1 hf).1; simpa using this
    have g3 : (t.cols.map Col.c)[(colM t x.co).toNat]? = some [S (t.cols.getD (colM t x.co).toNat ⟨[], 0, false⟩).n, I (t.cols.getD (colM t x.co).toNat ⟨[], 0, false⟩).t, .im (.bool (t.cols.getD (colM t x.co).toNat ⟨[], 0, false⟩).m)] := by rw [List.getElem?_map, getD_some ⟨[], 0, false⟩ hki]; rfl
    have kx := must_any [t] ⟨by simp, by simpa using ht⟩ x.e hxe (colTy t (colM t x.co))
    have n1 : (((sets.zipIdx.take (j + 1)).map fun p => (setM t sets p).1).map Ast.c) = ((sets.zipIdx.take j).map fun p => (setM t sets p).1).map Ast.c ++ [(setM t sets (x, j)).1.c] := by rw [takeC hz, List.map_append, List.map_append]; rfl
    have hct : colTy t (colM t x.co) = (t.cols.getD (colM t x.co).toNat ⟨[], 0, false⟩).t := rfl
    have hJ' := takeT_snoc (g := fun p => (setM t sets p).2) hJ hz
    rw [hset] at hE hJ' n1
    rw [hct] at kx hE hJ' n1
    generalize t.cols.getD (colM t x.co).toNat ⟨[], 0, false⟩ = cc at *
    clear hset hcm hct hran
    generalize colM t x.co = kk at *
    generalize mustM [t] x.e cc.t = m at *
    obtain ⟨e, f⟩ := m
    dsimp only at hE hJ' n1 kx
    by_cases hf : f = 0
    · subst hf
      have l1 : (((sets.zipIdx.take j).map fun p => (setM t sets p).1).map Ast.c).length + 1 ≤ sets.length := by rw [List.length_map, List.length_map, List.length_take, List.length_zipIdx]; omega
      have hsl3 : sets.length ≤ 1172812402962 := by omega
      have bm : (((sets.zipIdx.take j).map fun p => (setM t sets p).1).map Ast.c).length + 1 ≤ maxLen := Nat.le_trans l1 (Nat.le_trans hsl3 (by rw [maxL]; decide))
      have bb : ((((sets.zipIdx.take j).map fun p => (setM t sets p).1).map Ast.c).length + 1) * 120 ≤ 225000000000000 := Nat.le_trans (Nat.mul_le_mul_right 120 l1) (Nat.le_trans hsl (by decide))
      have k1 : ∀ e ∈ ((sets.zipIdx.take j).map fun p => (setM t sets p).1).map Ast.c, e.length = 9 := fun e he => by obtain ⟨y, _, rfl⟩ := List.mem_map.1 he; rfl
      have hJ' := hJ' rfl
      generalize ((sets.zipIdx.take j).map fun p => (setM t sets p).1).map Ast.c = es at *
      (repeat' (first | (refine LW.is ?_; first | (apply s_vr; exact rfl; apply v_indexA; exact rfl; exact rfl; omega; (first | exact g2 | exact g3); exact rfl) | (apply s_call0; exact rfl; (first | exact kf | exact kx); exact rfl; exact rfl) | (apply s_vr; exact rfl; apply v_sliceVh; exact rfl; exact rfl; exact k9; omega; exact ljs; exact hsl2) | (apply s_vr; exact rfl; apply v_makeFunc; exact rfl) | (apply s_callG1 (q := 16); exact rfl; exact hG; exact kc; exact rfl; exact rfl; exact rfl; exact rfl; exact rfl; exact rfl; exact rfl) | (apply s_append; exact rfl; exact rfl; exact rfl; exact rfl; exact k1; exact len_cons rfl len_nil; exact bm; exact bb; exact rfl; exact rfl) | refine s_v ?_ | refine s_m ?_ | refine s_nil ?_ | refine s_gd ?_ | (refine s_gsplit rfl rfl rfl (fun hb => ?_) (fun hb => ?_) <;> refine fct hb (fun hp => ?_))) | (refine DR.is ?_; first | (apply d_vr; exact rfl; apply v_indexA; exact rfl; exact rfl; omega; (first | exact g2 | exact g3); exact rfl) | (apply d_call0; exact rfl; (first | exact kf | exact kx); exact rfl; exact rfl) | (apply d_vr; exact rfl; apply v_sliceVh; exact rfl; exact rfl; exact k9; omega; exact ljs; exact hsl2) | (apply d_vr; exact rfl; apply v_makeFunc; exact rfl) | (apply d_callG1 (q := 16); exact rfl; exact hG; exact kc; exact rfl; exact rfl; exact rfl; exact rfl; exact rfl; exact rfl; exact rfl) | (apply d_append; exact rfl; exact rfl; exact rfl; exact rfl; exact k1; exact len_cons rfl len_nil; exact bm; exact bb; exact rfl; exact rfl) | refine d_v ?_ | refine d_m ?_ | (apply d_nil; kernel_rfl) | refine d_gd ?_ | (refine d_gsplit rfl rfl rfl (fun hb => ?_) (fun hb => ?_) <;> refine fct hb (fun hp => ?_))) | refine c_go ?_ | refine s_region ?_ | refine d_region ?_ | (refine L.cond rfl (fun hb => ?_) (fun hb => ?_) <;> refine fct hb (fun hp => ?_))))
      refine L.onlyS [72, 71, 70, 14, 6, 2, 3, 4, 5] [2, 3, 4] rfl ?_
      refine L.retok 14 115 14 rfl rfl rfl rfl ?_
      refine hK _ (j + 1) hJ' (by omega) (Wk.mk' (by intro id h; cases h) (.cons rfl (Sub.refl _) (.cons rfl (Sub.refl _) (.cons rfl (Sub.refl _) (.cons rfl (Sub.of_eq (congrArg (AV.row 14) n1.symm)) (.cons rfl (Sub.refl _) (.cons rfl (Sub.refl _) (.cons rfl (Sub.refl _) (.cons rfl (Sub.refl _) (.cons rfl (Sub.refl _) .nil))))))))) (.cons rfl rfl (Subs.refl _) (.cons rfl rfl (Subs.refl _) (.cons rfl rfl (Subs.refl _) .nil))) (.cons rfl (.cons rfl .nil)))
    · rw [hE hf, if_pos hf]
      have q2 : (f != 0) = true := by simpa using hf
      (repeat' (first | (refine LW.is ?_; first | (apply s_vr; exact rfl; apply v_indexA; exact rfl; exact rfl; omega; (first | exact g2 | exact g3); exact rfl) | (apply s_call0; exact rfl; (first | exact kf | exact kx); exact rfl; exact rfl) | (apply s_vr; exact rfl; apply v_sliceVh; exact rfl; exact rfl; exact k9; omega; exact ljs; exact hsl2) | (apply s_vr; exact rfl; apply v_makeFunc; exact rfl) | (apply s_callG1 (q := 16); exact rfl; exact hG; exact kc; exact rfl; exact rfl; exact rfl; exact rfl; exact rfl; exact rfl; exact rfl) | refine s_v ?_ | refine s_m ?_ | refine s_nil ?_ | refine s_gd ?_ | (refine s_gsplit rfl rfl rfl (fun hb => ?_) (fun hb => ?_) <;> refine fct hb (fun hp => ?_))) | (refine DR.is ?_; first | (apply d_vr; exact rfl; apply v_indexA; exact rfl; exact rfl; omega; (first | exact g2 | exact g3); exact rfl) | (apply d_call0; exact rfl; (first | exact kf | exact kx); exact rfl; exact rfl) | (apply d_vr; exact rfl; apply v_sliceVh; exact rfl; exact rfl; exact k9; omega; exact ljs; exact hsl2) | (apply d_vr; exact rfl; apply v_makeFunc; exact rfl) | (apply d_callG1 (q := 16); exact rfl; exact hG; exact kc; exact rfl; exact rfl; exact rfl; exact rfl; exact rfl; exact rfl; exact rfl) | refine d_v ?_ | refine d_m ?_ | (apply d_nil; kernel_rfl) | refine d_gd ?_ | (refine d_gsplit rfl rfl rfl (fun hb => ?_) (fun hb => ?_) <;> refine fct hb (fun hp => ?_))) | refine c_go ?_ | refine s_region ?_ | refine d_region ?_ | (refine L.cond rfl (fun hb => ?_) (fun hb => ?_) <;> refine fct hb (fun hp => ?_))))
      all_goals (first | (apply L.ends1; exact rfl; exact rfl; exact rfl) | (apply L.ends2; exact rfl; exact rfl; exact rfl) | (apply L.ends3; exact rfl; exact rfl; exact rfl) | (apply L.ends1A; exact rfl; exact rfl; exact rfl) | (apply L.ends2A; exact rfl; exact rfl; exact rfl) | (apply L.ends3A; exact rfl; exact rfl; exact rfl))
      all_goals rfl
  | none =>
    have jlt := ltF (l := sets.map Ast.c) (getFN hy)
    have hzn := zip_none hy
    rw [take_all hzn] at hJ ⊢
    have he : setsE ⟨kind, name, table, col, cols, rows, sets, frm, out, wh, ord, down, n⟩ t = 0 := errT_no hJ
    rw [he, if_neg (by decide)]
    clear hK hJ hy hzn he
    generalize (sets.zipIdx.map fun p => (setM t sets p).1) = SS at *
    (repeat' (first | (refine LW.is ?_; first | (apply s_call0; exact rfl; exact kw; exact rfl; exact rfl) | refine s_v ?_ | refine s_m ?_ | refine s_nil ?_ | refine s_gd ?_ | (refine s_gsplit rfl rfl rfl (fun hb => ?_) (fun hb => ?_) <;> refine fct hb (fun hp => ?_))) | (refine DR.is ?_; first | (apply d_call0; exact rfl; exact kw; exact rfl; exact rfl) | refine d_v ?_ | refine d_m ?_ | (apply d_nil; kernel_rfl) | refine d_gd ?_ | (refine d_gsplit rfl rfl rfl (fun hb => ?_) (fun hb => ?_) <;> refine fct hb (fun hp => ?_))) | refine c_go ?_ | refine s_region ?_ | refine d_region ?_ | (refine L.cond rfl (fun hb => ?_) (fun hb => ?_) <;> refine fct hb (fun hp => ?_))))
    all_goals (first | (apply L.ends1; exact rfl; exact rfl; exact rfl) | (apply L.ends2; exact rfl; exact rfl; exact rfl) | (apply L.ends3; exact rfl; exact rfl; exact rfl) | (apply L.ends1A; exact rfl; exact rfl; exact rfl) | (apply L.ends2A; exact rfl; exact rfl; exact rfl) | (apply L.ends3A; exact rfl; exact rfl; exact rfl))
    all_goals rfl
end Go.Proofs.YthkobnpogigkiaaDoor
