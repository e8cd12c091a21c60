/- Several texts in one, each with its own sentence ahead of it. Conditions: each one says its own. -/
import Derived.Test.YthkobnpogigkiaaDoorZSchemaWith8
import Derived.LaidMore
import Derived.ChangeArms
import Derived.MakeChecks
/- A catalog behind a command, where tables or indexes are empty, or a drop keeps nothing of them: what With computes. Conditions: how much there is of what comes in; the names rise. -/
namespace Go.Proofs.YthkobnpogigkiaaDoor
open Go.Abs
set_option maxRecDepth 100000
attribute [local irreducible] L Code.wp bodyPost Exit.then Exit.inBlock
set_option linter.unusedVariables false
set_option linter.unusedSimpArgs false
theorem bo2N {i : Nat} {t : TypeId} {xs : List IV} {b : Box} (h : xs ≠ []) (hb : b.cs.isEmpty = false) : boOk [] [(i, ⟨t, .r xs 0⟩), (3, b)] [(i, ⟨t, .l []⟩), (3, b)] = true := by
  cases xs with
  | nil => exact absurd rfl h
  | cons x l => simp [boOk, keys, hb]
theorem bm2N {L : List Nat} {i : Nat} {t : TypeId} {b : Box} (hb : AV.mentsIn L b.cs = true) : ([(i, (⟨t, .l []⟩ : Box)), (3, b)] : List (Nat × Box)).all (fun p => AV.mentsIn L p.2.cs) = true := by simp [AV.mentsIn, hb]
set_option maxHeartbeats 8000000 in
theorem with_oEE {gs : Globs} (s : Stm)  (k1 : (s.kind == 1) = false) (k2 : (s.kind == 2) = false) (k3 : (s.kind == 3) = false) :
    CallG gs Tryd.prog 15 [.agg ((Cat.mk [] []).c.map .iv), .agg (s.cs.map .iv)] [] [] [] (.agg ((Cat.mk ([] : List Tab) ([] : List Idx)).c.map .iv)) := by
  refine CallG.intro _ Tryd.func15 rfl Tryd.ntmps15 rfl (fun w0 E0 hG => ?_)
  (repeat' (first | (refine LW.is ?_; first | (apply s_call0; exact rfl; rotate_left; exact rfl; rotate_left 3; exact cloneT_emp; exact rfl) | (apply s_call0; exact rfl; rotate_left; exact rfl; rotate_left 3; exact cloneX_emp; exact rfl) | refine s_v ?_ | refine s_m ?_ | refine s_nil ?_ | refine s_gd ?_ | (refine s_gsplit rfl rfl rfl (fun hb => ?_) (fun hb => ?_) <;> refine fct hb (fun hp => ?_))) | (refine DR.is ?_; first | (apply d_call0; exact rfl; rotate_left; exact rfl; rotate_left 3; exact cloneT_emp; exact rfl) | (apply d_call0; exact rfl; rotate_left; exact rfl; rotate_left 3; exact cloneX_emp; exact rfl) | refine d_v ?_ | refine d_m ?_ | (apply d_nil; kernel_rfl) | refine d_gd ?_ | (refine d_gsplit rfl rfl rfl (fun hb => ?_) (fun hb => ?_) <;> refine fct hb (fun hp => ?_))) | refine c_go ?_ | refine s_region ?_ | refine d_region ?_ | (refine L.cond rfl (fun hb => ?_) (fun hb => ?_) <;> refine fct hb (fun hp => ?_))))
  all_goals (first | (apply L.ends1; exact rfl; exact rfl; exact rfl) | (apply L.ends2; exact rfl; exact rfl; exact rfl) | (apply L.ends3; exact rfl; exact rfl; exact rfl) | (apply L.ends1A; exact rfl; exact rfl; exact rfl) | (apply L.ends2A; exact rfl; exact rfl; exact rfl) | (apply L.ends3A; exact rfl; exact rfl; exact rfl))
  all_goals rfl
set_option maxHeartbeats 8000000 in
theorem with_oKE {gs : Globs} (s : Stm) (ts : List Tab) (ht : ts ≠ []) (htl : ts.length ≤ 4) (k1 : (s.kind == 1) = false) (k2 : (s.kind == 2) = false) (k3 : (s.kind == 3) = false) :
    CallG gs Tryd.prog 15 [.agg ((Cat.mk ts []).c.map .iv), .agg (s.cs.map .iv)] [] [] [] (.agg ((Cat.mk ts ([] : List Idx)).c.map .iv)) := by
  refine CallG.intro _ Tryd.func15 rfl Tryd.ntmps15 rfl (fun w0 E0 hG => ?_)
  have hkT : ∀ e ∈ ts.map Tab.c, e.length = 2 := by intro e he; obtain ⟨t, _, rfl⟩ := List.mem_map.1 he; rfl
  have qT := cloneT_any (ts.map Tab.c) hkT (by simpa using ht) (by rw [List.length_map]; simp [maxLen]; omega) (by rw [List.length_map]; omega)
  rw [List.length_map] at qT
  have hfT : (ts.map Tab.c).flatten ≠ [] := flat_ne hkT (by decide) (by simpa using ht)
  (repeat' (first | (refine LW.is ?_; first | (apply s_call01; exact rfl; exact qT; exact rfl; exact rfl; exact rfl) | (apply s_call0; exact rfl; rotate_left; exact rfl; rotate_left 3; exact cloneX_emp; exact rfl) | refine s_v ?_ | refine s_m ?_ | refine s_nil ?_ | refine s_gd ?_ | (refine s_gsplit rfl rfl rfl (fun hb => ?_) (fun hb => ?_) <;> refine fct hb (fun hp => ?_))) | (refine DR.is ?_; first | (apply d_call01; exact rfl; exact qT; exact rfl; exact rfl; exact rfl) | (apply d_call0; exact rfl; rotate_left; exact rfl; rotate_left 3; exact cloneX_emp; exact rfl) | refine d_v ?_ | refine d_m ?_ | (apply d_nil; kernel_rfl) | refine d_gd ?_ | (refine d_gsplit rfl rfl rfl (fun hb => ?_) (fun hb => ?_) <;> refine fct hb (fun hp => ?_))) | refine c_go ?_ | refine s_region ?_ | refine d_region ?_ | (refine L.cond rfl (fun hb => ?_) (fun hb => ?_) <;> refine fct hb (fun hp => ?_))))
  all_goals (apply L.pubB 11 4 (es := ts.map Tab.c) (k := 2); exact rfl; exact rfl; exact hkT; decide; exact (by simpa using ht); exact List.length_map _; exact rfl; exact List.cons_ne_nil _ _; exact rfl; exact .cons .here (.cons .same .nil))
  all_goals (first | (apply L.ends1; exact rfl; exact rfl; exact rfl) | (apply L.ends2; exact rfl; exact rfl; exact rfl) | (apply L.ends3; exact rfl; exact rfl; exact rfl) | (apply L.ends1A; exact rfl; exact rfl; exact rfl) | (apply L.ends2A; exact rfl; exact rfl; exact rfl) | (apply L.ends3A; exact rfl; exact rfl; exact rfl))
  all_goals rfl
set_option maxHeartbeats 8000000 in
theorem with_cEE {gs : Globs} (s : Stm)  (k1 : (s.kind == 1) = true) :
    CallG gs Tryd.prog 15 [.agg ((Cat.mk [] []).c.map .iv), .agg (s.cs.map .iv)] [] [] [] (.agg ((Cat.mk [⟨s.name, s.cols⟩] ([] : List Idx)).c.map .iv)) := by
  refine CallG.intro _ Tryd.func15 rfl Tryd.ntmps15 rfl (fun w0 E0 hG => ?_)
  (repeat' (first | (apply s_callW []; exact rfl; exact hG; exact bsT_emp s.name; exact .of_pub rfl; exact .nil; exact rfl; exact rfl; exact rfl; exact rfl) | (apply s_callW []; exact rfl; exact hG; exact (insertT_emp [S s.name, .sl (s.cols.map Col.c)] rfl).toG; exact .cons (Sub.refl _) (.cons (Sub.refl _) (.cons (Sub.row _ _) .nil)); exact .nil; exact rfl; exact rfl; exact rfl; exact rfl) | (refine LW.is ?_; first | (apply s_call0; exact rfl; rotate_left; exact rfl; rotate_left 3; exact cloneT_emp; exact rfl) | (apply s_call0; exact rfl; rotate_left; exact rfl; rotate_left 3; exact cloneX_emp; exact rfl) | refine s_v ?_ | refine s_m ?_ | refine s_nil ?_ | refine s_gd ?_ | (refine s_gsplit rfl rfl rfl (fun hb => ?_) (fun hb => ?_) <;> refine fct hb (fun hp => ?_))) | (refine DR.is ?_; first | (apply d_call0; exact rfl; rotate_left; exact rfl; rotate_left 3; exact cloneT_emp; exact rfl) | (apply d_call0; exact rfl; rotate_left; exact rfl; rotate_left 3; exact cloneX_emp; exact rfl) | refine d_v ?_ | refine d_m ?_ | (apply d_nil; kernel_rfl) | refine d_gd ?_ | (refine d_gsplit rfl rfl rfl (fun hb => ?_) (fun hb => ?_) <;> refine fct hb (fun hp => ?_))) | refine c_go ?_ | refine s_region ?_ | refine d_region ?_ | (refine L.cond rfl (fun hb => ?_) (fun hb => ?_) <;> refine fct hb (fun hp => ?_))))
  all_goals (first | (apply L.ends1; exact rfl; exact rfl; exact rfl) | (apply L.ends2; exact rfl; exact rfl; exact rfl) | (apply L.ends3; exact rfl; exact rfl; exact rfl) | (apply L.ends1A; exact rfl; exact rfl; exact rfl) | (apply L.ends2A; exact rfl; exact rfl; exact rfl) | (apply L.ends3A; exact rfl; exact rfl; exact rfl))
  all_goals rfl
set_option maxHeartbeats 8000000 in
theorem with_cKE {gs : Globs} (s : Stm) (ts : List Tab) (ht : ts ≠ []) (htl : ts.length ≤ 4) (hfl : Falls (fun x => decide (x < s.name)) (ts.map Tab.n)) (k1 : (s.kind == 1) = true) :
    CallG gs Tryd.prog 15 [.agg ((Cat.mk ts []).c.map .iv), .agg (s.cs.map .iv)] [] [] [] (.agg ((Cat.mk (ts.take (lbM (ts.map Tab.n) s.name) ++ ⟨s.name, s.cols⟩ :: ts.drop (lbM (ts.map Tab.n) s.name) : List Tab) ([] : List Idx)).c.map .iv)) := by
  refine CallG.intro _ Tryd.func15 rfl Tryd.ntmps15 rfl (fun w0 E0 hG => ?_)
  have hkT : ∀ e ∈ ts.map Tab.c, e.length = 2 := by intro e he; obtain ⟨t, _, rfl⟩ := List.mem_map.1 he; rfl
  have qT := cloneT_any (ts.map Tab.c) hkT (by simpa using ht) (by rw [List.length_map]; simp [maxLen]; omega) (by rw [List.length_map]; omega)
  rw [List.length_map] at qT
  have hfT : (ts.map Tab.c).flatten ≠ [] := flat_ne hkT (by decide) (by simpa using ht)
  have hle : lbM (ts.map Tab.n) s.name ≤ ts.length := by have := pre_le (fun x => decide (x < s.name)) (ts.map Tab.n); rwa [List.length_map] at this
  have uT := insertT_any (ts.map Tab.c) [S s.name, .sl (s.cols.map Col.c)] (lbM (ts.map Tab.n) s.name) hkT rfl (by simpa using ht) (by rw [List.length_map]; exact hle) (by rw [List.length_map]; simp [maxLen]; omega) (by rw [List.length_map]; omega)
  rw [List.length_map] at uT
  have hE : (ts.map Tab.c).take (lbM (ts.map Tab.n) s.name) ++ [S s.name, .sl (s.cols.map Col.c)] :: (ts.map Tab.c).drop (lbM (ts.map Tab.n) s.name) = (ts.take (lbM (ts.map Tab.n) s.name) ++ ⟨s.name, s.cols⟩ :: ts.drop (lbM (ts.map Tab.n) s.name) : List Tab).map Tab.c := by simp [List.map_take, List.map_drop, Tab.c]
  rw [hE] at uT
  have hkn : ∀ e ∈ (ts.take (lbM (ts.map Tab.n) s.name) ++ ⟨s.name, s.cols⟩ :: ts.drop (lbM (ts.map Tab.n) s.name) : List Tab).map Tab.c, e.length = 2 := by intro e he; obtain ⟨t, _, rfl⟩ := List.mem_map.1 he; rfl
  have hnl : ((ts.take (lbM (ts.map Tab.n) s.name) ++ ⟨s.name, s.cols⟩ :: ts.drop (lbM (ts.map Tab.n) s.name) : List Tab).map Tab.c).length = ts.length + 1 := by simp; omega
  have zT := (bsT_any (gs := gs) ts s.name ht (by omega) hfl).sws [(1000, 11)] (args2 := [.bsh 11 0 ts.length 2, aS s.name, .fn 60 []]) (bx2 := [(11, ⟨43, .r (ts.map Tab.c).flatten 0⟩)]) (bx2' := [(11, ⟨43, .r (ts.map Tab.c).flatten 0⟩)]) (tk2' := []) (res2 := .tup [aI (lbM (ts.map Tab.n) s.name : Int), aB (foundM (ts.map Tab.n) s.name)]) rfl rfl rfl rfl rfl
  (repeat' (first | (apply s_callW []; exact rfl; exact hG; exact zT; exact Subs.refl _; exact .cons rfl rfl (Subs.refl _) .nil; exact rfl; exact bo1 hfT; exact bm1; exact rfl) | (refine LW.is ?_; first | (apply s_call01; exact rfl; exact qT; exact rfl; exact rfl; exact rfl) | (apply s_buildR (es := [[S s.name, .sl (s.cols.map Col.c)]]); exact rfl; exact rfl; exact rfl; exact rfl; exact rfl; exact rfl; exact rfl; exact rfl; exact rfl) | (apply s_call21; exact rfl; exact uT; exact rfl; exact rfl; exact rfl; exact hfT; exact List.cons_ne_nil _ _; exact rfl; exact rfl; exact rfl) | (apply s_call0; exact rfl; rotate_left; exact rfl; rotate_left 3; exact cloneX_emp; exact rfl) | refine s_v ?_ | refine s_m ?_ | refine s_nil ?_ | refine s_gd ?_ | (refine s_gsplit rfl rfl rfl (fun hb => ?_) (fun hb => ?_) <;> refine fct hb (fun hp => ?_))) | (refine DR.is ?_; first | (apply d_call01; exact rfl; exact qT; exact rfl; exact rfl; exact rfl) | (apply d_buildR (es := [[S s.name, .sl (s.cols.map Col.c)]]); exact rfl; exact rfl; exact rfl; exact rfl; exact rfl; exact rfl; exact rfl; exact rfl; exact rfl) | (apply d_call21; exact rfl; exact uT; exact rfl; exact rfl; exact rfl; exact hfT; exact List.cons_ne_nil _ _; exact rfl; exact rfl; exact rfl) | (apply d_call0; exact rfl; rotate_left; exact rfl; rotate_left 3; exact cloneX_emp; exact rfl) | refine d_v ?_ | refine d_m ?_ | (apply d_nil; kernel_rfl) | refine d_gd ?_ | (refine d_gsplit rfl rfl rfl (fun hb => ?_) (fun hb => ?_) <;> refine fct hb (fun hp => ?_))) | refine c_go ?_ | refine s_region ?_ | refine d_region ?_ | (refine L.cond rfl (fun hb => ?_) (fun hb => ?_) <;> refine fct hb (fun hp => ?_))))
  all_goals (apply L.pubB 38 4 (es := (ts.take (lbM (ts.map Tab.n) s.name) ++ ⟨s.name, s.cols⟩ :: ts.drop (lbM (ts.map Tab.n) s.name) : List Tab).map Tab.c) (k := 2); exact rfl; exact rfl; exact hkn; decide; exact (by simp); exact hnl; exact rfl; exact List.cons_ne_nil _ _; exact rfl; exact .cons .here (.cons .same .nil))
  all_goals (first | (apply L.ends1; exact rfl; exact rfl; exact rfl) | (apply L.ends2; exact rfl; exact rfl; exact rfl) | (apply L.ends3; exact rfl; exact rfl; exact rfl) | (apply L.ends1A; exact rfl; exact rfl; exact rfl) | (apply L.ends2A; exact rfl; exact rfl; exact rfl) | (apply L.ends3A; exact rfl; exact rfl; exact rfl))
  all_goals rfl
set_option maxHeartbeats 8000000 in
theorem with_mKE {gs : Globs} (s : Stm) (ts : List Tab) (ht : ts ≠ []) (htl : ts.length ≤ 4) (k1 : (s.kind == 1) = false) (k2 : (s.kind == 2) = true) :
    CallG gs Tryd.prog 15 [.agg ((Cat.mk ts []).c.map .iv), .agg (s.cs.map .iv)] [] [] [] (.agg ((Cat.mk ts [⟨s.name, s.table, s.col⟩]).c.map .iv)) := by
  refine CallG.intro _ Tryd.func15 rfl Tryd.ntmps15 rfl (fun w0 E0 hG => ?_)
  have hkT : ∀ e ∈ ts.map Tab.c, e.length = 2 := by intro e he; obtain ⟨t, _, rfl⟩ := List.mem_map.1 he; rfl
  have qT := cloneT_any (ts.map Tab.c) hkT (by simpa using ht) (by rw [List.length_map]; simp [maxLen]; omega) (by rw [List.length_map]; omega)
  rw [List.length_map] at qT
  have hfT : (ts.map Tab.c).flatten ≠ [] := flat_ne hkT (by decide) (by simpa using ht)
  (repeat' (first | (apply s_callW []; exact rfl; exact hG; exact bsX_emp s.name; exact .of_pub rfl; exact .nil; exact rfl; exact rfl; exact rfl; exact rfl) | (apply s_callW []; exact rfl; exact hG; exact (insertX_emp [S s.name, S s.table, S s.col] rfl).toG; exact .cons (Sub.refl _) (.cons (Sub.refl _) (.cons (Sub.row _ _) .nil)); exact .nil; exact rfl; exact rfl; exact rfl; exact rfl) | (refine LW.is ?_; first | (apply s_call01; exact rfl; exact qT; exact rfl; exact rfl; exact rfl) | (apply s_call0; exact rfl; rotate_left; exact rfl; rotate_left 3; exact cloneX_emp; exact rfl) | refine s_v ?_ | refine s_m ?_ | refine s_nil ?_ | refine s_gd ?_ | (refine s_gsplit rfl rfl rfl (fun hb => ?_) (fun hb => ?_) <;> refine fct hb (fun hp => ?_))) | (refine DR.is ?_; first | (apply d_call01; exact rfl; exact qT; exact rfl; exact rfl; exact rfl) | (apply d_call0; exact rfl; rotate_left; exact rfl; rotate_left 3; exact cloneX_emp; exact rfl) | refine d_v ?_ | refine d_m ?_ | (apply d_nil; kernel_rfl) | refine d_gd ?_ | (refine d_gsplit rfl rfl rfl (fun hb => ?_) (fun hb => ?_) <;> refine fct hb (fun hp => ?_))) | refine c_go ?_ | refine s_region ?_ | refine d_region ?_ | (refine L.cond rfl (fun hb => ?_) (fun hb => ?_) <;> refine fct hb (fun hp => ?_))))
  all_goals (apply L.pubB 11 4 (es := ts.map Tab.c) (k := 2); exact rfl; exact rfl; exact hkT; decide; exact (by simpa using ht); exact List.length_map _; exact rfl; exact List.cons_ne_nil _ _; exact rfl; exact .cons .here (.cons .same .nil))
  all_goals (first | (apply L.ends1; exact rfl; exact rfl; exact rfl) | (apply L.ends2; exact rfl; exact rfl; exact rfl) | (apply L.ends3; exact rfl; exact rfl; exact rfl) | (apply L.ends1A; exact rfl; exact rfl; exact rfl) | (apply L.ends2A; exact rfl; exact rfl; exact rfl) | (apply L.ends3A; exact rfl; exact rfl; exact rfl))
  all_goals rfl
set_option maxHeartbeats 8000000 in
theorem with_dKE {gs : Globs} (s : Stm) (ts : List Tab) (ht : ts ≠ []) (htl : ts.length ≤ 4) (hkT0 : ts.filter (fun x => !(x.n == s.name)) ≠ []) (k1 : (s.kind == 1) = false) (k2 : (s.kind == 2) = false) (k3 : (s.kind == 3) = true) :
    CallG gs Tryd.prog 15 [.agg ((Cat.mk ts []).c.map .iv), .agg (s.cs.map .iv)] [] [] [] (.agg ((Cat.mk (ts.filter (fun x => !(x.n == s.name))) ([] : List Idx)).c.map .iv)) := by
  refine CallG.intro _ Tryd.func15 rfl Tryd.ntmps15 rfl (fun w0 E0 hG => ?_)
  have hkT : ∀ e ∈ ts.map Tab.c, e.length = 2 := by intro e he; obtain ⟨t, _, rfl⟩ := List.mem_map.1 he; rfl
  have qT := cloneT_any (ts.map Tab.c) hkT (by simpa using ht) (by rw [List.length_map]; simp [maxLen]; omega) (by rw [List.length_map]; omega)
  rw [List.length_map] at qT
  have hfT : (ts.map Tab.c).flatten ≠ [] := flat_ne hkT (by decide) (by simpa using ht)
  have rT := dfT_kept (gs := gs) (f := 67) (s := s) (fun t => t.n == s.name) ts ht (by omega) rfl (hmx2 hfT rfl) (fun y _ => ((with3_any s y.n (.sl (y.cols.map Col.c))).toG (gs := gs)).sws [(1000, 1001)] rfl rfl rfl rfl rfl) hkT0
  have sT := rT.sws [(1002, 68), (1001, 3), (1000, 11)] (args2 := [.bsh 11 0 ts.length 2, .fn 67 [.ptr 3 0]]) (bx2 := [(11, ⟨43, .r (ts.map Tab.c).flatten 0⟩), (3, (Box.mk 36 (.l (s.cs.map .iv))))]) (bx2' := [(68, ⟨43, .r ((ts.filter (fun x => !(x.n == s.name))).map Tab.c).flatten 0⟩), (11, ⟨43, .l []⟩), (3, (Box.mk 36 (.l (s.cs.map .iv))))]) (tk2' := []) (res2 := .bsh 68 0 (ts.filter (fun x => !(x.n == s.name))).length 2) rfl rfl rfl rfl rfl
  have sX := (dfX_emp (gs := gs) (f := 69) (s := s)).sws [(1001, 3)] (args2 := [.iv (.sl []), .fn 69 [.ptr 3 0]]) (bx2 := [(3, (Box.mk 36 (.l (s.cs.map .iv))))]) (bx2' := [(3, (Box.mk 36 (.l (s.cs.map .iv))))]) (tk2' := []) (res2 := .iv (.sl [])) rfl rfl rfl rfl rfl
  (repeat' (first | (apply s_callW [68]; exact rfl; exact hG; exact sT; exact Subs.refl _; exact .cons rfl rfl (Subs.refl _) (.cons rfl rfl (Subs.refl _) .nil); exact rfl; exact bo2 hfT rfl; exact bm2 rfl; exact rfl) | (apply s_callW []; exact rfl; exact hG; exact sX; exact .of_pub rfl; exact .cons rfl rfl (Subs.refl _) .nil; exact rfl; exact rfl; exact rfl; exact rfl) | (apply s_vr; exact rfl; apply v_makeFunc; exact rfl) | (refine LW.is ?_; first | (apply s_call01; exact rfl; exact qT; exact rfl; exact rfl; exact rfl) | (apply s_call0; exact rfl; rotate_left; exact rfl; rotate_left 3; exact cloneX_emp; exact rfl) | refine s_v ?_ | refine s_m ?_ | refine s_nil ?_ | refine s_gd ?_ | (refine s_gsplit rfl rfl rfl (fun hb => ?_) (fun hb => ?_) <;> refine fct hb (fun hp => ?_))) | (refine DR.is ?_; first | (apply d_call01; exact rfl; exact qT; exact rfl; exact rfl; exact rfl) | (apply d_call0; exact rfl; rotate_left; exact rfl; rotate_left 3; exact cloneX_emp; exact rfl) | refine d_v ?_ | refine d_m ?_ | (apply d_nil; kernel_rfl) | refine d_gd ?_ | (refine d_gsplit rfl rfl rfl (fun hb => ?_) (fun hb => ?_) <;> refine fct hb (fun hp => ?_))) | refine c_go ?_ | refine s_region ?_ | refine d_region ?_ | (refine L.cond rfl (fun hb => ?_) (fun hb => ?_) <;> refine fct hb (fun hp => ?_))))
  all_goals (apply L.pubB 68 4 (es := (ts.filter (fun x => !(x.n == s.name))).map Tab.c) (k := 2); exact rfl; exact rfl; exact (by intro e he; obtain ⟨t, _, rfl⟩ := List.mem_map.1 he; rfl); decide; exact (by simpa using hkT0); exact List.length_map _; exact rfl; exact List.cons_ne_nil _ _; exact rfl; exact .cons .here (.cons .same .nil))
  all_goals (first | (apply L.ends1; exact rfl; exact rfl; exact rfl) | (apply L.ends2; exact rfl; exact rfl; exact rfl) | (apply L.ends3; exact rfl; exact rfl; exact rfl) | (apply L.ends1A; exact rfl; exact rfl; exact rfl) | (apply L.ends2A; exact rfl; exact rfl; exact rfl) | (apply L.ends3A; exact rfl; exact rfl; exact rfl))
  all_goals rfl
set_option maxHeartbeats 8000000 in
theorem with_dKN {gs : Globs} (s : Stm) (ts : List Tab) (ht : ts ≠ []) (htl : ts.length ≤ 4) (hkT0 : ts.filter (fun x => !(x.n == s.name)) ≠ []) (is : List Idx) (hi : is ≠ []) (hil : is.length ≤ 4) (hnX0 : is.filter (fun x => !(x.tb == s.name)) = []) (iX : Nat) (xX : Idx) (hbX : ∀ y ∈ is.take iX, (fun x => x.tb == s.name) y = false) (hxX : is[iX]? = some xX) (hpX : (fun x => x.tb == s.name) xX = true) (k1 : (s.kind == 1) = false) (k2 : (s.kind == 2) = false) (k3 : (s.kind == 3) = true) :
    CallG gs Tryd.prog 15 [.agg ((Cat.mk ts is).c.map .iv), .agg (s.cs.map .iv)] [] [] [] (.agg ((Cat.mk (ts.filter (fun x => !(x.n == s.name))) []).c.map .iv)) := by
  refine CallG.intro _ Tryd.func15 rfl Tryd.ntmps15 rfl (fun w0 E0 hG => ?_)
  have hkT : ∀ e ∈ ts.map Tab.c, e.length = 2 := by intro e he; obtain ⟨t, _, rfl⟩ := List.mem_map.1 he; rfl
  have qT := cloneT_any (ts.map Tab.c) hkT (by simpa using ht) (by rw [List.length_map]; simp [maxLen]; omega) (by rw [List.length_map]; omega)
  rw [List.length_map] at qT
  have hfT : (ts.map Tab.c).flatten ≠ [] := flat_ne hkT (by decide) (by simpa using ht)
  have rT := dfT_kept (gs := gs) (f := 67) (s := s) (fun t => t.n == s.name) ts ht (by omega) rfl (hmx2 hfT rfl) (fun y _ => ((with3_any s y.n (.sl (y.cols.map Col.c))).toG (gs := gs)).sws [(1000, 1001)] rfl rfl rfl rfl rfl) hkT0
  have sT := rT.sws [(1002, 68), (1001, 3), (1000, 11)] (args2 := [.bsh 11 0 ts.length 2, .fn 67 [.ptr 3 0]]) (bx2 := [(11, ⟨43, .r (ts.map Tab.c).flatten 0⟩), (3, (Box.mk 36 (.l (s.cs.map .iv))))]) (bx2' := [(68, ⟨43, .r ((ts.filter (fun x => !(x.n == s.name))).map Tab.c).flatten 0⟩), (11, ⟨43, .l []⟩), (3, (Box.mk 36 (.l (s.cs.map .iv))))]) (tk2' := []) (res2 := .bsh 68 0 (ts.filter (fun x => !(x.n == s.name))).length 2) rfl rfl rfl rfl rfl
  have hkX : ∀ e ∈ is.map Idx.c, e.length = 3 := by intro e he; obtain ⟨t, _, rfl⟩ := List.mem_map.1 he; rfl
  have qX := cloneX_any (is.map Idx.c) hkX (by simpa using hi) (by rw [List.length_map]; simp [maxLen]; omega) (by rw [List.length_map]; omega)
  rw [List.length_map] at qX
  have hfX : (is.map Idx.c).flatten ≠ [] := flat_ne hkX (by decide) (by simpa using hi)
  have rX := dfX_none (gs := gs) (f := 69) (s := s) (fun x => x.tb == s.name) is hi (by omega) rfl (hmx2 hfX rfl) (fun y _ => ((with4_any s y.n y.tb (S y.co)).toG (gs := gs)).sws [(1000, 1001)] rfl rfl rfl rfl rfl) hnX0 iX xX hbX hxX hpX
  have sX := rX.sws [(1001, 3), (1000, 14)] (args2 := [.bsh 14 0 is.length 3, .fn 69 [.ptr 3 0]]) (bx2 := [(14, ⟨81, .r (is.map Idx.c).flatten 0⟩), (3, (Box.mk 36 (.l (s.cs.map .iv))))]) (bx2' := [(14, ⟨81, .l []⟩), (3, (Box.mk 36 (.l (s.cs.map .iv))))]) (tk2' := []) (res2 := .iv (.sl [])) rfl rfl rfl rfl rfl
  (repeat' (first | (apply s_callW [68]; exact rfl; exact hG; exact sT; exact Subs.refl _; exact .cons rfl rfl (Subs.refl _) (.cons rfl rfl (Subs.refl _) .nil); exact rfl; exact bo2 hfT rfl; exact bm2 rfl; exact rfl) | (apply s_callW []; exact rfl; exact hG; exact sX; exact Subs.refl _; exact .cons rfl rfl (Subs.refl _) (.cons rfl rfl (Subs.refl _) .nil); exact rfl; exact bo2N hfX rfl; exact bm2N rfl; exact rfl) | (apply s_vr; exact rfl; apply v_makeFunc; exact rfl) | (refine LW.is ?_; first | (apply s_call01; exact rfl; exact qT; exact rfl; exact rfl; exact rfl) | (apply s_call01; exact rfl; exact qX; exact rfl; exact rfl; exact rfl) | refine s_v ?_ | refine s_m ?_ | refine s_nil ?_ | refine s_gd ?_ | (refine s_gsplit rfl rfl rfl (fun hb => ?_) (fun hb => ?_) <;> refine fct hb (fun hp => ?_))) | (refine DR.is ?_; first | (apply d_call01; exact rfl; exact qT; exact rfl; exact rfl; exact rfl) | (apply d_call01; exact rfl; exact qX; exact rfl; exact rfl; exact rfl) | refine d_v ?_ | refine d_m ?_ | (apply d_nil; kernel_rfl) | refine d_gd ?_ | (refine d_gsplit rfl rfl rfl (fun hb => ?_) (fun hb => ?_) <;> refine fct hb (fun hp => ?_))) | refine c_go ?_ | refine s_region ?_ | refine d_region ?_ | (refine L.cond rfl (fun hb => ?_) (fun hb => ?_) <;> refine fct hb (fun hp => ?_))))
  all_goals (apply L.pubB 68 4 (es := (ts.filter (fun x => !(x.n == s.name))).map Tab.c) (k := 2); exact rfl; exact rfl; exact (by intro e he; obtain ⟨t, _, rfl⟩ := List.mem_map.1 he; rfl); decide; exact (by simpa using hkT0); exact List.length_map _; exact rfl; exact List.cons_ne_nil _ _; exact rfl; exact .cons .here (.cons .same .nil))
  all_goals (first | (apply L.ends1; exact rfl; exact rfl; exact rfl) | (apply L.ends2; exact rfl; exact rfl; exact rfl) | (apply L.ends3; exact rfl; exact rfl; exact rfl) | (apply L.ends1A; exact rfl; exact rfl; exact rfl) | (apply L.ends2A; exact rfl; exact rfl; exact rfl) | (apply L.ends3A; exact rfl; exact rfl; exact rfl))
  all_goals rfl
set_option maxHeartbeats 8000000 in
theorem with_dNE {gs : Globs} (s : Stm) (ts : List Tab) (ht : ts ≠ []) (htl : ts.length ≤ 4) (hnT0 : ts.filter (fun x => !(x.n == s.name)) = []) (iT : Nat) (xT : Tab) (hbT : ∀ y ∈ ts.take iT, (fun t => t.n == s.name) y = false) (hxT : ts[iT]? = some xT) (hpT : (fun t => t.n == s.name) xT = true) (k1 : (s.kind == 1) = false) (k2 : (s.kind == 2) = false) (k3 : (s.kind == 3) = true) :
    CallG gs Tryd.prog 15 [.agg ((Cat.mk ts []).c.map .iv), .agg (s.cs.map .iv)] [] [] [] (.agg ((Cat.mk [] ([] : List Idx)).c.map .iv)) := by
  refine CallG.intro _ Tryd.func15 rfl Tryd.ntmps15 rfl (fun w0 E0 hG => ?_)
  have hkT : ∀ e ∈ ts.map Tab.c, e.length = 2 := by intro e he; obtain ⟨t, _, rfl⟩ := List.mem_map.1 he; rfl
  have qT := cloneT_any (ts.map Tab.c) hkT (by simpa using ht) (by rw [List.length_map]; simp [maxLen]; omega) (by rw [List.length_map]; omega)
  rw [List.length_map] at qT
  have hfT : (ts.map Tab.c).flatten ≠ [] := flat_ne hkT (by decide) (by simpa using ht)
  have rT := dfT_none (gs := gs) (f := 67) (s := s) (fun t => t.n == s.name) ts ht (by omega) rfl (hmx2 hfT rfl) (fun y _ => ((with3_any s y.n (.sl (y.cols.map Col.c))).toG (gs := gs)).sws [(1000, 1001)] rfl rfl rfl rfl rfl) hnT0 iT xT hbT hxT hpT
  have sT := rT.sws [(1001, 3), (1000, 11)] (args2 := [.bsh 11 0 ts.length 2, .fn 67 [.ptr 3 0]]) (bx2 := [(11, ⟨43, .r (ts.map Tab.c).flatten 0⟩), (3, (Box.mk 36 (.l (s.cs.map .iv))))]) (bx2' := [(11, ⟨43, .l []⟩), (3, (Box.mk 36 (.l (s.cs.map .iv))))]) (tk2' := []) (res2 := .iv (.sl [])) rfl rfl rfl rfl rfl
  have sX := (dfX_emp (gs := gs) (f := 69) (s := s)).sws [(1001, 3)] (args2 := [.iv (.sl []), .fn 69 [.ptr 3 0]]) (bx2 := [(3, (Box.mk 36 (.l (s.cs.map .iv))))]) (bx2' := [(3, (Box.mk 36 (.l (s.cs.map .iv))))]) (tk2' := []) (res2 := .iv (.sl [])) rfl rfl rfl rfl rfl
  (repeat' (first | (apply s_callW []; exact rfl; exact hG; exact sT; exact Subs.refl _; exact .cons rfl rfl (Subs.refl _) (.cons rfl rfl (Subs.refl _) .nil); exact rfl; exact bo2N hfT rfl; exact bm2N rfl; exact rfl) | (apply s_callW []; exact rfl; exact hG; exact sX; exact .of_pub rfl; exact .cons rfl rfl (Subs.refl _) .nil; exact rfl; exact rfl; exact rfl; exact rfl) | (apply s_vr; exact rfl; apply v_makeFunc; exact rfl) | (refine LW.is ?_; first | (apply s_call01; exact rfl; exact qT; exact rfl; exact rfl; exact rfl) | (apply s_call0; exact rfl; rotate_left; exact rfl; rotate_left 3; exact cloneX_emp; exact rfl) | refine s_v ?_ | refine s_m ?_ | refine s_nil ?_ | refine s_gd ?_ | (refine s_gsplit rfl rfl rfl (fun hb => ?_) (fun hb => ?_) <;> refine fct hb (fun hp => ?_))) | (refine DR.is ?_; first | (apply d_call01; exact rfl; exact qT; exact rfl; exact rfl; exact rfl) | (apply d_call0; exact rfl; rotate_left; exact rfl; rotate_left 3; exact cloneX_emp; exact rfl) | refine d_v ?_ | refine d_m ?_ | (apply d_nil; kernel_rfl) | refine d_gd ?_ | (refine d_gsplit rfl rfl rfl (fun hb => ?_) (fun hb => ?_) <;> refine fct hb (fun hp => ?_))) | refine c_go ?_ | refine s_region ?_ | refine d_region ?_ | (refine L.cond rfl (fun hb => ?_) (fun hb => ?_) <;> refine fct hb (fun hp => ?_))))
  all_goals (first | (apply L.ends1; exact rfl; exact rfl; exact rfl) | (apply L.ends2; exact rfl; exact rfl; exact rfl) | (apply L.ends3; exact rfl; exact rfl; exact rfl) | (apply L.ends1A; exact rfl; exact rfl; exact rfl) | (apply L.ends2A; exact rfl; exact rfl; exact rfl) | (apply L.ends3A; exact rfl; exact rfl; exact rfl))
  all_goals rfl
set_option maxHeartbeats 8000000 in
theorem with_dNN {gs : Globs} (s : Stm) (ts : List Tab) (ht : ts ≠ []) (htl : ts.length ≤ 4) (hnT0 : ts.filter (fun x => !(x.n == s.name)) = []) (iT : Nat) (xT : Tab) (hbT : ∀ y ∈ ts.take iT, (fun t => t.n == s.name) y = false) (hxT : ts[iT]? = some xT) (hpT : (fun t => t.n == s.name) xT = true) (is : List Idx) (hi : is ≠ []) (hil : is.length ≤ 4) (hnX0 : is.filter (fun x => !(x.tb == s.name)) = []) (iX : Nat) (xX : Idx) (hbX : ∀ y ∈ is.take iX, (fun x => x.tb == s.name) y = false) (hxX : is[iX]? = some xX) (hpX : (fun x => x.tb == s.name) xX = true) (k1 : (s.kind == 1) = false) (k2 : (s.kind == 2) = false) (k3 : (s.kind == 3) = true) :
    CallG gs Tryd.prog 15 [.agg ((Cat.mk ts is).c.map .iv), .agg (s.cs.map .iv)] [] [] [] (.agg ((Cat.mk [] []).c.map .iv)) := by
  refine CallG.intro _ Tryd.func15 rfl Tryd.ntmps15 rfl (fun w0 E0 hG => ?_)
  have hkT : ∀ e ∈ ts.map Tab.c, e.length = 2 := by intro e he; obtain ⟨t, _, rfl⟩ := List.mem_map.1 he; rfl
  have qT := cloneT_any (ts.map Tab.c) hkT (by simpa using ht) (by rw [List.length_map]; simp [maxLen]; omega) (by rw [List.length_map]; omega)
  rw [List.length_map] at qT
  have hfT : (ts.map Tab.c).flatten ≠ [] := flat_ne hkT (by decide) (by simpa using ht)
  have rT := dfT_none (gs := gs) (f := 67) (s := s) (fun t => t.n == s.name) ts ht (by omega) rfl (hmx2 hfT rfl) (fun y _ => ((with3_any s y.n (.sl (y.cols.map Col.c))).toG (gs := gs)).sws [(1000, 1001)] rfl rfl rfl rfl rfl) hnT0 iT xT hbT hxT hpT
  have sT := rT.sws [(1001, 3), (1000, 11)] (args2 := [.bsh 11 0 ts.length 2, .fn 67 [.ptr 3 0]]) (bx2 := [(11, ⟨43, .r (ts.map Tab.c).flatten 0⟩), (3, (Box.mk 36 (.l (s.cs.map .iv))))]) (bx2' := [(11, ⟨43, .l []⟩), (3, (Box.mk 36 (.l (s.cs.map .iv))))]) (tk2' := []) (res2 := .iv (.sl [])) rfl rfl rfl rfl rfl
  have hkX : ∀ e ∈ is.map Idx.c, e.length = 3 := by intro e he; obtain ⟨t, _, rfl⟩ := List.mem_map.1 he; rfl
  have qX := cloneX_any (is.map Idx.c) hkX (by simpa using hi) (by rw [List.length_map]; simp [maxLen]; omega) (by rw [List.length_map]; omega)
  rw [List.length_map] at qX
  have hfX : (is.map Idx.c).flatten ≠ [] := flat_ne hkX (by decide) (by simpa using hi)
  have rX := dfX_none (gs := gs) (f := 69) (s := s) (fun x => x.tb == s.name) is hi (by omega) rfl (hmx2 hfX rfl) (fun y _ => ((with4_any s y.n y.tb (S y.co)).toG (gs := gs)).sws [(1000, 1001)] rfl rfl rfl rfl rfl) hnX0 iX xX hbX hxX hpX
  have sX := rX.sws [(1001, 3), (1000, 14)] (args2 := [.bsh 14 0 is.length 3, .fn 69 [.ptr 3 0]]) (bx2 := [(14, ⟨81, .r (is.map Idx.c).flatten 0⟩), (3, (Box.mk 36 (.l (s.cs.map .iv))))]) (bx2' := [(14, ⟨81, .l []⟩), (3, (Box.mk 36 (.l (s.cs.map .iv))))]) (tk2' := []) (res2 := .iv (.sl [])) rfl rfl rfl rfl rfl
  (repeat' (first | (apply s_callW []; exact rfl; exact hG; exact sT; exact Subs.refl _; exact .cons rfl rfl (Subs.refl _) (.cons rfl rfl (Subs.refl _) .nil); exact rfl; exact bo2N hfT rfl; exact bm2N rfl; exact rfl) | (apply s_callW []; exact rfl; exact hG; exact sX; exact Subs.refl _; exact .cons rfl rfl (Subs.refl _) (.cons rfl rfl (Subs.refl _) .nil); exact rfl; exact bo2N hfX rfl; exact bm2N rfl; exact rfl) | (apply s_vr; exact rfl; apply v_makeFunc; exact rfl) | (refine LW.is ?_; first | (apply s_call01; exact rfl; exact qT; exact rfl; exact rfl; exact rfl) | (apply s_call01; exact rfl; exact qX; exact rfl; exact rfl; exact rfl) | refine s_v ?_ | refine s_m ?_ | refine s_nil ?_ | refine s_gd ?_ | (refine s_gsplit rfl rfl rfl (fun hb => ?_) (fun hb => ?_) <;> refine fct hb (fun hp => ?_))) | (refine DR.is ?_; first | (apply d_call01; exact rfl; exact qT; exact rfl; exact rfl; exact rfl) | (apply d_call01; exact rfl; exact qX; exact rfl; exact rfl; exact rfl) | refine d_v ?_ | refine d_m ?_ | (apply d_nil; kernel_rfl) | refine d_gd ?_ | (refine d_gsplit rfl rfl rfl (fun hb => ?_) (fun hb => ?_) <;> refine fct hb (fun hp => ?_))) | refine c_go ?_ | refine s_region ?_ | refine d_region ?_ | (refine L.cond rfl (fun hb => ?_) (fun hb => ?_) <;> refine fct hb (fun hp => ?_))))
  all_goals (first | (apply L.ends1; exact rfl; exact rfl; exact rfl) | (apply L.ends2; exact rfl; exact rfl; exact rfl) | (apply L.ends3; exact rfl; exact rfl; exact rfl) | (apply L.ends1A; exact rfl; exact rfl; exact rfl) | (apply L.ends2A; exact rfl; exact rfl; exact rfl) | (apply L.ends3A; exact rfl; exact rfl; exact rfl))
  all_goals rfl
end Go.Proofs.YthkobnpogigkiaaDoor
/- Commands, bound, plain laws: what a bound expression comes to is of its type. Conditions: none. -/
namespace Go.Proofs.YthkobnpogigkiaaDoor
open Go.Abs
set_option linter.unusedVariables false
set_option linter.unusedSimpArgs false
def okT (ty : Int) (v : Val) : Prop := (v.k = 0 ∨ v.k = ty) ∧ (ty ≠ 3 → goodM v = true)
theorem fitV_ok {c : Col} {v : Val} (h : fitV c v = true) : okT c.t v := by
  unfold fitV at h
  simp only [Bool.not_eq_true', Bool.or_eq_false_iff, Bool.not_eq_false', Bool.and_eq_false_iff, bne_eq_false_iff_eq] at h
  refine ⟨?_, fun _ => h.1⟩
  rcases h.2 with h | h
  · exact .inr h
  · exact .inl h.2
theorem form_good {c : Cat} {s : Stm} (h : formM c s = true) : goodCatM c = true ∧ ∀ e ∈ exprsM s, goodExM 1 e = true := by
  simp only [formM, Bool.not_eq_true', Bool.or_eq_false_iff, Bool.not_eq_false'] at h
  refine ⟨h.1.1.1, fun e he => ?_⟩
  have := List.any_eq_false.1 h.2 e he
  simpa using this
end Go.Proofs.YthkobnpogigkiaaDoor
/- Values, plain laws: keys are ordered as values are. Conditions: none. -/
namespace Go.Proofs.YthkobnpogigkiaaDoor
open Go.Abs
set_option linter.unusedVariables false
set_option linter.unusedSimpArgs false
theorem less_asymm {x y : List UInt8} (h : Op.bytesLess x y = true) : Op.bytesLess y x = false := by
  rw [less_lt] at h ⊢
  simp only [decide_eq_true_eq, decide_eq_false_iff_not] at h ⊢
  exact List.lt_asymm h
theorem less_tri {x y : List UInt8} (h : Op.bytesLess x y = false) (h' : Op.bytesLess y x = false) : x = y := by
  rw [less_lt] at h h'
  simp only [decide_eq_false_iff_not] at h h'
  exact List.le_antisymm (List.not_lt.1 h') (List.not_lt.1 h)
end Go.Proofs.YthkobnpogigkiaaDoor
/- Catalogs, plain laws: what a good catalog is; a catalog behind a command. Conditions: none. -/
namespace Go.Proofs.YthkobnpogigkiaaDoor
open Go.Abs
set_option linter.unusedVariables false
set_option linter.unusedSimpArgs false
theorem zip_all {α : Type} {p : α × Nat → Bool} {l : List α} : l.zipIdx.all p = true ↔ ∀ i x, l[i]? = some x → p (x, i) = true := by
  rw [List.all_eq_true]
  constructor
  · intro h i x hx
    exact h (x, i) (List.mem_of_getElem? (zip_at hx))
  · rintro h ⟨x, i⟩ hm
    exact h i x (List.mem_zipIdx_iff_getElem?.1 hm)
theorem rises_iff {α : Type} (f : α → Str) (d : α) (l : List α) : (∀ i x, l[i]? = some x → 0 < i → f (l.getD (i - 1) d) < f x) ↔ (l.map f).Pairwise (· < ·) := by
  constructor
  · intro h
    have key : ∀ j, j < l.length → ∀ i, i < j → f (l.getD i d) < f (l.getD j d) := by
      intro j
      induction j with
      | zero => intro _ i hi; omega
      | succ j ih =>
        intro hj i hi
        have h1 := h (j + 1) (l.getD (j + 1) d) (getD_some d hj) (by omega)
        rw [Nat.add_sub_cancel] at h1
        rcases Nat.lt_or_eq_of_le (Nat.lt_succ_iff.1 hi) with h2 | rfl
        · exact lt_trans' (ih (by omega) i h2) h1
        · exact h1
    rw [List.pairwise_iff_getElem]
    intro i j hi hj hij
    rw [List.length_map] at hi hj
    have := key j hj i hij
    simpa [List.getD_eq_getElem?_getD, hi, hj] using this
  · intro h i x hx hi
    obtain ⟨hlt, rfl⟩ := List.getElem?_eq_some_iff.1 hx
    have h1 : i - 1 < l.length := by omega
    have := List.pairwise_iff_getElem.1 h (i - 1) i (by simpa using h1) (by simpa using hlt) (by omega)
    simpa [List.getD_eq_getElem?_getD, h1] using this
theorem tabOk_iff (c : Cat) (i : Nat) (t : Tab) : tabOk c i t = true ↔ goodTabM t = true ∧ (0 < i → (c.ts.getD (i - 1) ⟨[], []⟩).n < t.n) := by
  unfold tabOk
  rw [less_lt]
  rcases Nat.eq_zero_or_pos i with rfl | hi
  · cases goodTabM t <;> simp
  · have : (0 : Int) < (i : Int) := by omega
    cases goodTabM t <;> simp [hi, this]
theorem idxOk_iff (c : Cat) (i : Nat) (x : Idx) : idxOk c i x = true ↔ (namedM x.n = true ∧ (findT c x.tb).2 = true ∧ 0 ≤ colM (findT c x.tb).1 x.co) ∧ (0 < i → (c.is.getD (i - 1) ⟨[], [], []⟩).n < x.n) := by
  unfold idxOk
  rw [less_lt]
  rcases Nat.eq_zero_or_pos i with rfl | hi
  · cases namedM x.n <;> cases (findT c x.tb).2 <;> simp
  · have : (0 : Int) < (i : Int) := by omega
    cases namedM x.n <;> cases (findT c x.tb).2 <;> simp [hi, this]
structure GoodC (c : Cat) : Prop where
  tabs : ∀ t ∈ c.ts, goodTabM t = true
  tn : (c.ts.map Tab.n).Pairwise (· < ·)
  idx : ∀ x ∈ c.is, namedM x.n = true ∧ (findT c x.tb).2 = true ∧ 0 ≤ colM (findT c x.tb).1 x.co
  xn : (c.is.map Idx.n).Pairwise (· < ·)
  tl : c.ts.length ≤ 3
  il : c.is.length ≤ 4
theorem goodC_iff (c : Cat) : goodCatM c = true ↔ GoodC c := by
  unfold goodCatM tabsOk idxsOk
  simp only [Bool.and_eq_true, zip_all, tabOk_iff, idxOk_iff, decide_eq_true_eq]
  constructor
  · rintro ⟨h1, h2, h3, h4⟩
    refine ⟨fun t ht => ?_, (rises_iff Tab.n ⟨[], []⟩ c.ts).1 (fun i x hx => (h1 i x hx).2), fun x hx => ?_, (rises_iff Idx.n ⟨[], [], []⟩ c.is).1 (fun i x hx => (h2 i x hx).2), by omega, by omega⟩
    · obtain ⟨i, hi⟩ := List.getElem?_of_mem ht; exact (h1 i t hi).1
    · obtain ⟨i, hi⟩ := List.getElem?_of_mem hx; exact (h2 i x hi).1
  · intro h
    exact ⟨fun i x hx => ⟨h.tabs x (List.mem_of_getElem? hx), (rises_iff Tab.n ⟨[], []⟩ c.ts).2 h.tn i x hx⟩, fun i x hx => ⟨h.idx x (List.mem_of_getElem? hx), (rises_iff Idx.n ⟨[], [], []⟩ c.is).2 h.xn i x hx⟩, by have := h.tl; omega, by have := h.il; omega⟩
theorem findT_mem {c : Cat} {n : Str} (h : (findT c n).2 = true) : (findT c n).1 ∈ c.ts ∧ (findT c n).1.n = n := by
  unfold findT at h ⊢
  cases hf : c.ts.find? (fun t => t.n == n) with
  | none => rw [hf] at h; cases h
  | some t => exact ⟨List.mem_of_find?_eq_some hf, by have := List.find?_some hf; simpa using this⟩
theorem findT_none {c : Cat} {n : Str} : (findT c n).2 = false ↔ ∀ t ∈ c.ts, t.n ≠ n := by
  unfold findT
  cases hf : c.ts.find? (fun t => t.n == n) with
  | none => simp only [true_iff]; intro t ht; have := List.find?_eq_none.1 hf t ht; simpa using this
  | some t => simp only [Bool.true_eq_false, false_iff]; intro h; exact h t (List.mem_of_find?_eq_some hf) (by have := List.find?_some hf; simpa using this)
theorem findT_some {c : Cat} {n : Str} : (findT c n).2 = true ↔ ∃ t ∈ c.ts, t.n = n := by
  constructor
  · intro h; exact ⟨_, (findT_mem h).1, (findT_mem h).2⟩
  · rintro ⟨t, ht, rfl⟩
    rw [← Bool.not_eq_false]
    intro h; exact findT_none.1 h t ht rfl
theorem names_inj {α : Type} {f : α → Str} : ∀ {l : List α}, (l.map f).Pairwise (· < ·) → ∀ a ∈ l, ∀ b ∈ l, f a = f b → a = b
  | [], _, a, ha, _, _, _ => by cases ha
  | x :: l, h, a, ha, b, hb, e => by
    rw [List.map_cons, List.pairwise_cons] at h
    rcases List.mem_cons.1 ha with h1 | h1 <;> rcases List.mem_cons.1 hb with h2 | h2
    · rw [h1, h2]
    · have := h.1 (f b) (List.mem_map_of_mem h2); rw [← e, h1] at this; exact absurd this (List.lt_irrefl _)
    · have := h.1 (f a) (List.mem_map_of_mem h1); rw [e, h2] at this; exact absurd this (List.lt_irrefl _)
    · exact names_inj h.2 a h1 b h2 e
theorem findT_of {c : Cat} (hn : (c.ts.map Tab.n).Pairwise (· < ·)) {t : Tab} (ht : t ∈ c.ts) : findT c t.n = (t, true) := by
  have h : (findT c t.n).2 = true := findT_some.2 ⟨t, ht, rfl⟩
  obtain ⟨h1, h2⟩ := findT_mem h
  exact Prod.ext (names_inj hn _ h1 _ ht h2) h
theorem tri {x y : Str} (h : ¬ x < y) (hne : x ≠ y) : y < x := by
  cases h1 : Op.bytesLess y x with
  | true => rw [less_lt] at h1; exact of_decide_eq_true h1
  | false => exact absurd (less_tri (by rw [less_lt]; exact decide_eq_false h) h1) hne
theorem ins_rises {ks : List Str} {k : Str} (h : ks.Pairwise (· < ·)) (hk : k ∉ ks) : (ks.take (lbM ks k) ++ k :: ks.drop (lbM ks k)).Pairwise (· < ·) := by
  have hf := falls_keys k h
  have ha : ∀ a ∈ ks.take (lbM ks k), a < k := by
    intro a ha
    obtain ⟨i, hi⟩ := List.getElem?_of_mem ha
    rw [List.getElem?_take] at hi
    split at hi
    · rename_i hlt; have := pre_lt hi hlt; simpa using this
    · cases hi
  have hb : ∀ b ∈ ks.drop (lbM ks k), k < b := by
    intro b hb
    obtain ⟨i, hi⟩ := List.getElem?_of_mem hb
    rw [List.getElem?_drop] at hi
    refine tri (fun hlt => ?_) (fun e => hk (e ▸ List.mem_of_mem_drop hb))
    have := hf.le hi (by simpa using hlt)
    unfold lbM at this; omega
  refine List.pairwise_append.2 ⟨h.sublist (List.take_sublist _ _), List.pairwise_cons.2 ⟨hb, h.sublist (List.drop_sublist _ _)⟩, fun a h1 b h2 => ?_⟩
  rcases List.mem_cons.1 h2 with rfl | h2
  · exact ha a h1
  · exact lt_trans' (ha a h1) (hb b h2)
theorem ins_mem {α : Type} {l : List α} {k : Nat} {x y : α} : y ∈ l.take k ++ x :: l.drop k ↔ y = x ∨ y ∈ l := by
  have : y ∈ l ↔ y ∈ l.take k ∨ y ∈ l.drop k := by rw [← List.mem_append, List.take_append_drop]
  rw [this]
  simp only [List.mem_append, List.mem_cons]
  constructor
  · rintro (h | h | h)
    · exact .inr (.inl h)
    · exact .inl h
    · exact .inr (.inr h)
  · rintro (h | h | h)
    · exact .inr (.inl h)
    · exact .inl h
    · exact .inr (.inr h)
def withM (c : Cat) (s : Stm) : Cat :=
  if s.kind = 1 then ⟨c.ts.take (lbM (c.ts.map Tab.n) s.name) ++ ⟨s.name, s.cols⟩ :: c.ts.drop (lbM (c.ts.map Tab.n) s.name), c.is⟩
  else if s.kind = 2 then ⟨c.ts, c.is.take (lbM (c.is.map Idx.n) s.name) ++ ⟨s.name, s.table, s.col⟩ :: c.is.drop (lbM (c.is.map Idx.n) s.name)⟩
  else if s.kind = 3 then ⟨c.ts.filter (fun x => !(x.n == s.name)), c.is.filter (fun x => !(x.tb == s.name))⟩
  else c
theorem idx_stays {c d : Cat} (hc : (c.ts.map Tab.n).Pairwise (· < ·)) (hd : (d.ts.map Tab.n).Pairwise (· < ·)) {x : Idx} (h : namedM x.n = true ∧ (findT c x.tb).2 = true ∧ 0 ≤ colM (findT c x.tb).1 x.co) (hm : (findT c x.tb).1 ∈ d.ts) :
    namedM x.n = true ∧ (findT d x.tb).2 = true ∧ 0 ≤ colM (findT d x.tb).1 x.co := by
  obtain ⟨h1, h2, h3⟩ := h
  have e := findT_of hd hm
  rw [(findT_mem h2).2] at e
  rw [e]
  exact ⟨h1, rfl, h3⟩
theorem withL_create {c : Cat} {s : Stm} (h : GoodC c) (hk : s.kind = 1) (hg : goodTabM ⟨s.name, s.cols⟩ = true) (hn : (findT c s.name).2 = false) (hl : c.ts.length < 3) : GoodC (withM c s) ∧ (findT (withM c s) s.name).2 = true := by
  have e : withM c s = ⟨c.ts.take (lbM (c.ts.map Tab.n) s.name) ++ ⟨s.name, s.cols⟩ :: c.ts.drop (lbM (c.ts.map Tab.n) s.name), c.is⟩ := by simp [withM, hk]
  rw [e]
  have hr : ((c.ts.take (lbM (c.ts.map Tab.n) s.name) ++ ⟨s.name, s.cols⟩ :: c.ts.drop (lbM (c.ts.map Tab.n) s.name) : List Tab).map Tab.n).Pairwise (· < ·) := by
    rw [List.map_append, List.map_cons, List.map_take, List.map_drop]
    exact ins_rises h.tn (fun hm => by obtain ⟨t, ht, he⟩ := List.mem_map.1 hm; exact findT_none.1 hn t ht he)
  refine ⟨⟨fun t ht => ?_, hr, fun x hx => idx_stays h.tn hr (h.idx x hx) ?_, h.xn, ?_, h.il⟩, findT_some.2 ⟨⟨s.name, s.cols⟩, ins_mem.2 (.inl rfl), rfl⟩⟩
  · rcases ins_mem.1 ht with rfl | ht
    · exact hg
    · exact h.tabs t ht
  · exact ins_mem.2 (.inr (findT_mem (h.idx x hx).2.1).1)
  · simp only [List.length_append, List.length_take, List.length_cons, List.length_drop]; omega
theorem withL_mark {c : Cat} {s : Stm} (h : GoodC c) (hk : s.kind = 2) (hg : namedM s.name = true) (ht : (findT c s.table).2 = true) (hcol : 0 ≤ colM (findT c s.table).1 s.col) (hn : ∀ x ∈ c.is, x.n ≠ s.name) (hl : c.is.length < 4) : GoodC (withM c s) := by
  have e : withM c s = ⟨c.ts, c.is.take (lbM (c.is.map Idx.n) s.name) ++ ⟨s.name, s.table, s.col⟩ :: c.is.drop (lbM (c.is.map Idx.n) s.name)⟩ := by simp [withM, hk]
  rw [e]
  refine ⟨h.tabs, h.tn, fun x hx => ?_, ?_, h.tl, ?_⟩
  · rcases ins_mem.1 hx with rfl | hx
    · exact ⟨hg, ht, hcol⟩
    · exact h.idx x hx
  · rw [List.map_append, List.map_cons, List.map_take, List.map_drop]
    exact ins_rises h.xn (fun hm => by obtain ⟨t, ht, he⟩ := List.mem_map.1 hm; exact hn t ht he)
  · simp only [List.length_append, List.length_take, List.length_cons, List.length_drop]; omega
theorem withL_drop {c : Cat} {s : Stm} (h : GoodC c) (hk : s.kind = 3) : GoodC (withM c s) ∧ (findT (withM c s) s.name).2 = false := by
  have e : withM c s = ⟨c.ts.filter (fun x => !(x.n == s.name)), c.is.filter (fun x => !(x.tb == s.name))⟩ := by simp [withM, hk]
  rw [e]
  have hr : ((c.ts.filter (fun x => !(x.n == s.name))).map Tab.n).Pairwise (· < ·) := h.tn.sublist (List.Sublist.map _ (List.filter_sublist))
  refine ⟨⟨fun t ht => h.tabs t (List.mem_filter.1 ht).1, hr, fun x hx => ?_, h.xn.sublist (List.Sublist.map _ (List.filter_sublist)), Nat.le_trans (List.length_filter_le _ _) h.tl, Nat.le_trans (List.length_filter_le _ _) h.il⟩, ?_⟩
  · obtain ⟨hx1, hx2⟩ := List.mem_filter.1 hx
    refine idx_stays h.tn hr (h.idx x hx1) (List.mem_filter.2 ⟨(findT_mem (h.idx x hx1).2.1).1, ?_⟩)
    rw [(findT_mem (h.idx x hx1).2.1).2]; exact hx2
  · refine findT_none.2 (fun t ht => ?_)
    have := (List.mem_filter.1 ht).2
    simpa using this
theorem bound_pre {c : Cat} {s b : Stm} (h : bindStM c s = (b, 0)) : formM c s = true ∧ preM c s = (b, 0) := by
  unfold bindStM at h
  split at h
  · cases h
  · rename_i hf
    split at h
    · rename_i h1; exact absurd (Prod.mk.inj h).2 h1
    · rename_i h1
      simp only [ne_eq, Decidable.not_not] at h1
      exact ⟨by simpa using hf, by rw [← h]; exact Prod.ext rfl h1⟩
theorem form_kind {c : Cat} {s : Stm} (h : formM c s = true) : 1 ≤ s.kind ∧ s.kind ≤ 7 := by
  simp only [formM, Bool.not_eq_true', Bool.or_eq_false_iff, decide_eq_false_iff_not] at h
  obtain ⟨⟨⟨_, h1⟩, h2⟩, _⟩ := h
  omega
theorem choose_kind (c : Cat) (s : Stm) : (chooseM c s).1.kind = s.kind ∧ (chooseM c s).1.name = s.name := by
  unfold chooseM
  refine ⟨?_, ?_⟩ <;> dsimp only <;> repeat' split
  all_goals rfl
theorem change_kind (s : Stm) (t : Tab) : (changeM s t).1.kind = s.kind ∧ (changeM s t).1.name = s.name := by
  unfold changeM
  repeat' split
  all_goals exact ⟨rfl, rfl⟩
theorem kind_kept {c : Cat} {s b : Stm} (h : preM c s = (b, 0)) : b.kind = s.kind ∧ b.name = s.name := by
  have e : b = (preM c s).1 := by rw [h]
  rw [e]
  unfold preM
  split
  · exact ⟨rfl, rfl⟩
  split
  · exact ⟨rfl, rfl⟩
  split
  · exact ⟨rfl, rfl⟩
  split
  · exact choose_kind c s
  split
  · exact change_kind s _
  · exact ⟨rfl, rfl⟩
structure WithLaw (c : Cat) (s b : Stm) : Prop where
  good : GoodC (withM c b)
  crt : s.kind = 1 → (findT (withM c b) s.name).2 = true
  drp : s.kind = 3 → (findT (withM c b) s.name).2 = false
  len : s.kind ≤ 3 → ¬ (c.ts.length = (withM c b).ts.length ∧ c.is.length = (withM c b).is.length)
  tne : b.kind = 2 ∨ b.kind = 3 → c.ts ≠ []
  base : GoodC c
theorem with_law {c : Cat} {s b : Stm} (h : bindStM c s = (b, 0)) : WithLaw c s b := by
  obtain ⟨hf, hp⟩ := bound_pre h
  have hg := (goodC_iff c).1 (form_good hf).1
  obtain ⟨hk1, hk7⟩ := form_kind hf
  obtain ⟨hbk, hbn⟩ := kind_kept hp
  by_cases h1 : s.kind = 1
  · have he : createE c s = 0 ∧ b = s := by
      unfold preM at hp; rw [if_pos h1] at hp
      exact ⟨(Prod.mk.inj hp).2, (Prod.mk.inj hp).1.symm⟩
    obtain ⟨he, rfl⟩ := he
    unfold createE at he
    split at he
    · cases he
    · rename_i a1
      split at he
      · cases he
      · rename_i a2
        split at he
        · cases he
        · rename_i a3
          obtain ⟨w1, w2⟩ := withL_create hg h1 (by simpa using a1) (by simpa using a2) (by omega)
          refine ⟨w1, fun _ => w2, fun h3 => by omega, fun _ hl => ?_, fun hh => by omega, hg⟩
          have := hl.1
          simp only [withM, h1, if_pos, List.length_append, List.length_take, List.length_cons, List.length_drop] at this
          omega
  by_cases h2 : s.kind = 2
  · have he : markE c s = 0 ∧ b = s := by
      unfold preM at hp; rw [if_neg h1, if_pos h2] at hp
      exact ⟨(Prod.mk.inj hp).2, (Prod.mk.inj hp).1.symm⟩
    obtain ⟨he, rfl⟩ := he
    unfold markE at he
    split at he
    · cases he
    · rename_i a1
      split at he
      · cases he
      · rename_i a2
        split at he
        · cases he
        · rename_i a3
          split at he
          · cases he
          · rename_i a4
            simp only [not_or, Bool.not_eq_false, Int.not_lt] at a2
            have w := withL_mark hg h2 (by simpa using a1) a2.1 a2.2 (fun x hx e => a3 (List.any_eq_true.2 ⟨x, hx, by simpa using e⟩)) (by omega)
            refine ⟨w, fun h => by omega, fun h => by omega, fun _ hl => ?_, fun _ e => ?_, hg⟩
            · have := hl.2
              simp only [withM, h1, h2, if_pos, if_neg, List.length_append, List.length_take, List.length_cons, List.length_drop] at this
              simp at this
              omega
            · have := (findT_mem a2.1).1; rw [e] at this; cases this
  by_cases h3 : s.kind = 3
  · have he : (findT c s.name).2 = true ∧ b = s := by
      unfold preM at hp; rw [if_neg h1, if_neg h2, if_pos h3] at hp
      refine ⟨?_, (Prod.mk.inj hp).1.symm⟩
      have := (Prod.mk.inj hp).2
      split at this
      · assumption
      · cases this
    obtain ⟨he, rfl⟩ := he
    obtain ⟨w1, w2⟩ := withL_drop hg h3
    refine ⟨w1, fun h => by omega, fun _ => w2, fun _ hl => ?_, fun _ e => ?_, hg⟩
    · have := hl.1
      have e : (withM c b).ts = c.ts.filter (fun x => !(x.n == b.name)) := by simp [withM, h3]
      rw [e] at this
      have h4 := List.length_filter_eq_length_iff.1 this.symm
      have := h4 _ (findT_mem he).1
      rw [(findT_mem he).2] at this
      simp at this
    · have := (findT_mem he).1; rw [e] at this; cases this
  · have e : withM c b = c := by simp only [withM, hbk, h1, h2, h3, if_false]
    exact ⟨by rw [e]; exact hg, fun h => absurd h h1, fun h => absurd h h3, fun h => by omega, fun hh => by omega, hg⟩
end Go.Proofs.YthkobnpogigkiaaDoor
/- Commands, bound: SchemaTypes answers true. Conditions: how much there is of what comes in. -/
namespace Go.Proofs.YthkobnpogigkiaaDoor
open Go.Abs
set_option maxRecDepth 100000
attribute [local irreducible] L Code.wp bodyPost Exit.then Exit.inBlock
set_option linter.unusedVariables false
set_option linter.unusedSimpArgs false
def schC : Cat := ⟨[⟨[116], [⟨[97], 1, true⟩]⟩], []⟩
def schS : Stm := ⟨7, [], [], [], [], [], [], [[116]], [], nilE, [], false, -1⟩
def schB : Stm := ⟨7, [], [], [], [], [], [], [[116]], [.mk 2 nilV [116] [97] 0 []], nilE, [], false, -1⟩
theorem sch_bind : bindStM schC schS = (schB, 0) := by kernel_rfl
theorem sch_good : goodCatM schC = true := by kernel_rfl
theorem nilE_okS : nilE.OkS := .mk (by simp) (by simp) (by simp) (by simp)
theorem schC_ok : schC.Ok := ⟨by simp [schC], by simp [schC], fun t ht => by
  simp only [schC, List.mem_singleton] at ht
  subst ht
  exact ⟨by simp, by simp, fun c hc => by simp only [List.mem_singleton] at hc; subst hc; simp⟩, fun x hx => by simp [schC] at hx⟩
theorem schS_ok : schS.Ok where
  tot := by simp [schS]
  rows := by simp [schS]
  sets := by simp [schS]
  cols := by simp [schS]
  frm := by simp [schS]
  all := fun e he => by simp [exprsM, schS, nilE, Ex.op] at he
  wh := nilE_okS
  name := by simp [schS]
  table := by simp [schS]
  col := by simp [schS]
  cn := fun c hc => by simp [schS] at hc
theorem schemas_any : CallG gs0 Tryd.prog 9 [] [] [] [] (aB true) := by
  have kb := bindSt_any schC schC_ok schS schS_ok
  rw [sch_bind] at kb
  have kg := goodCat_any schC schC_ok
  rw [sch_good] at kg
  refine CallG.intro _ Tryd.func9 rfl Tryd.ntmps9 rfl (fun w0 E0 hG => ?_)
  have g0 : (schB.out.map Ex.c)[(0 : Int).toNat]? = some [I 2, I 0, I 0, S [], S [116], S [97], I 0, .sl []] := by
    rw [show schB.out = [.mk 2 nilV [116] [97] 0 []] from rfl]
    exact congrArg some (Ex.c_cs _)
  (repeat' (first | (refine LW.is ?_; first | (apply s_callG; exact rfl; exact hG; (first | exact kb | exact kg); exact rfl; exact rfl) | (apply s_vr; exact rfl; apply v_indexA; exact rfl; exact rfl; decide; exact g0; exact rfl) | refine s_v ?_ | refine s_m ?_ | refine s_nil ?_ | refine s_gd ?_ | (refine s_gsplit rfl rfl rfl (fun hb => ?_) (fun hb => ?_) <;> refine fct hb (fun hp => ?_))) | (refine DR.is ?_; first | (apply d_callG; exact rfl; exact hG; (first | exact kb | exact kg); exact rfl; exact rfl) | (apply d_vr; exact rfl; apply v_indexA; exact rfl; exact rfl; decide; exact g0; exact rfl) | refine d_v ?_ | refine d_m ?_ | (apply d_nil; kernel_rfl) | refine d_gd ?_ | (refine d_gsplit rfl rfl rfl (fun hb => ?_) (fun hb => ?_) <;> refine fct hb (fun hp => ?_))) | refine c_go ?_ | refine s_region ?_ | refine d_region ?_ | (refine L.cond rfl (fun hb => ?_) (fun hb => ?_) <;> refine fct hb (fun hp => ?_))))
  all_goals (first | (apply L.ends1; exact rfl; exact rfl; exact rfl) | (apply L.ends2; exact rfl; exact rfl; exact rfl) | (apply L.ends3; exact rfl; exact rfl; exact rfl) | (apply L.ends1A; exact rfl; exact rfl; exact rfl) | (apply L.ends2A; exact rfl; exact rfl; exact rfl) | (apply L.ends3A; exact rfl; exact rfl; exact rfl))
  all_goals rfl
end Go.Proofs.YthkobnpogigkiaaDoor
/- A catalog behind a command: what With computes; SchemaWith answers true. Conditions: how much there is of what comes in. -/
namespace Go.Proofs.YthkobnpogigkiaaDoor
open Go.Abs
set_option maxRecDepth 100000
attribute [local irreducible] L Code.wp bodyPost Exit.then Exit.inBlock
set_option linter.unusedVariables false
set_option linter.unusedSimpArgs false
theorem with_any {gs : Globs} (c : Cat) (s : Stm) (hg : GoodC c) (hT : s.kind = 2 ∨ s.kind = 3 → c.ts ≠ []) :
    CallG gs Tryd.prog 15 [.agg (c.c.map .iv), .agg (s.cs.map .iv)] [] [] [] (.agg ((withM c s).c.map .iv)) := by
  have hE : c.ts = [] → c.is = [] := fun h => by
    refine List.eq_nil_iff_forall_not_mem.2 (fun x hx => ?_)
    have := (findT_mem (hg.idx x hx).2.1).1
    rw [h] at this; cases this
  have htl := hg.tl
  have hil := hg.il
  have fT : Falls (fun x => decide (x < s.name)) (c.ts.map Tab.n) := falls_keys _ hg.tn
  have fX : Falls (fun x => decide (x < s.name)) (c.is.map Idx.n) := falls_keys _ hg.xn
  have hN : c.ts.filter (fun x => !(x.n == s.name)) = [] → c.is.filter (fun x => !(x.tb == s.name)) = [] := fun h => by
    refine List.eq_nil_iff_forall_not_mem.2 (fun x hx => ?_)
    obtain ⟨h1, h2⟩ := List.mem_filter.1 hx
    have h3 := findT_mem (hg.idx x h1).2.1
    have : (findT c x.tb).1 ∈ c.ts.filter (fun x => !(x.n == s.name)) := List.mem_filter.2 ⟨h3.1, by rw [h3.2]; exact h2⟩
    rw [h] at this; cases this
  obtain ⟨ts, is⟩ := c
  dsimp only at hE htl hil fT fX hN hT
  by_cases h1 : s.kind = 1
  · have k1 : (s.kind == 1) = true := by simpa using h1
    rw [show withM ⟨ts, is⟩ s = ⟨ts.take (lbM (ts.map Tab.n) s.name) ++ ⟨s.name, s.cols⟩ :: ts.drop (lbM (ts.map Tab.n) s.name), is⟩ by simp [withM, h1]]
    by_cases hte : ts = []
    · have hie := hE hte; subst hte; subst hie; exact with_cEE s k1
    · by_cases hie : is = []
      · subst hie; exact with_cKE s ts hte (by omega) fT k1
      · exact with_create ⟨ts, is⟩ s hte hie htl hil k1 fT
  have k1 : (s.kind == 1) = false := by simpa using h1
  by_cases h2 : s.kind = 2
  · have k2 : (s.kind == 2) = true := by simpa using h2
    rw [show withM ⟨ts, is⟩ s = ⟨ts, is.take (lbM (is.map Idx.n) s.name) ++ ⟨s.name, s.table, s.col⟩ :: is.drop (lbM (is.map Idx.n) s.name)⟩ by simp [withM, h2]]
    by_cases hie : is = []
    · subst hie; exact with_mKE s ts (hT (.inl h2)) (by omega) k1 k2
    · exact with_mark ⟨ts, is⟩ s (hT (.inl h2)) hie htl hil k1 k2 fX
  have k2 : (s.kind == 2) = false := by simpa using h2
  by_cases h3 : s.kind = 3
  · have k3 : (s.kind == 3) = true := by simpa using h3
    rw [show withM ⟨ts, is⟩ s = ⟨ts.filter (fun x => !(x.n == s.name)), is.filter (fun x => !(x.tb == s.name))⟩ by simp [withM, h3]]
    have hte := hT (.inr h3)
    have hitT : ts.filter (fun x => !(x.n == s.name)) = [] → ∃ i x, (∀ y ∈ ts.take i, (fun t : Tab => t.n == s.name) y = false) ∧ ts[i]? = some x ∧ (fun t : Tab => t.n == s.name) x = true := fun h => first_hit (fun hall => hte (by
      refine List.eq_nil_iff_forall_not_mem.2 (fun t ht => ?_)
      have : t ∈ ts.filter (fun x => !(x.n == s.name)) := List.mem_filter.2 ⟨ht, by have := hall t ht; simp only [this]; rfl⟩
      rw [h] at this; cases this))
    have hitX : is ≠ [] → is.filter (fun x => !(x.tb == s.name)) = [] → ∃ i x, (∀ y ∈ is.take i, (fun t : Idx => t.tb == s.name) y = false) ∧ is[i]? = some x ∧ (fun t : Idx => t.tb == s.name) x = true := fun hne h => first_hit (fun hall => hne (by
      refine List.eq_nil_iff_forall_not_mem.2 (fun t ht => ?_)
      have : t ∈ is.filter (fun x => !(x.tb == s.name)) := List.mem_filter.2 ⟨ht, by have := hall t ht; simp only [this]; rfl⟩
      rw [h] at this; cases this))
    by_cases hie : is = []
    · subst hie
      by_cases hf : ts.filter (fun x => !(x.n == s.name)) = []
      · obtain ⟨i, x, a1, a2, a3⟩ := hitT hf
        rw [hf]
        exact with_dNE s ts hte (by omega) hf i x a1 a2 a3 k1 k2 k3
      · exact with_dKE s ts hte (by omega) hf k1 k2 k3
    · by_cases hf : ts.filter (fun x => !(x.n == s.name)) = []
      · obtain ⟨i, x, a1, a2, a3⟩ := hitT hf
        obtain ⟨j, y, b1, b2, b3⟩ := hitX hie (hN hf)
        have hN' := hN hf
        rw [hf, hN']
        exact with_dNN s ts hte (by omega) hf i x a1 a2 a3 is hie (by omega) hN' j y b1 b2 b3 k1 k2 k3
      · by_cases hg' : is.filter (fun x => !(x.tb == s.name)) = []
        · obtain ⟨j, y, b1, b2, b3⟩ := hitX hie hg'
          rw [hg']
          exact with_dKN s ts hte (by omega) hf is hie (by omega) hg' j y b1 b2 b3 k1 k2 k3
        · exact with_dropKK ⟨ts, is⟩ s hte hie htl hil k1 k2 k3 hf hg'
  have k3 : (s.kind == 3) = false := by simpa using h3
  rw [show withM ⟨ts, is⟩ s = ⟨ts, is⟩ by simp [withM, h1, h2, h3]]
  by_cases hte : ts = []
  · have hie := hE hte; subst hte; subst hie; exact with_oEE s k1 k2 k3
  · by_cases hie : is = []
    · subst hie; exact with_oKE s ts hte (by omega) k1 k2 k3
    · exact with_other ⟨ts, is⟩ s hte hie htl hil k1 k2 k3
end Go.Proofs.YthkobnpogigkiaaDoor
/- A catalog behind a command: SchemaWith answers true. Conditions: how much there is of what comes in. -/
namespace Go.Proofs.YthkobnpogigkiaaDoor
open Go.Abs
set_option maxRecDepth 100000
attribute [local irreducible] L Code.wp bodyPost Exit.then Exit.inBlock
set_option linter.unusedVariables false
set_option linter.unusedSimpArgs false
theorem named_len {s : Str} (h : namedM s = true) : s.length ≤ 8 := by
  simp only [namedM, Bool.and_eq_true, decide_eq_true_eq] at h; exact h.2.2.1
theorem goodTab_ok {t : Tab} (h : goodTabM t = true) : t.Ok := by
  simp only [goodTabM, Bool.and_eq_true, decide_eq_true_eq] at h
  obtain ⟨h1, h2, h3, h4, h5⟩ := h
  refine ⟨by have := named_len h2; omega, by omega, fun c hc => ?_⟩
  obtain ⟨i, hi⟩ := List.getElem?_of_mem hc
  have := zip_all.1 h1 i c hi
  simp only [colOk, Bool.not_eq_true', Bool.or_eq_false_iff, Bool.not_eq_false'] at this
  have := named_len this.1.1
  omega
theorem GoodC.ok {c : Cat} (h : GoodC c) : c.Ok :=
  ⟨by have := h.tl; omega, by have := h.il; omega, fun t ht => goodTab_ok (h.tabs t ht), fun x hx => by have := named_len (h.idx x hx).1; omega⟩
set_option maxHeartbeats 16000000 in
theorem schemaWith_any (c : Cat) (hc : c.Ok) (s : Stm) (hok : s.Ok) :
    CallG gs0 Tryd.prog 4 [.agg (c.c.map .iv), .agg (s.cs.map .iv)] [] [] [] (aB true) := by
  have kb := bindSt_any c hc s hok
  have kS := schemas_any
  obtain ⟨⟨b, f⟩, hb⟩ : ∃ r, bindStM c s = r := ⟨_, rfl⟩
  rw [hb] at kb
  dsimp only at kb
  refine CallG.intro _ Tryd.func4 rfl Tryd.ntmps4 rfl (fun w0 E0 hG => ?_)
  by_cases hf : f = 0
  case neg =>
    have q : (f != 0) = true := by simpa using hf
    obtain ⟨kind, name, table, col, cols, rows, sets, frm, out, wh, ord, down, n⟩ := s
    (repeat' (first | (refine LW.is ?_; first | (apply s_callG; exact rfl; exact hG; (first | exact kb | exact kS); exact rfl; exact rfl) | refine s_v ?_ | refine s_m ?_ | refine s_nil ?_ | refine s_gd ?_ | (refine s_gsplit rfl rfl rfl (fun hb => ?_) (fun hb => ?_) <;> refine fct hb (fun hp => ?_))) | (refine DR.is ?_; first | (apply d_callG; exact rfl; exact hG; (first | exact kb | exact kS); exact rfl; exact rfl) | refine d_v ?_ | refine d_m ?_ | (apply d_nil; kernel_rfl) | refine d_gd ?_ | (refine d_gsplit rfl rfl rfl (fun hb => ?_) (fun hb => ?_) <;> refine fct hb (fun hp => ?_))) | refine c_go ?_ | refine s_region ?_ | refine d_region ?_ | (refine L.cond rfl (fun hb => ?_) (fun hb => ?_) <;> refine fct hb (fun hp => ?_))))
    all_goals (first | (apply L.ends1; exact rfl; exact rfl; exact rfl) | (apply L.ends2; exact rfl; exact rfl; exact rfl) | (apply L.ends3; exact rfl; exact rfl; exact rfl) | (apply L.ends1A; exact rfl; exact rfl; exact rfl) | (apply L.ends2A; exact rfl; exact rfl; exact rfl) | (apply L.ends3A; exact rfl; exact rfl; exact rfl))
    all_goals rfl
  subst hf
  have q : ((0 : Int) != 0) = false := rfl
  have W := with_law hb
  have kw := with_any (gs := gs0) c b W.base W.tne
  have kg := goodCat_any (withM c b) W.good.ok
  rw [(goodC_iff _).2 W.good] at kg
  have kf := findTable_any (withM c b) s.name (by have := W.good.tl; omega)
  obtain ⟨hk1, hk7⟩ := form_kind (bound_pre hb).1
  obtain ⟨_, hcrt, hdrp, hlen, _, _⟩ := W
  generalize withM c b = d at *
  by_cases h1 : s.kind = 1
  · have hcrt := hcrt h1
    have hlen := hlen (by omega)
    rw [hcrt] at kf
    have q1 : (s.kind != 1) = false := by simp [h1]
    have q3 : (s.kind != 3) = true := by simp [h1]
    have q4 : decide (3 < s.kind) = false := by simp [h1]
    obtain ⟨kind, name, table, col, cols, rows, sets, frm, out, wh, ord, down, n⟩ := s
    (repeat' (first | (refine LW.is ?_; first | (apply s_callG; exact rfl; exact hG; (first | exact kb | exact kS | exact kw | exact kg); exact rfl; exact rfl) | (apply s_call0; exact rfl; (first | exact kf); exact rfl; exact rfl) | refine s_v ?_ | refine s_m ?_ | refine s_nil ?_ | refine s_gd ?_ | (refine s_gsplit rfl rfl rfl (fun hb => ?_) (fun hb => ?_) <;> refine fct hb (fun hp => ?_))) | (refine DR.is ?_; first | (apply d_callG; exact rfl; exact hG; (first | exact kb | exact kS | exact kw | exact kg); exact rfl; exact rfl) | (apply d_call0; exact rfl; (first | exact kf); exact rfl; exact rfl) | refine d_v ?_ | refine d_m ?_ | (apply d_nil; kernel_rfl) | refine d_gd ?_ | (refine d_gsplit rfl rfl rfl (fun hb => ?_) (fun hb => ?_) <;> refine fct hb (fun hp => ?_))) | refine c_go ?_ | refine s_region ?_ | refine d_region ?_ | (refine L.cond rfl (fun hb => ?_) (fun hb => ?_) <;> refine fct hb (fun hp => ?_))))
    all_goals (first | (apply L.ends1; exact rfl; exact rfl; exact rfl) | (apply L.ends2; exact rfl; exact rfl; exact rfl) | (apply L.ends3; exact rfl; exact rfl; exact rfl) | (apply L.ends1A; exact rfl; exact rfl; exact rfl) | (apply L.ends2A; exact rfl; exact rfl; exact rfl) | (apply L.ends3A; exact rfl; exact rfl; exact rfl))
    all_goals (first | (first | (simp only [*, Bool.true_and, Bool.and_true, Bool.false_or, Bool.or_false, Bool.or_true, Bool.true_or, Bool.false_and, Bool.and_false, Bool.not_true, Bool.not_false, decide_true, decide_false]; done) | (simp only [*, Bool.true_and, Bool.and_true, Bool.false_or, Bool.or_false, Bool.or_true, Bool.true_or, Bool.false_and, Bool.and_false, Bool.not_true, Bool.not_false, decide_true, decide_false]; simp; done) | (simp [*]; done) | (simp_all; done)) | (exfalso; simp only [List.length_map, beq_iff_eq] at *; omega))
  by_cases h3 : s.kind = 3
  · have hdrp := hdrp h3
    have hlen := hlen (by omega)
    rw [hdrp] at kf
    have q1 : (s.kind != 1) = true := by simp [h3]
    have q3 : (s.kind != 3) = false := by simp [h3]
    have q4 : decide (3 < s.kind) = false := by simp [h3]
    obtain ⟨kind, name, table, col, cols, rows, sets, frm, out, wh, ord, down, n⟩ := s
    (repeat' (first | (refine LW.is ?_; first | (apply s_callG; exact rfl; exact hG; (first | exact kb | exact kS | exact kw | exact kg); exact rfl; exact rfl) | (apply s_call0; exact rfl; (first | exact kf); exact rfl; exact rfl) | refine s_v ?_ | refine s_m ?_ | refine s_nil ?_ | refine s_gd ?_ | (refine s_gsplit rfl rfl rfl (fun hb => ?_) (fun hb => ?_) <;> refine fct hb (fun hp => ?_))) | (refine DR.is ?_; first | (apply d_callG; exact rfl; exact hG; (first | exact kb | exact kS | exact kw | exact kg); exact rfl; exact rfl) | (apply d_call0; exact rfl; (first | exact kf); exact rfl; exact rfl) | refine d_v ?_ | refine d_m ?_ | (apply d_nil; kernel_rfl) | refine d_gd ?_ | (refine d_gsplit rfl rfl rfl (fun hb => ?_) (fun hb => ?_) <;> refine fct hb (fun hp => ?_))) | refine c_go ?_ | refine s_region ?_ | refine d_region ?_ | (refine L.cond rfl (fun hb => ?_) (fun hb => ?_) <;> refine fct hb (fun hp => ?_))))
    all_goals (first | (apply L.ends1; exact rfl; exact rfl; exact rfl) | (apply L.ends2; exact rfl; exact rfl; exact rfl) | (apply L.ends3; exact rfl; exact rfl; exact rfl) | (apply L.ends1A; exact rfl; exact rfl; exact rfl) | (apply L.ends2A; exact rfl; exact rfl; exact rfl) | (apply L.ends3A; exact rfl; exact rfl; exact rfl))
    all_goals (first | (first | (simp only [*, Bool.true_and, Bool.and_true, Bool.false_or, Bool.or_false, Bool.or_true, Bool.true_or, Bool.false_and, Bool.and_false, Bool.not_true, Bool.not_false, decide_true, decide_false]; done) | (simp only [*, Bool.true_and, Bool.and_true, Bool.false_or, Bool.or_false, Bool.or_true, Bool.true_or, Bool.false_and, Bool.and_false, Bool.not_true, Bool.not_false, decide_true, decide_false]; simp; done) | (simp [*]; done) | (simp_all; done)) | (exfalso; simp only [List.length_map, beq_iff_eq] at *; omega))
  have q1 : (s.kind != 1) = true := by simp [h1]
  have q3 : (s.kind != 3) = true := by simp [h3]
  by_cases h4 : s.kind ≤ 3
  · have hlen := hlen h4
    have q4 : decide (3 < s.kind) = false := by simp; omega
    obtain ⟨kind, name, table, col, cols, rows, sets, frm, out, wh, ord, down, n⟩ := s
    (repeat' (first | (refine LW.is ?_; first | (apply s_callG; exact rfl; exact hG; (first | exact kb | exact kS | exact kw | exact kg); exact rfl; exact rfl) | (apply s_call0; exact rfl; (first | exact kf); exact rfl; exact rfl) | refine s_v ?_ | refine s_m ?_ | refine s_nil ?_ | refine s_gd ?_ | (refine s_gsplit rfl rfl rfl (fun hb => ?_) (fun hb => ?_) <;> refine fct hb (fun hp => ?_))) | (refine DR.is ?_; first | (apply d_callG; exact rfl; exact hG; (first | exact kb | exact kS | exact kw | exact kg); exact rfl; exact rfl) | (apply d_call0; exact rfl; (first | exact kf); exact rfl; exact rfl) | refine d_v ?_ | refine d_m ?_ | (apply d_nil; kernel_rfl) | refine d_gd ?_ | (refine d_gsplit rfl rfl rfl (fun hb => ?_) (fun hb => ?_) <;> refine fct hb (fun hp => ?_))) | refine c_go ?_ | refine s_region ?_ | refine d_region ?_ | (refine L.cond rfl (fun hb => ?_) (fun hb => ?_) <;> refine fct hb (fun hp => ?_))))
    all_goals (first | (apply L.ends1; exact rfl; exact rfl; exact rfl) | (apply L.ends2; exact rfl; exact rfl; exact rfl) | (apply L.ends3; exact rfl; exact rfl; exact rfl) | (apply L.ends1A; exact rfl; exact rfl; exact rfl) | (apply L.ends2A; exact rfl; exact rfl; exact rfl) | (apply L.ends3A; exact rfl; exact rfl; exact rfl))
    all_goals (first | (first | (simp only [*, Bool.true_and, Bool.and_true, Bool.false_or, Bool.or_false, Bool.or_true, Bool.true_or, Bool.false_and, Bool.and_false, Bool.not_true, Bool.not_false, decide_true, decide_false]; done) | (simp only [*, Bool.true_and, Bool.and_true, Bool.false_or, Bool.or_false, Bool.or_true, Bool.true_or, Bool.false_and, Bool.and_false, Bool.not_true, Bool.not_false, decide_true, decide_false]; simp; done) | (simp [*]; done) | (simp_all; done)) | (exfalso; simp only [List.length_map, beq_iff_eq] at *; omega))
  · have q4 : decide (3 < s.kind) = true := by simp; omega
    obtain ⟨kind, name, table, col, cols, rows, sets, frm, out, wh, ord, down, n⟩ := s
    (repeat' (first | (refine LW.is ?_; first | (apply s_callG; exact rfl; exact hG; (first | exact kb | exact kS | exact kw | exact kg); exact rfl; exact rfl) | (apply s_call0; exact rfl; (first | exact kf); exact rfl; exact rfl) | refine s_v ?_ | refine s_m ?_ | refine s_nil ?_ | refine s_gd ?_ | (refine s_gsplit rfl rfl rfl (fun hb => ?_) (fun hb => ?_) <;> refine fct hb (fun hp => ?_))) | (refine DR.is ?_; first | (apply d_callG; exact rfl; exact hG; (first | exact kb | exact kS | exact kw | exact kg); exact rfl; exact rfl) | (apply d_call0; exact rfl; (first | exact kf); exact rfl; exact rfl) | refine d_v ?_ | refine d_m ?_ | (apply d_nil; kernel_rfl) | refine d_gd ?_ | (refine d_gsplit rfl rfl rfl (fun hb => ?_) (fun hb => ?_) <;> refine fct hb (fun hp => ?_))) | refine c_go ?_ | refine s_region ?_ | refine d_region ?_ | (refine L.cond rfl (fun hb => ?_) (fun hb => ?_) <;> refine fct hb (fun hp => ?_))))
    all_goals (first | (apply L.ends1; exact rfl; exact rfl; exact rfl) | (apply L.ends2; exact rfl; exact rfl; exact rfl) | (apply L.ends3; exact rfl; exact rfl; exact rfl) | (apply L.ends1A; exact rfl; exact rfl; exact rfl) | (apply L.ends2A; exact rfl; exact rfl; exact rfl) | (apply L.ends3A; exact rfl; exact rfl; exact rfl))
    all_goals (first | (first | (simp only [*, Bool.true_and, Bool.and_true, Bool.false_or, Bool.or_false, Bool.or_true, Bool.true_or, Bool.false_and, Bool.and_false, Bool.not_true, Bool.not_false, decide_true, decide_false]; done) | (simp only [*, Bool.true_and, Bool.and_true, Bool.false_or, Bool.or_false, Bool.or_true, Bool.true_or, Bool.false_and, Bool.and_false, Bool.not_true, Bool.not_false, decide_true, decide_false]; simp; done) | (simp [*]; done) | (simp_all; done)) | (exfalso; simp only [List.length_map, beq_iff_eq] at *; omega))
end Go.Proofs.YthkobnpogigkiaaDoor
/- A logic of abstract states, part 27: a law's call where package variables are laid. Conditions: the premises. -/
namespace Go.Abs
open Go.RowKit (Below)
set_option linter.unusedVariables false
theorem law_callsG {P : Program} {gs : Globs} {f : FuncId} {avs : List AV} (hc : CallG gs P f avs [] [] [] (aB true)) {W : World} {us : List Value} (φ : Nat → Nat) (hφ : ∀ b, W.heap.size ≤ b → φ b = 0) (hG : Glob gs (lawEnv φ) W) (hr : RelL (lawEnv φ) W avs us) :
    Calls P f us.toArray W fun e w' => e = .returned (.bool true) ∧ Below W.heap.size W w' := by
  refine (hc (lawEnv φ) W us hr ?_ hG).mono ?_
  · exact ⟨fun id b h => by simp at h, fun id t h => by simp at h, fun i j b b' h => by simp at h, fun i j t t' g h => by simp at h, fun i j b t h => by simp at h, fun i b h => by simp at h, fun i t g h => by simp at h,
      hφ, fun b _ => rfl, fun id h => by simp [keys] at h, KeptBut.refl _ _⟩
  · rintro e w' ⟨u, E', he, hu, hh⟩
    have hv := hu.iv_im
    subst hv
    refine ⟨he, ?_⟩
    have hk := hh.kept
    exact ⟨hk.os, hk.tape, hk.output, hk.size, fun k hlt => hk.block k hlt (fun ⟨id, hid, _⟩ => by simp [keys] at hid)⟩
theorem laid_strs {P : Program} {W : World} {n : String} {g : Nat} {t e : TypeId} {cs : Array Value} {fuel : Nat} {p : List MemPlace} {ws : List (List UInt8)} (hg : P.globalNamed n = some g) (hv : W.var? P n = some cs) (ht : P.underlying t = some (.slice e)) (he : P.underlying e = some .string) (hce : P.cellsOf e = 1) (hne : ws ≠ [])
    (hd : DataW.trod (fun _ => ()) P W 0 (fun _ => true) false fuel t cs.toList = some (.slice (ws.map fun s => .lit (.string s)) [], p)) :
    ∀ (i : Nat) (x : IV), [IV.sl (ws.map fun s => [S s])][i]? = some x → i < sizes W g ∧ ∃ v, W.cell? ⟨g, i, none⟩ = some v ∧ RepI (sizes W) W x v := by
  intro i x hx
  cases i with
  | succ i => simp at hx
  | zero =>
    simp only [List.getElem?_cons_zero, Option.some.injEq] at hx
    subst hx
    rcases DataW.trod_slice ht hd with ⟨_, h⟩ | ⟨a, len, cap, elems, rest, n', _, hcs, hxe, _, hlc, hcm, hel, hget, _, _⟩
    · simp at h
    · simp only [Prod.mk.injEq, DataW.slice.injEq] at hxe
      obtain ⟨⟨hm, hr⟩, _⟩ := hxe
      have hlen : len = ws.length := by rw [← hel]; have := congrArg List.length hm; simpa using this.symm
      have hcell : W.cell? ⟨g, 0, none⟩ = some (.slice (some a) len cap) := by
        rw [World.var?_cell hg hv 0, ← Array.getElem?_toList, hcs]; rfl
      have each : ∀ j s, ws[j]? = some s → W.cell? ((a.add j).add 0) = some (.string ⟨s.toArray⟩) := by
        intro j s hs
        have hj : j < ws.length := (List.getElem?_eq_some_iff.1 hs).1
        have h1 := hget j (by omega)
        rw [hce, Nat.mul_one] at h1
        have hje : elems[j]? = some elems[j] := List.getElem?_eq_getElem (by omega)
        rw [hje] at h1
        obtain ⟨c1, hc1, hc2⟩ := Option.bind_eq_some_iff.1 h1
        obtain ⟨b, rfl, hb, _⟩ := DataW.trod_string he hc2
        obtain ⟨_, hc3, hc4⟩ := World.cells?_some hc1
        have h0 := hc4 0 (by decide)
        have hmj := congrArg (fun l => l[j]?) hm
        simp only [List.getElem?_map, hs, hje, Option.map_some, Option.some.injEq] at hmj
        rw [hb] at hmj
        simp only [DataW.lit.injEq, Lit.string.injEq] at hmj
        rw [h0, hmj]
        rfl
      refine ⟨sizes_cell hcell, _, hcell, ?_⟩
      obtain ⟨b, o, spot⟩ := a
      obtain ⟨s0, hs0⟩ : ∃ s0, ws[0]? = some s0 := ⟨_, List.getElem?_eq_getElem (List.length_pos_iff.2 hne)⟩
      have hsp : spot = none := by simpa [Addr.add] using World.cell?_spot (each 0 s0 hs0)
      subst hsp
      have hl2 : len = (ws.map fun s => [S s]).length := by rw [hlen, List.length_map]
      rw [hl2]
      refine .sl (k := 1) (fun i j => .string ⟨(ws.getD i []).toArray⟩) (by omega) hcm ?_ ?_ ?_ ?_
      · intro i e' he'
        simp only [List.getElem?_map, Option.map_eq_some_iff] at he'
        obtain ⟨s, _, rfl⟩ := he'
        rfl
      all_goals
        intro i e' j x' he' hx'
        simp only [List.getElem?_map, Option.map_eq_some_iff] at he'
        obtain ⟨s, hs, rfl⟩ := he'
        have hj : j = 0 := by have := (List.getElem?_eq_some_iff.1 hx').1; simp at this; omega
        subst hj
        have hc := each i s hs
        rw [Addr.add_none, Addr.add_none] at hc
        have hgd : ws.getD i [] = s := by rw [List.getD_eq_getElem?_getD, hs]; rfl
        simp only [List.getElem?_cons_zero, Option.some.injEq] at hx'
        subst hx'
        try rw [hgd]
        first
          | (have := sizes_cell hc; omega)
          | (rw [show o + i * 1 + 0 = o + i + 0 by omega]; exact hc)
          | exact .im rfl
end Go.Abs
